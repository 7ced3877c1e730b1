/- ModelRuns. -/
import Derived.Test.YtpfegioooibjlaaModelTiers
namespace Go.Proofs.Ytpfegioooibjlaa
open Go.RowKit
set_option linter.unusedVariables false
set_option linter.unusedSimpArgs false
def R1 (bs : List Int) (w : World) (i : Value) (wr : World) : Prop := ∃ k : Nat, k ≤ bs.length ∧ i = .int .i64 k ∧ (∀ j, j < k → inR (bs.getD j 0) = true) ∧ w = wr
theorem run_no (base : Nat) (c0 c1 c2 : Int) (A : Option Addr) (n c : Nat) (bs : List Int) (w : World) (hbase : base ≤ w.heap.size) (hbs : IntsAt w (.slice A n c) bs) (hn : n ≤ 100000) (hr : rightC c0 c1 c2 = false) :
    Calls Try.prog 18 #[.agg #[.int .i64 c0, .int .i64 c1, .int .i64 c2], .slice A n c] w fun e w' => e = .returned (.tuple #[.pointer none, .int .i64 6]) ∧ Only Non w w' := by
  refine (run_any base c0 c1 c2 A n c bs w hbase hbs hn).mono fun e w' hp => ?_
  rw [RunPost, hr, if_neg (by decide)] at hp
  exact hp
theorem run_out (base : Nat) (c0 c1 c2 : Int) (A : Option Addr) (n c : Nat) (bs : List Int) (w : World) (hbase : base ≤ w.heap.size) (hbs : IntsAt w (.slice A n c) bs) (hn : n ≤ 100000) (hr : rightC c0 c1 c2 = true) (hal : bs.all inR = false) :
    Calls Try.prog 18 #[.agg #[.int .i64 c0, .int .i64 c1, .int .i64 c2], .slice A n c] w fun e w' => e = .returned (.tuple #[.pointer none, .int .i64 3]) ∧ Only Non w w' := by
  refine (run_any base c0 c1 c2 A n c bs w hbase hbs hn).mono fun e w' hp => ?_
  rw [RunPost, hr, if_pos rfl, hal, if_neg (by decide)] at hp
  exact hp
theorem run_yes (base : Nat) (c0 c1 c2 : Nat) (A : Option Addr) (n c : Nat) (bs : List Int) (w : World) (hbase : base ≤ w.heap.size) (hbs : IntsAt w (.slice A n c) bs) (hn : n ≤ 100000) (hr : rightC c0 c1 c2 = true) (hal : bs.all inR = true) :
    Calls Try.prog 18 #[.agg #[.int .i64 c0, .int .i64 c1, .int .i64 c2], .slice A n c] w fun e w' => ∃ lb F, e = .returned (.tuple #[.pointer (some ⟨lb, 0, none⟩), .int .i64 0]) ∧
      MdlIs w' base lb F c0 c1 c2 (refAll bs (c0 + c1 + c2)) (runM (c0 + c1 + c2) bs).2 ∧ (∀ k, F k → w.heap.size ≤ k) ∧ Only Non w w' := by
  have hbd := right_bd hr
  refine (run_any base c0 c1 c2 A n c bs w hbase hbs hn).mono fun e w' hp => ?_
  rw [RunPost, hr, if_pos rfl, hal, if_pos rfl] at hp
  simp only [Int.toNat_natCast] at hp
  rw [run_list (c0 + c1 + c2) (by omega)] at hp
  exact hp
section
set_option maxHeartbeats 4000000
set_option maxRecDepth 100000
theorem modelRuns_no (c0 c1 c2 : Int) (x : Int) (A : Option Addr) (c : Nat) (bs : List Int) (w : World) (hbs : IntsAt w (.slice A bs.length c) bs) (hlen : bs.length ≤ 200) (hr : rightC c0 c1 c2 = false) :
    Calls Try.prog 4 #[.agg #[.int .i64 c0, .int .i64 c1, .int .i64 c2], .int .u8 x, .slice A bs.length c] w (Ret (.bool true) Non w) := by
  have HW := Lib.hid (fun w => mwakes w)
  have hal : Only Non w (w.alloc (.cells #[.int .i64 c0, .int .i64 c1, .int .i64 c2] 22)) := (Only.refl _ _).alloc _
  have hb := Box.fresh w 22 #[.int .i64 c0, .int .i64 c1, .int .i64 c2]
  have Hal := Lib.hid hal
  have Hb := Lib.hid hb
  have Hsz := Lib.hid (show w.heap.size + 1 ≤ (w.alloc (.cells #[.int .i64 c0, .int .i64 c1, .int .i64 c2] 22)).heap.size from by rw [World.size_alloc]; omega)
  have Hbs0 := Lib.hid hbs
  have Hbs := Lib.hid (show IntsAt (w.alloc (.cells #[.int .i64 c0, .int .i64 c1, .int .i64 c2] 22)) (.slice A bs.length c) bs from hbs.keep hal fun _ _ _ _ _ => id)
  obtain ⟨Ab, cb', eb, hcb, hcm⟩ := hbs.shape
  injection eb with eb1 eb2 eb3
  subst eb1 eb3
  clear eb2
  unfold maxLen at hcm
  clear hal hb hbs
  generalize hn : bs.length = n at *
  have Hn := Lib.hid hn
  clear hn
  go_enter Try.func4, Try.ntmps4
  go_wp2_with fail
  generalize w.alloc (.cells #[.int .i64 c0, .int .i64 c1, .int .i64 c2] 22) = W at *
  refine (HW.out _).mono ?_
  rintro e w1 ⟨rfl, ho⟩
  have Ho1 := Lib.hid (Hal.out.trans ho)
  have Hb1 := Lib.hid (ho.box Hb.out id)
  have Hbs1 := Lib.hid (Hbs.out.keep ho fun _ _ _ _ _ => id)
  have Hsz1 := Lib.hid (Nat.le_trans Hsz.out ho.size)
  clear ho Hal Hb Hbs Hsz
  have d0 : w1.cell? ⟨w.heap.size, 0, none⟩ = some (.int .i64 c0) := Hb1.out.cellAt rfl
  have d1 : w1.cell? ⟨w.heap.size, 1, none⟩ = some (.int .i64 c1) := Hb1.out.cellAt rfl
  have d2 : w1.cell? ⟨w.heap.size, 2, none⟩ = some (.int .i64 c2) := Hb1.out.cellAt rfl
  have hRun := run_no (w.heap.size + 1) c0 c1 c2 A n c bs w1 Hsz1.out Hbs1.out (by omega) hr
  have HRun := Lib.hid hRun
  have hRt := fun w => right_any c0 c1 c2 w
  rw [hr] at hRt
  have HRt := Lib.hid hRt
  clear hr hRt hRun
  go_wp2_with fail
  refine HRun.out.mono ?_
  rintro e w2 ⟨rfl, ho⟩
  have Ho2 := Lib.hid (Ho1.out.trans ho)
  have d0 := ho.cell d0 id
  have d1 := ho.cell d1 id
  have d2 := ho.cell d2 id
  clear ho
  go_wp2_with fail
  refine (HRt.out _).mono ?_
  rintro e w3 ⟨rfl, ho⟩
  have Ho3 := Lib.hid (Ho2.out.trans ho)
  clear ho
  go_wp2_with fail
  go_ret
  exact ⟨rfl, Ho3.out⟩
theorem modelRuns_out (c0 c1 c2 : Nat) (x : Int) (A : Option Addr) (c : Nat) (bs : List Int) (w : World) (hbs : IntsAt w (.slice A bs.length c) bs) (hlen : bs.length ≤ 200) (hr : rightC c0 c1 c2 = true) (hal : bs.all inR = false) :
    Calls Try.prog 4 #[.agg #[.int .i64 c0, .int .i64 c1, .int .i64 c2], .int .u8 x, .slice A bs.length c] w (Ret (.bool true) Non w) := by
  have HW := Lib.hid (fun w => mwakes w)
  have hall : Only Non w (w.alloc (.cells #[.int .i64 c0, .int .i64 c1, .int .i64 c2] 22)) := (Only.refl _ _).alloc _
  have hb := Box.fresh w 22 #[.int .i64 c0, .int .i64 c1, .int .i64 c2]
  have Hal := Lib.hid hall
  have Hb := Lib.hid hb
  have Hsz := Lib.hid (show w.heap.size + 1 ≤ (w.alloc (.cells #[.int .i64 c0, .int .i64 c1, .int .i64 c2] 22)).heap.size from by rw [World.size_alloc]; omega)
  have Hbs0 := Lib.hid hbs
  have Hbs := Lib.hid (show IntsAt (w.alloc (.cells #[.int .i64 c0, .int .i64 c1, .int .i64 c2] 22)) (.slice A bs.length c) bs from hbs.keep hall fun _ _ _ _ _ => id)
  obtain ⟨Ab, cb', eb, hcb, hcm⟩ := hbs.shape
  injection eb with eb1 eb2 eb3
  subst eb1 eb3
  clear eb2
  unfold maxLen at hcm
  clear hall hb hbs
  generalize hn : bs.length = n at *
  have Hn := Lib.hid hn
  clear hn
  go_enter Try.func4, Try.ntmps4
  go_wp2_with fail
  generalize w.alloc (.cells #[.int .i64 c0, .int .i64 c1, .int .i64 c2] 22) = W at *
  refine (HW.out _).mono ?_
  rintro e w1 ⟨rfl, ho⟩
  have Ho1 := Lib.hid (Hal.out.trans ho)
  have Hb1 := Lib.hid (ho.box Hb.out id)
  have Hbs1 := Lib.hid (Hbs.out.keep ho fun _ _ _ _ _ => id)
  have Hsz1 := Lib.hid (Nat.le_trans Hsz.out ho.size)
  clear ho Hal Hb Hbs Hsz
  have d0 : w1.cell? ⟨w.heap.size, 0, none⟩ = some (.int .i64 c0) := Hb1.out.cellAt rfl
  have d1 : w1.cell? ⟨w.heap.size, 1, none⟩ = some (.int .i64 c1) := Hb1.out.cellAt rfl
  have d2 : w1.cell? ⟨w.heap.size, 2, none⟩ = some (.int .i64 c2) := Hb1.out.cellAt rfl
  have hRun := run_out (w.heap.size + 1) c0 c1 c2 A n c bs w1 Hsz1.out Hbs1.out (by omega) hr hal
  have HRun := Lib.hid hRun
  have hRt := fun w => right_any c0 c1 c2 w
  rw [hr] at hRt
  have HRt := Lib.hid hRt
  have Hna := Lib.hid (show ¬ ∀ j, j < bs.length → inR (bs.getD j 0) = true from fun h => by rw [(all_at bs).2 h] at hal; cases hal)
  clear hr hRt hRun hal
  go_wp2_with fail
  refine HRun.out.mono ?_
  rintro e w2 ⟨rfl, ho⟩
  have Ho2 := Lib.hid (Ho1.out.trans ho)
  have Hbs2 := Lib.hid (Hbs1.out.keep ho fun _ _ _ _ _ => id)
  have d0 := ho.cell d0 id
  have d1 := ho.cell d1 id
  have d2 := ho.cell d2 id
  clear ho
  go_wp2_with fail
  refine (HRt.out _).mono ?_
  rintro e w3 ⟨rfl, ho⟩
  have Ho3 := Lib.hid (Ho2.out.trans ho)
  have Hbs3 := Lib.hid (Hbs2.out.keep ho fun _ _ _ _ _ => id)
  clear ho d0 d1 d2
  go_wp2_with fail
  go_loopw [35] (fun i wr => R1 bs w3 i wr) (fun i _ => n - (intOf i).toNat)
  case atStart => exact ⟨0, Nat.zero_le _, rfl, fun j hj => absurd hj (by omega), rfl⟩
  case round =>
    obtain ⟨k, hk, rfl, hok, rfl⟩ := hrel
    have Hok := Lib.hid hok
    clear hok
    rw [Hn.out] at hk
    by_cases hlt : k < n
    · obtain ⟨g, o, rfl, hc⟩ := Hbs3.out.cellAt (show k < bs.length by rw [Hn.out]; exact hlt)
      generalize hb : bs.getD k 0 = b at *
      have Hb := Lib.hid hb
      clear hb
      cases hin : inR b
      · have hno := inR_no hin
        clear hin
        rcases hno with hno | hno
        · go_wp2_with fail
          go_ret
          exact ⟨rfl, Ho3.out⟩
        · have hno2 : ¬ b < 0 := by omega
          go_wp2_with fail
          go_ret
          exact ⟨rfl, Ho3.out⟩
      · have hir := inR_yes hin
        have hb0 : ¬ b < 0 := by omega
        have hb1 : ¬ 63 < b := by omega
        have Hin := Lib.hid hin
        clear hin hir
        go_wp2_with fail
        refine ⟨⟨k + 1, by rw [Hn.out]; omega, by simp, fun j hj => ?_, rfl⟩, by simp [intOf]; omega⟩
        rcases Nat.lt_or_ge j k with h | h
        · exact Hok.out j h
        · obtain rfl : j = k := by omega
          rw [Hb.out]; exact Hin.out
    · exact absurd (fun j hj => Hok.out j (by rw [Hn.out] at hj; omega)) Hna.out
theorem modelRuns_walk (c0 c1 c2 : Nat) (x : Nat) (A : Option Addr) (c : Nat) (bs : List Int) (w : World) (hbs : IntsAt w (.slice A bs.length c) bs) (hlen : bs.length ≤ 200) (hx : x ≤ 255) (hr : rightC c0 c1 c2 = true) (hal : bs.all inR = true) :
    Calls Try.prog 4 #[.agg #[.int .i64 c0, .int .i64 c1, .int .i64 c2], .int .u8 x, .slice A bs.length c] w (Ret (.bool true) Non w) := by
  have HW := Lib.hid (fun w => mwakes w)
  have hall : Only Non w (w.alloc (.cells #[.int .i64 c0, .int .i64 c1, .int .i64 c2] 22)) := (Only.refl _ _).alloc _
  have hb := Box.fresh w 22 #[.int .i64 c0, .int .i64 c1, .int .i64 c2]
  have Hal := Lib.hid hall
  have Hb := Lib.hid hb
  have Hsz := Lib.hid (show w.heap.size + 1 ≤ (w.alloc (.cells #[.int .i64 c0, .int .i64 c1, .int .i64 c2] 22)).heap.size from by rw [World.size_alloc]; omega)
  have Hbs0 := Lib.hid hbs
  have Hbs := Lib.hid (show IntsAt (w.alloc (.cells #[.int .i64 c0, .int .i64 c1, .int .i64 c2] 22)) (.slice A bs.length c) bs from hbs.keep hall fun _ _ _ _ _ => id)
  obtain ⟨Ab, cb', eb, hcb, hcm⟩ := hbs.shape
  injection eb with eb1 eb2 eb3
  subst eb1 eb3
  clear eb2
  unfold maxLen at hcm
  clear hall hb hbs
  generalize hn : bs.length = n at *
  have Hn := Lib.hid hn
  clear hn
  go_enter Try.func4, Try.ntmps4
  go_wp2_with fail
  generalize w.alloc (.cells #[.int .i64 c0, .int .i64 c1, .int .i64 c2] 22) = W at *
  refine (HW.out _).mono ?_
  rintro e w1 ⟨rfl, ho⟩
  have Ho1 := Lib.hid (Hal.out.trans ho)
  have Hb1 := Lib.hid (ho.box Hb.out id)
  have Hbs1 := Lib.hid (Hbs.out.keep ho fun _ _ _ _ _ => id)
  have Hsz1 := Lib.hid (Nat.le_trans Hsz.out ho.size)
  clear ho Hal Hb Hbs Hsz
  have d0 : w1.cell? ⟨w.heap.size, 0, none⟩ = some (.int .i64 c0) := Hb1.out.cellAt rfl
  have d1 : w1.cell? ⟨w.heap.size, 1, none⟩ = some (.int .i64 c1) := Hb1.out.cellAt rfl
  have d2 : w1.cell? ⟨w.heap.size, 2, none⟩ = some (.int .i64 c2) := Hb1.out.cellAt rfl
  have hRun := run_yes (w.heap.size + 1) c0 c1 c2 A n c bs w1 Hsz1.out Hbs1.out (by omega) hr hal
  have hbd := right_bd hr
  have HRun := Lib.hid hRun
  have hRt := fun w => right_any c0 c1 c2 w
  rw [hr] at hRt
  have HRt := Lib.hid hRt
  have Hall := Lib.hid ((all_at bs).1 hal)
  have Hal2 := Lib.hid hal
  have hl1 := refAll_len bs (c0 + c1 + c2)
  have hm1 := runM_le (c0 + c1 + c2) bs
  have Hmore := Lib.hid (fun m' (h : c0 + c1 + c2 ≤ m') => run_more (c0 + c1 + c2) m' (by omega) h bs)
  have HRa := Lib.hid (fun w' (hi : IntsAt w' (.slice A n c) bs) => refall_any A c n (c0 + c1 + c2) bs w' hi (by omega) (by omega))
  rw [show (((c0 + c1 + c2 : Nat)) : Int) = (c0 : Int) + c1 + c2 from by simp] at HRa
  generalize (runM (c0 + c1 + c2) bs).2 = m1 at *
  generalize refAll bs (c0 + c1 + c2) = l1 at *
  have Hl1 := Lib.hid (show l1.length ≤ 48 from by omega)
  clear hr hRt hRun hal hl1
  go_wp2_with fail
  refine HRun.out.mono ?_
  rintro e w2 ⟨lb, F, rfl, hm, hF, ho⟩
  have Ho2 := Lib.hid (Ho1.out.trans ho)
  have Hbs2 := Lib.hid (Hbs1.out.keep ho fun _ _ _ _ _ => id)
  have Hb2 := Lib.hid (ho.box Hb1.out id)
  have Hm2 := Lib.hid hm
  have HF2 := Lib.hid hF
  have Hsz2 := Lib.hid (Nat.le_trans Hsz1.out ho.size)
  have d0 := ho.cell d0 id
  have d1 := ho.cell d1 id
  have d2 := ho.cell d2 id
  clear ho hm hF
  go_wp2_with fail
  refine (HRt.out _).mono ?_
  rintro e Z ⟨rfl, ho⟩
  have Ho3 := Lib.hid (Ho2.out.trans ho)
  have Hbs3 := Lib.hid (Hbs2.out.keep ho fun _ _ _ _ _ => id)
  have Hb3 := Lib.hid (ho.box Hb2.out id)
  have Hm3 := Lib.hid (Hm2.out.keep ho)
  have Hsz3 := Lib.hid (Nat.le_trans Hsz2.out ho.size)
  clear ho d0 d1 d2
  go_wp2_with fail
  go_loopw [35] (fun i wr => R1 bs Z i wr) (fun i _ => n - (intOf i).toNat)
  case atStart => exact ⟨0, Nat.zero_le _, rfl, fun j hj => absurd hj (by omega), rfl⟩
  case round =>
    obtain ⟨k, hk, rfl, hok, rfl⟩ := hrel
    clear hok
    rw [Hn.out] at hk
    by_cases hlt : k < n
    · obtain ⟨g, o, rfl, hc⟩ := Hbs3.out.cellAt (show k < bs.length by rw [Hn.out]; exact hlt)
      have hin := Hall.out k (by rw [Hn.out]; exact hlt)
      generalize bs.getD k 0 = b at *
      have hir := inR_yes hin
      have hb0 : ¬ b < 0 := by omega
      have hb1 : ¬ 63 < b := by omega
      clear hin hir
      go_wp2_with fail
      refine ⟨⟨k + 1, by rw [Hn.out]; omega, by simp, fun j hj => Hall.out j (by rw [Hn.out]; omega), rfl⟩, by simp [intOf]; omega⟩
    · have S0 := Lib.hid (show Z.cell? ⟨w.heap.size, 0, none⟩ = some (.int .i64 c0) from Hb3.out.cellAt rfl)
      have S1 := Lib.hid (show Z.cell? ⟨w.heap.size, 1, none⟩ = some (.int .i64 c1) from Hb3.out.cellAt rfl)
      have S2 := Lib.hid (show Z.cell? ⟨w.heap.size, 2, none⟩ = some (.int .i64 c2) from Hb3.out.cellAt rfl)
      have z0 := S0.out
      have z1 := S1.out
      have z2 := S2.out
      have HAl := Lib.hid (fun w' (ho : Only Non Z w') => all_any (w.heap.size + 1) lb F c0 c1 c2 l1 m1 w' (Hm3.out.keep ho))
      have HRa := Lib.hid (fun w' (ho : Only Non Z w') => HRa.out w' (Hbs3.out.keep ho fun _ _ _ _ _ => id))
      have ew : IntKind.i64.wrap ((c0 : Int) + c1) = c0 + c1 := IntWalk.i64_in _ (by omega)
      have ew2 : IntKind.i64.wrap ((c0 : Int) + c1 + c2) = c0 + c1 + c2 := IntWalk.i64_in _ (by omega)
      go_wp2_with fail
      refine wp_region_tail (S := fun w' => w'.cell? ⟨w.heap.size, 0, none⟩ = some (.int .i64 c0) ∧ w'.cell? ⟨w.heap.size, 1, none⟩ = some (.int .i64 c1) ∧ w'.cell? ⟨w.heap.size, 2, none⟩ = some (.int .i64 c2)) 13 (by kernel_rfl) (by kernel_rfl) ?_ ?_
      · refine ⟨?_, ?_, ?_⟩ <;> assumption
      intro hSS
      refine wpHd_take (i := 0) (v := ?_) (by kernel_rfl) rfl (by kernel_rfl) (fun _ _ _ h => h) (Or.inl ⟨by rfl, ?_⟩) (by assumption) ?_
      rotate_left
      · intro w hSw; (try dsimp only at hSw); go_simp; (try with_reducible rfl)
      try simp only [Act.put, List.getElem_toArray, List.getElem_cons_succ, List.getElem_cons_zero, List.setIfInBounds_toArray, List.set_cons_zero, List.set_cons_succ]
      refine wpHd_take (i := 2) (v := ?_) (by kernel_rfl) rfl (by kernel_rfl) (fun _ _ _ h => h) (Or.inl ⟨by rfl, ?_⟩) (by assumption) ?_
      rotate_left
      · intro w hSw; (try dsimp only at hSw); go_simp; (try with_reducible rfl)
      try simp only [Act.put, List.getElem_toArray, List.getElem_cons_succ, List.getElem_cons_zero, List.setIfInBounds_toArray, List.set_cons_zero, List.set_cons_succ]
      refine wpHd_take (i := 3) (v := ?_) (by kernel_rfl) rfl (by kernel_rfl) (fun _ _ _ h => h) (Or.inl ⟨by rfl, ?_⟩) (by assumption) ?_
      rotate_left
      · intro w hSw; (try dsimp only at hSw); go_simp; (try with_reducible rfl)
      try simp only [Act.put, List.getElem_toArray, List.getElem_cons_succ, List.getElem_cons_zero, List.setIfInBounds_toArray, List.set_cons_zero, List.set_cons_succ]
      refine wpHd_take (i := 4) (v := ?_) (by kernel_rfl) rfl (by kernel_rfl) (fun _ _ _ h => h) (Or.inl ⟨by rfl, ?_⟩) (by assumption) ?_
      rotate_left
      · intro w hSw; (try dsimp only at hSw); go_simp; (try with_reducible rfl)
      try simp only [Act.put, List.getElem_toArray, List.getElem_cons_succ, List.getElem_cons_zero, List.setIfInBounds_toArray, List.set_cons_zero, List.set_cons_succ]
      refine wpHd_take (i := 5) (v := ?_) (by kernel_rfl) rfl (by kernel_rfl) (fun _ _ _ h => h) (Or.inl ⟨by rfl, ?_⟩) (by assumption) ?_
      rotate_left
      · intro w hSw; (try dsimp only at hSw); go_simp; (try with_reducible rfl)
      try simp only [Act.put, List.getElem_toArray, List.getElem_cons_succ, List.getElem_cons_zero, List.setIfInBounds_toArray, List.set_cons_zero, List.set_cons_succ]
      refine wpHd_take (i := 6) (v := ?_) (by kernel_rfl) rfl (by kernel_rfl) (fun _ _ _ h => h) (Or.inl ⟨by rfl, ?_⟩) (by assumption) ?_
      rotate_left
      · intro w hSw; (try dsimp only at hSw); go_simp; (try with_reducible rfl)
      try simp only [Act.put, List.getElem_toArray, List.getElem_cons_succ, List.getElem_cons_zero, List.setIfInBounds_toArray, List.set_cons_zero, List.set_cons_succ]
      refine wpHd_take (i := 7) (v := ?_) (by kernel_rfl) rfl (by kernel_rfl) (fun _ _ _ h => h) (Or.inl ⟨by rfl, ?_⟩) (by assumption) ?_
      rotate_left
      · intro w hSw; (try dsimp only at hSw); go_simp; (try with_reducible rfl)
      try simp only [Act.put, List.getElem_toArray, List.getElem_cons_succ, List.getElem_cons_zero, List.setIfInBounds_toArray, List.set_cons_zero, List.set_cons_succ]
      refine wpHd_take (i := 8) (v := ?_) (by kernel_rfl) rfl (by kernel_rfl) (fun _ _ _ h => h) (Or.inl ⟨by rfl, ?_⟩) (by assumption) ?_
      rotate_left
      · intro w hSw; (try dsimp only at hSw); go_simp; (try with_reducible rfl)
      try simp only [Act.put, List.getElem_toArray, List.getElem_cons_succ, List.getElem_cons_zero, List.setIfInBounds_toArray, List.set_cons_zero, List.set_cons_succ]
      refine wpHd_take (i := 9) (v := ?_) (by kernel_rfl) rfl (by kernel_rfl) (fun _ _ _ h => h) (Or.inl ⟨by rfl, ?_⟩) (by assumption) ?_
      rotate_left
      · intro w hSw; (try dsimp only at hSw); go_simp; (try with_reducible rfl)
      try simp only [Act.put, List.getElem_toArray, List.getElem_cons_succ, List.getElem_cons_zero, List.setIfInBounds_toArray, List.set_cons_zero, List.set_cons_succ]
      refine wpHd_take (i := 10) (v := ?_) (by kernel_rfl) rfl (by kernel_rfl) (fun _ _ _ h => h) (Or.inl ⟨by rfl, ?_⟩) (by assumption) ?_
      rotate_left
      · intro w hSw; (try dsimp only at hSw); go_simp; (try with_reducible rfl)
      try simp only [Act.put, List.getElem_toArray, List.getElem_cons_succ, List.getElem_cons_zero, List.setIfInBounds_toArray, List.set_cons_zero, List.set_cons_succ]
      refine wpHd_one (i := 1) rfl (by kernel_rfl) (fun K hK => ?_)
      go_simp
      refine (HAl.out _ ((Only.refl Non Z).drew)).mono ?_
      rintro e x1 ⟨v1, rfl, hr, hnn, hoo⟩
      have Hr1 := Lib.hid hr
      have Hox1 := Lib.hid (((Only.refl Non Z).drew).trans hoo)
      obtain ⟨A1, q1, e1, _, _⟩ := hr.shape
      have s0x1 := Hox1.out.cell S0.out id
      have s1x1 := Hox1.out.cell S1.out id
      have s2x1 := Hox1.out.cell S2.out id
      clear hr hnn hoo
      generalize (ints l1).length = n1 at *
      subst e1
      refine hK.out _ _ ?_ (fun hSS => ?_)
      · refine ⟨?_, ?_, ?_⟩ <;> assumption
      clear hK
      try simp only [Act.put, List.getElem_toArray, List.getElem_cons_succ, List.getElem_cons_zero, List.setIfInBounds_toArray, List.set_cons_zero, List.set_cons_succ]
      refine wpHd_one (i := 11) rfl (by kernel_rfl) (fun K hK => ?_)
      go_simp
      refine (HRa.out _ Hox1.out).mono ?_
      rintro e x2 ⟨v2, rfl, hr, hoo⟩
      have hS := same_vals _ _ l1 l1 x2 (Hr1.out.only hoo fun _ _ => id).ints_at hr.at (by have := Hl1.out; omega) (by have := Hl1.out; omega)
      rw [decide_eq_true rfl] at hS
      have HS := Lib.hid hS
      have Hox2 := Lib.hid (Hox1.out.trans hoo)
      obtain ⟨A2, q2, e2, _, _⟩ := hr.shape
      have s0x2 := Hox2.out.cell S0.out id
      have s1x2 := Hox2.out.cell S1.out id
      have s2x2 := Hox2.out.cell S2.out id
      clear hr hoo hS
      generalize l1.length = n2 at *
      subst e2
      refine hK.out _ _ ?_ (fun hSS => ?_)
      · refine ⟨?_, ?_, ?_⟩ <;> assumption
      clear hK
      try simp only [Act.put, List.getElem_toArray, List.getElem_cons_succ, List.getElem_cons_zero, List.setIfInBounds_toArray, List.set_cons_zero, List.set_cons_succ]
      refine wpHd_one (i := 12) rfl (by kernel_rfl) (fun K hK => ?_)
      go_simp
      refine HS.out.mono ?_
      rintro e x3 ⟨rfl, z, ez⟩
      have Hox3 := Lib.hid (show Only Non Z x3 from by rw [← ez]; exact Hox2.out.drewN z)
      clear ez
      have s0x3 := Hox3.out.cell S0.out id
      have s1x3 := Hox3.out.cell S1.out id
      have s2x3 := Hox3.out.cell S2.out id
      refine hK.out _ _ ?_ (fun hSS => ?_)
      · refine ⟨?_, ?_, ?_⟩ <;> assumption
      clear hK
      try simp only [Act.put, List.getElem_toArray, List.getElem_cons_succ, List.getElem_cons_zero, List.setIfInBounds_toArray, List.set_cons_zero, List.set_cons_succ]
      refine wpHd_end (by kernel_rfl) ?_
      clear hSS
      have s3 : x3.frozen? ⟨w.heap.size, 2, none⟩ = false := (Hox3.out.box Hb3.out id).free 2
      have hx0 : (0 : Int) ≤ x := by omega
      have hx5 : (x : Int) ≤ 255 := by omega
      go_wp2_with fail
      have hk2 : c2 ≤ min (c2 + x % 16) 16 := by omega
      have hk3 : min (c2 + x % 16) 16 ≤ 16 := by omega
      rw [show min ((c2 : Int) + x % 16) 16 = ((min (c2 + x % 16) 16 : Nat) : Int) from by omega]
      generalize min (c2 + x % 16) 16 = kk at *
      have Hwx := Lib.hid (Nat.le_trans Hsz3.out Hox3.out.size)
      have HoX := Lib.hid (show Only Non w (x3.setCell ⟨w.heap.size, 2, none⟩ (.int .i64 kk)) from Only.setCell (p := ⟨w.heap.size, 2, none⟩) (Ho3.out.trans Hox3.out) (.inr (Nat.le_refl _)) _)
      have HmX := Lib.hid (show MdlIs (x3.setCell ⟨w.heap.size, 2, none⟩ (.int .i64 kk)) (w.heap.size + 1) lb F c0 c1 c2 l1 m1 from (Hm3.out.keep Hox3.out).only (Only.setCell (S := Just w.heap.size) (p := ⟨w.heap.size, 2, none⟩) (Only.refl _ _) (.inl rfl) _) fun y hy e => by
        have e' : y = w.heap.size := e
        have := Hm3.out.hi hy
        omega)
      have HbX := Lib.hid (Hbs0.out.abv (Nat.le_refl _) (HoX.out.mono fun _ h => h.elim))
      have HsX := Lib.hid (show (x3.setCell ⟨w.heap.size, 2, none⟩ (.int .i64 kk)).heap.size = x3.heap.size from by simp)
      generalize x3.setCell ⟨w.heap.size, 2, none⟩ (.int .i64 kk) = X at *
      have HR2 := Lib.hid (run_yes (w.heap.size + 1) c0 c1 kk A n c bs X (by rw [HsX.out]; exact Hwx.out) HbX.out (by omega) (by simp only [rightC, okCap, Bool.and_eq_true, decide_eq_true_eq]; omega) Hal2.out)
      have hmo := Hmore.out (c0 + c1 + kk) (by omega)
      have hm2 := runM_le (c0 + c1 + kk) bs
      generalize (runM (c0 + c1 + kk) bs).2 = m2 at *
      refine HR2.out.mono ?_
      rintro e w5 ⟨lb2, F2, rfl, hmd, _, ho⟩
      have HM1 := Lib.hid (misses_any (w.heap.size + 1) lb F c0 c1 c2 l1 m1 w5 (HmX.out.keep ho))
      have HM2 := Lib.hid (misses_any (w.heap.size + 1) lb2 F2 c0 c1 kk _ m2 w5 hmd)
      have Ho5 := Lib.hid (HoX.out.trans ho)
      clear hmd ho
      go_wp2_with fail
      refine HM2.out.mono ?_
      rintro e w6 ⟨rfl, e6⟩
      rw [← e6]
      clear e6
      go_wp2_with fail
      refine HM1.out.mono ?_
      rintro e w6 ⟨rfl, e6⟩
      rw [← e6]
      clear e6
      have hle : (m2 : Int) ≤ m1 := by omega
      have Hle := Lib.hid hle
      go_wp2_with fail
      go_ret
      exact ⟨by first | rfl | simp [hmo], Ho5.out⟩
theorem modelRuns_skip (c0 c1 c2 : Int) (x : Int) (A : Option Addr) (n c : Nat) (w : World) (hn : 200 < n) (hm : n ≤ maxLen) :
    Calls Try.prog 4 #[.agg #[.int .i64 c0, .int .i64 c1, .int .i64 c2], .int .u8 x, .slice A n c] w (Ret (.bool true) Non w) := by
  have HW := Lib.hid (fun w => mwakes w)
  have hal : Only Non w (w.alloc (.cells #[.int .i64 c0, .int .i64 c1, .int .i64 c2] 22)) := (Only.refl _ _).alloc _
  have Hal := Lib.hid hal
  have h2 : 200 < (n : Int) := by omega
  unfold maxLen at hm
  clear hal
  go_enter Try.func4, Try.ntmps4
  go_wp2_with fail
  generalize w.alloc (.cells #[.int .i64 c0, .int .i64 c1, .int .i64 c2] 22) = W at *
  refine (HW.out _).mono ?_
  rintro e w1 ⟨rfl, ho⟩
  have Ho1 := Lib.hid (Hal.out.trans ho)
  clear ho
  go_wp2_with fail
  go_ret
  exact ⟨rfl, Ho1.out⟩
end
end Go.Proofs.Ytpfegioooibjlaa
