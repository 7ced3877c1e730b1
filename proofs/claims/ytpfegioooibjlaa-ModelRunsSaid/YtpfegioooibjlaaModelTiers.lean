/- ModelTiers. -/
import Derived.Test.YtpfegioooibjlaaMdlH
namespace Go.Proofs.Ytpfegioooibjlaa
open Go.RowKit
set_option linter.unusedVariables false
set_option linter.unusedSimpArgs false
def Abv (b : Nat) : Nat → Prop := fun k => b ≤ k
theorem mnew_no (base : Nat) (c0 c1 c2 : Int) (w : World) (hbase : base ≤ w.heap.size) (hr : rightC c0 c1 c2 = false) : Calls Try.prog 8 #[.agg #[.int .i64 c0, .int .i64 c1, .int .i64 c2]] w fun e w' => e = .returned (.tuple #[.pointer none, .int .i64 6]) ∧ Only Non w w' := by
  refine (mnew_any base c0 c1 c2 w hbase).mono fun e w' hp => ?_
  rw [MNewPost, hr, if_neg (by decide)] at hp
  exact hp
theorem mnew_yes (base : Nat) (c0 c1 c2 : Nat) (w : World) (hbase : base ≤ w.heap.size) (hr : rightC c0 c1 c2 = true) : Calls Try.prog 8 #[.agg #[.int .i64 c0, .int .i64 c1, .int .i64 c2]] w fun e w' =>
    ∃ lb F, e = .returned (.tuple #[.pointer (some ⟨lb, 0, none⟩), .int .i64 0]) ∧ MdlIs w' base lb F c0 c1 c2 [] 0 ∧ (∀ k, F k → w.heap.size ≤ k) ∧ Only Non w w' := by
  refine (mnew_any base c0 c1 c2 w hbase).mono fun e w' hp => ?_
  rw [MNewPost, hr, if_pos rfl] at hp
  exact hp
theorem IntsAt.abv {w w' : World} {base : Nat} {v : Value} {l : List Int} (h : IntsAt w v l) (hb : w.heap.size ≤ base) (ho : Only (Abv base) w w') : IntsAt w' v l := by
  obtain ⟨A, c, rfl, h1, h2, h3⟩ := h
  refine ⟨A, c, rfl, h1, h2, fun i hi => ?_⟩
  obtain ⟨g, o, e, hc⟩ := h3 i hi
  have := World.block_lt_of_cell? w _ hc
  exact ⟨g, o, e, ho.cell hc fun h => by have h' : base ≤ g := h; have h2 : g < w.heap.size := this; omega⟩
theorem MdlIs.abv {w w' : World} {base lb : Nat} {F : Nat → Prop} {c0 c1 c2 : Nat} {l : List Int} {m : Nat} (h : MdlIs w base lb F c0 c1 c2 l m) (ho : Only F w w') : Only (Abv base) w w' := ho.mono fun b hb => .inl (h.hi hb)
theorem ints_app (a b : List Int) : ints (a ++ b) = ints a ++ ints b := List.map_append
def joinT (c0 c1 c2 : Nat) (l : List Int) : Nat → List Int
  | 0 => []
  | t + 1 => joinT c0 c1 c2 l t ++ tierL c0 c1 c2 t l
theorem joinT_all (c0 c1 c2 : Nat) (l : List Int) (h : l.length ≤ c0 + c1 + c2) : joinT c0 c1 c2 l 3 = l := by
  have := tiers_all c0 c1 c2 l h
  simpa [joinT] using this
theorem tierL_le (c0 c1 c2 t : Nat) (l : List Int) : (tierL c0 c1 c2 t l).length ≤ l.length := by rw [tier_len]; omega
theorem joinT_le (c0 c1 c2 : Nat) (l : List Int) : ∀ t, (joinT c0 c1 c2 l t).length ≤ t * l.length
  | 0 => by simp [joinT]
  | t + 1 => by
    have h1 := joinT_le c0 c1 c2 l t
    have h2 := tierL_le c0 c1 c2 t l
    rw [joinT, List.length_append, Nat.succ_mul]; omega
def T1 (base lb n : Nat) (c0 c1 c2 : Nat) (w : World) (i : Value) (wr : World) : Prop :=
  ∃ (k : Nat) (l : List Int) (m : Nat) (F : Nat → Prop), k ≤ n ∧ i = .int .i64 k ∧ MdlIs wr base lb F c0 c1 c2 l m ∧ m ≤ k ∧ Only (Abv base) w wr
def T2 (c0 c1 c2 : Nat) (l : List Int) (w : World) (v i : Value) (wr : World) : Prop :=
  ∃ t : Nat, t ≤ 3 ∧ i = .int .i64 ((t : Int) + 1) ∧ Row 3 wr v (ints (joinT c0 c1 c2 l t)) ∧ (∀ k, ownB v k → w.heap.size ≤ k) ∧ Only Non w wr
theorem tier_at (base lb : Nat) (F : Nat → Prop) (c0 c1 c2 : Nat) (l : List Int) (m t : Nat) (w : World) (h : MdlIs w base lb F c0 c1 c2 l m) (ht : t < 3) :
    Calls Try.prog 16 #[.pointer (some ⟨lb, 0, none⟩), .int .i64 ((t : Int) + 1)] w (ClonePost (tierL c0 c1 c2 t l) w) := by
  have := tier_any base lb F c0 c1 c2 l m t w h ht
  rw [show ((t + 1 : Nat) : Int) = (t : Int) + 1 from by simp] at this
  exact this
theorem use_some (base lb : Nat) (F : Nat → Prop) (c0 c1 c2 : Nat) (l : List Int) (m : Nat) (b : Int) (w : World) (h : MdlIs w base lb F c0 c1 c2 l m) (hbase : base ≤ w.heap.size) (hm : m ≤ 1000000) :
    Calls Try.prog 10 #[.pointer (some ⟨lb, 0, none⟩), .int .i64 b] w fun e w' => ∃ r x, e = .returned (.tuple #[.bool r, .int .i64 x]) ∧ ∃ l' m', m' ≤ m + 1 ∧ MdlPost base lb F c0 c1 c2 l' m' w w' := by
  cases hb : inR b
  · refine (use_out lb b w (inR_no hb)).mono ?_
    rintro e w' ⟨rfl, rfl⟩
    exact ⟨_, _, rfl, l, m, by omega, F, h, fun _ h => .inl h, Only.refl _ _⟩
  · have hi := inR_yes hb
    refine (use_in base lb F c0 c1 c2 l m b w h hbase hm hi.1 hi.2).mono ?_
    rintro e w' ⟨rfl, hp⟩
    exact ⟨_, _, rfl, _, _, by split <;> omega, hp⟩
section
set_option maxHeartbeats 4000000
set_option maxRecDepth 100000
theorem modelTiers_no (c0 c1 c2 : Int) (A : Option Addr) (c : Nat) (bs : List Int) (w : World) (hbs : IntsAt w (.slice A bs.length c) bs) (hlen : bs.length ≤ 200) (hr : rightC c0 c1 c2 = false) :
    Calls Try.prog 6 #[.agg #[.int .i64 c0, .int .i64 c1, .int .i64 c2], .slice A bs.length c] w (Ret (.bool true) Non w) := by
  have HW := Lib.hid (fun w => mwakes w)
  have hal : Only Non w (w.alloc (.cells #[.int .i64 c0, .int .i64 c1, .int .i64 c2] 22)) := (Only.refl _ _).alloc _
  have hb := Box.fresh w 22 #[.int .i64 c0, .int .i64 c1, .int .i64 c2]
  have Hal := Lib.hid hal
  have Hb := Lib.hid hb
  have Hsz := Lib.hid (show w.heap.size + 1 ≤ (w.alloc (.cells #[.int .i64 c0, .int .i64 c1, .int .i64 c2] 22)).heap.size from by rw [World.size_alloc]; omega)
  have Hbs0 := Lib.hid hbs
  have Hbs := Lib.hid (show IntsAt (w.alloc (.cells #[.int .i64 c0, .int .i64 c1, .int .i64 c2] 22)) (.slice A bs.length c) bs from hbs.keep hal fun _ _ _ _ _ => id)
  obtain ⟨Ab, cb', eb, hcb, hcm⟩ := hbs.shape
  injection eb with eb1 eb2 eb3
  subst eb1 eb3
  clear eb2
  unfold maxLen at hcm
  clear hal hb hbs
  generalize hn : bs.length = n at *
  have Hn := Lib.hid hn
  clear hn
  go_enter Try.func6, Try.ntmps6
  go_wp2_with fail
  generalize w.alloc (.cells #[.int .i64 c0, .int .i64 c1, .int .i64 c2] 22) = W at *
  refine (HW.out _).mono ?_
  rintro e w1 ⟨rfl, ho⟩
  have Ho1 := Lib.hid (Hal.out.trans ho)
  have Hb1 := Lib.hid (ho.box Hb.out id)
  have Hbs1 := Lib.hid (Hbs.out.keep ho fun _ _ _ _ _ => id)
  have Hsz1 := Lib.hid (Nat.le_trans Hsz.out ho.size)
  clear ho Hal Hb Hbs Hsz
  have d0 : w1.cell? ⟨w.heap.size, 0, none⟩ = some (.int .i64 c0) := Hb1.out.cellAt rfl
  have d1 : w1.cell? ⟨w.heap.size, 1, none⟩ = some (.int .i64 c1) := Hb1.out.cellAt rfl
  have d2 : w1.cell? ⟨w.heap.size, 2, none⟩ = some (.int .i64 c2) := Hb1.out.cellAt rfl
  have HNew := Lib.hid (mnew_no (w.heap.size + 1) c0 c1 c2 w1 Hsz1.out hr)
  clear hr
  go_wp2_with fail
  refine HNew.out.mono ?_
  rintro e w2 ⟨rfl, ho⟩
  have Ho2 := Lib.hid (Ho1.out.trans ho)
  clear ho
  go_wp2_with fail
  go_ret
  exact ⟨rfl, Ho2.out⟩
theorem modelTiers_walk (c0 c1 c2 : Nat) (A : Option Addr) (c : Nat) (bs : List Int) (w : World) (hbs : IntsAt w (.slice A bs.length c) bs) (hlen : bs.length ≤ 200) (hr : rightC c0 c1 c2 = true) :
    Calls Try.prog 6 #[.agg #[.int .i64 c0, .int .i64 c1, .int .i64 c2], .slice A bs.length c] w (Ret (.bool true) Non w) := by
  have HW := Lib.hid (fun w => mwakes w)
  have hal : Only Non w (w.alloc (.cells #[.int .i64 c0, .int .i64 c1, .int .i64 c2] 22)) := (Only.refl _ _).alloc _
  have hb := Box.fresh w 22 #[.int .i64 c0, .int .i64 c1, .int .i64 c2]
  have Hal := Lib.hid hal
  have Hb := Lib.hid hb
  have Hsz := Lib.hid (show w.heap.size + 1 ≤ (w.alloc (.cells #[.int .i64 c0, .int .i64 c1, .int .i64 c2] 22)).heap.size from by rw [World.size_alloc]; omega)
  have Hbs0 := Lib.hid hbs
  have Hbs := Lib.hid (show IntsAt (w.alloc (.cells #[.int .i64 c0, .int .i64 c1, .int .i64 c2] 22)) (.slice A bs.length c) bs from hbs.keep hal fun _ _ _ _ _ => id)
  obtain ⟨Ab, cb', eb, hcb, hcm⟩ := hbs.shape
  injection eb with eb1 eb2 eb3
  subst eb1 eb3
  clear eb2
  unfold maxLen at hcm
  clear hal hb hbs
  generalize hn : bs.length = n at *
  have Hn := Lib.hid hn
  clear hn
  go_enter Try.func6, Try.ntmps6
  go_wp2_with fail
  generalize w.alloc (.cells #[.int .i64 c0, .int .i64 c1, .int .i64 c2] 22) = W at *
  refine (HW.out _).mono ?_
  rintro e w1 ⟨rfl, ho⟩
  have Ho1 := Lib.hid (Hal.out.trans ho)
  have Hb1 := Lib.hid (ho.box Hb.out id)
  have Hbs1 := Lib.hid (Hbs.out.keep ho fun _ _ _ _ _ => id)
  have Hsz1 := Lib.hid (Nat.le_trans Hsz.out ho.size)
  clear ho Hal Hb Hbs Hsz
  have d0 : w1.cell? ⟨w.heap.size, 0, none⟩ = some (.int .i64 c0) := Hb1.out.cellAt rfl
  have d1 : w1.cell? ⟨w.heap.size, 1, none⟩ = some (.int .i64 c1) := Hb1.out.cellAt rfl
  have d2 : w1.cell? ⟨w.heap.size, 2, none⟩ = some (.int .i64 c2) := Hb1.out.cellAt rfl
  have HNew := Lib.hid (mnew_yes (w.heap.size + 1) c0 c1 c2 w1 Hsz1.out hr)
  have hbd := right_bd hr
  clear hr
  go_wp2_with fail
  refine HNew.out.mono ?_
  rintro e w2 ⟨lb, F, rfl, hm, hF, ho⟩
  have Ho2 := Lib.hid (Ho1.out.trans ho)
  have Hb2 := Lib.hid (ho.box Hb1.out id)
  have Hbs2 := Lib.hid (Hbs1.out.keep ho fun _ _ _ _ _ => id)
  have Hsz2 := Lib.hid (Nat.le_trans Hsz1.out ho.size)
  have Hst := Lib.hid (show T1 (w.heap.size + 1) lb n c0 c1 c2 w2 (.int .i64 0) w2 from ⟨0, [], 0, F, Nat.zero_le _, rfl, hm, Nat.le_refl _, Only.refl _ _⟩)
  clear hm hF ho d0 d1 d2 HNew Ho1 Hb1 Hbs1 Hsz1
  go_wp2_with fail
  go_loopw [27] (fun i wr => T1 (w.heap.size + 1) lb n c0 c1 c2 w2 i wr) (fun i _ => n - (intOf i).toNat)
  case atStart => exact Hst.out
  case round =>
    clear Hst
    obtain ⟨k, l, m, F, hk, rfl, hm, hmk, ho⟩ := hrel
    by_cases hlt : k < n
    · have hb3 := Hbs0.out.abv (Nat.le_succ _) ((Ho2.out.mono fun _ h => h.elim).trans ho)
      obtain ⟨g, o, rfl, hc⟩ := hb3.cellAt (show k < bs.length by rw [Hn.out]; exact hlt)
      generalize bs.getD k 0 = x at *
      have hwz := Nat.le_trans Hsz2.out ho.size
      have HU := Lib.hid (use_some (w.heap.size + 1) lb F c0 c1 c2 l m x wr hm hwz (by omega))
      have Hm := Lib.hid hm
      have Ho := Lib.hid ho
      clear hm ho hb3
      go_wp2_with fail
      refine HU.out.mono ?_
      rintro e w5 ⟨r, y, rfl, l5, m5, hm5, F5, hm6, hF6, ho6⟩
      have Hm5 := Lib.hid hm6
      have Ho25 := Lib.hid (show Only (Abv (w.heap.size + 1)) w2 w5 from Ho.out.trans (Hm.out.abv ho6))
      have Hb5 := Lib.hid (Ho25.out.box Hb2.out (fun h => by have h' : w.heap.size + 1 ≤ w.heap.size := h; omega))
      have hl48 : l5.length ≤ 48 := by obtain ⟨v, hA⟩ := hm6; exact hA.l48
      have hlm : l5.length ≤ c0 + c1 + c2 := by obtain ⟨v, hA⟩ := hm6; exact hA.len
      have Hlm := Lib.hid hlm
      clear hm6 hF6 ho6 HU hlm
      go_wp2_with fail
      go_loopw [9, 10] (fun v i wr => T2 c0 c1 c2 l5 w5 v i wr) (fun _ i _ => (4 - intOf i).toNat)
      case atStart => exact ⟨0, by omega, rfl, Row.nil_ _ _, fun k hk => (ownB_none hk).elim, Only.refl _ _⟩
      case round =>
        obtain ⟨t, ht, rfl, hrow, hown, ho5⟩ := hrel
        have Ho5 := Lib.hid ho5
        have Hrow := Lib.hid hrow
        have Hown := Lib.hid hown
        have HT := Lib.hid (fun t w' (ho : Only Non w5 w') (ht : t < 3) => tier_at (w.heap.size + 1) lb F5 c0 c1 c2 l5 m5 t w' (Hm5.out.keep ho) ht)
        have hjl := joinT_le c0 c1 c2 l5 t
        obtain ⟨A9, q9, e9, _, _⟩ := hrow.shape
        have Hjl := Lib.hid hjl
        clear hrow hown ho5 hjl
        rw [ints_len] at e9
        have ht9 : t ≤ 3 := ht
        by_cases h3 : t < 3
        · have HT1' := Lib.hid (fun w' ho => HT.out t w' ho h3)
          have hcapk : capN c0 c1 c2 t ≤ 16 := by
            unfold capN
            rcases (show t = 0 ∨ t = 1 ∨ t = 2 by omega) with rfl | rfl | rfl
            · show c0 ≤ 16; omega
            · show c1 ≤ 16; omega
            · show c2 ≤ 16; omega
          rcases Nat.eq_zero_or_pos t with h0 | h0
          · subst h0
            have HT00 := Lib.hid (show ∀ w', Only Non w5 w' → Calls Try.prog 16 #[.pointer (some ⟨lb, 0, none⟩), .int .i64 1] w' (ClonePost (tierL c0 c1 c2 0 l5) w') from fun w' ho => HT1'.out w' ho)
            generalize (joinT c0 c1 c2 l5 0).length = n9 at *
            subst e9
            go_wp2_with fail
            refine wp_region_tail (S := fun w' => True) 20 (by kernel_rfl) (by kernel_rfl) ?_ ?_
            · trivial
            intro hSS
            refine wpHd_take (i := 0) (v := ?_) (by kernel_rfl) rfl (by kernel_rfl) (fun _ _ _ h => h) (Or.inl ⟨by rfl, ?_⟩) (by assumption) ?_
            rotate_left
            · intro w hSw; (try dsimp only at hSw); go_simp; (try with_reducible rfl)
            try simp only [Act.put, List.getElem_toArray, List.getElem_cons_succ, List.getElem_cons_zero, List.setIfInBounds_toArray, List.set_cons_zero, List.set_cons_succ]
            refine wpHd_take (i := 1) (v := ?_) (by kernel_rfl) rfl (by kernel_rfl) (fun _ _ _ h => h) (Or.inl ⟨by rfl, ?_⟩) (by assumption) ?_
            rotate_left
            · intro w hSw; (try dsimp only at hSw); go_simp; (try with_reducible rfl)
            try simp only [Act.put, List.getElem_toArray, List.getElem_cons_succ, List.getElem_cons_zero, List.setIfInBounds_toArray, List.set_cons_zero, List.set_cons_succ]
            refine wpHd_take (i := 2) (v := ?_) (by kernel_rfl) rfl (by kernel_rfl) (fun _ _ _ h => h) (Or.inl ⟨by rfl, ?_⟩) (by assumption) ?_
            rotate_left
            · intro w hSw; (try dsimp only at hSw); go_simp; (try with_reducible rfl)
            try simp only [Act.put, List.getElem_toArray, List.getElem_cons_succ, List.getElem_cons_zero, List.setIfInBounds_toArray, List.set_cons_zero, List.set_cons_succ]
            refine wpHd_take (i := 3) (v := undef) (by kernel_rfl) rfl (by kernel_rfl) (fun _ _ _ h => h) (Or.inr ⟨by rfl, rfl⟩) (by assumption) ?_
            try simp only [Act.put, List.getElem_toArray, List.getElem_cons_succ, List.getElem_cons_zero, List.setIfInBounds_toArray, List.set_cons_zero, List.set_cons_succ]
            refine wpHd_take (i := 4) (v := undef) (by kernel_rfl) rfl (by kernel_rfl) (fun _ _ _ h => h) (Or.inr ⟨by rfl, rfl⟩) (by assumption) ?_
            try simp only [Act.put, List.getElem_toArray, List.getElem_cons_succ, List.getElem_cons_zero, List.setIfInBounds_toArray, List.set_cons_zero, List.set_cons_succ]
            refine wpHd_one (i := 5) rfl (by kernel_rfl) (fun K hK => ?_)
            rw [if_neg (by simp [Region.wanted, yielded])]
            refine hK.out _ _ ?_ (fun hSS => ?_)
            · trivial
            clear hK
            try simp only [Act.put, List.getElem_toArray, List.getElem_cons_succ, List.getElem_cons_zero, List.setIfInBounds_toArray, List.set_cons_zero, List.set_cons_succ]
            refine wpHd_take (i := 6) (v := undef) (by kernel_rfl) rfl (by kernel_rfl) (fun _ _ _ h => h) (Or.inr ⟨by rfl, rfl⟩) (by assumption) ?_
            try simp only [Act.put, List.getElem_toArray, List.getElem_cons_succ, List.getElem_cons_zero, List.setIfInBounds_toArray, List.set_cons_zero, List.set_cons_succ]
            refine wpHd_take (i := 7) (v := undef) (by kernel_rfl) rfl (by kernel_rfl) (fun _ _ _ h => h) (Or.inr ⟨by rfl, rfl⟩) (by assumption) ?_
            try simp only [Act.put, List.getElem_toArray, List.getElem_cons_succ, List.getElem_cons_zero, List.setIfInBounds_toArray, List.set_cons_zero, List.set_cons_succ]
            refine wpHd_take (i := 8) (v := ?_) (by kernel_rfl) rfl (by kernel_rfl) (fun _ _ _ h => h) (Or.inl ⟨by rfl, ?_⟩) (by assumption) ?_
            rotate_left
            · intro w hSw; (try dsimp only at hSw); go_simp; (try with_reducible rfl)
            try simp only [Act.put, List.getElem_toArray, List.getElem_cons_succ, List.getElem_cons_zero, List.setIfInBounds_toArray, List.set_cons_zero, List.set_cons_succ]
            refine wpHd_take (i := 9) (v := ?_) (by kernel_rfl) rfl (by kernel_rfl) (fun _ _ _ h => h) (Or.inl ⟨by rfl, ?_⟩) (by assumption) ?_
            rotate_left
            · intro w hSw; (try dsimp only at hSw); go_simp; (try with_reducible rfl)
            try simp only [Act.put, List.getElem_toArray, List.getElem_cons_succ, List.getElem_cons_zero, List.setIfInBounds_toArray, List.set_cons_zero, List.set_cons_succ]
            refine wpHd_take (i := 10) (v := undef) (by kernel_rfl) rfl (by kernel_rfl) (fun _ _ _ h => h) (Or.inr ⟨by rfl, rfl⟩) (by assumption) ?_
            try simp only [Act.put, List.getElem_toArray, List.getElem_cons_succ, List.getElem_cons_zero, List.setIfInBounds_toArray, List.set_cons_zero, List.set_cons_succ]
            refine wpHd_take (i := 11) (v := undef) (by kernel_rfl) rfl (by kernel_rfl) (fun _ _ _ h => h) (Or.inr ⟨by rfl, rfl⟩) (by assumption) ?_
            try simp only [Act.put, List.getElem_toArray, List.getElem_cons_succ, List.getElem_cons_zero, List.setIfInBounds_toArray, List.set_cons_zero, List.set_cons_succ]
            refine wpHd_take (i := 12) (v := undef) (by kernel_rfl) rfl (by kernel_rfl) (fun _ _ _ h => h) (Or.inr ⟨by rfl, rfl⟩) (by assumption) ?_
            try simp only [Act.put, List.getElem_toArray, List.getElem_cons_succ, List.getElem_cons_zero, List.setIfInBounds_toArray, List.set_cons_zero, List.set_cons_succ]
            refine wpHd_take (i := 15) (v := undef) (by kernel_rfl) rfl (by kernel_rfl) (fun _ _ _ h => h) (Or.inr ⟨by rfl, rfl⟩) (by assumption) ?_
            try simp only [Act.put, List.getElem_toArray, List.getElem_cons_succ, List.getElem_cons_zero, List.setIfInBounds_toArray, List.set_cons_zero, List.set_cons_succ]
            refine wpHd_take (i := 16) (v := undef) (by kernel_rfl) rfl (by kernel_rfl) (fun _ _ _ h => h) (Or.inr ⟨by rfl, rfl⟩) (by assumption) ?_
            try simp only [Act.put, List.getElem_toArray, List.getElem_cons_succ, List.getElem_cons_zero, List.setIfInBounds_toArray, List.set_cons_zero, List.set_cons_succ]
            refine wpHd_take (i := 17) (v := undef) (by kernel_rfl) rfl (by kernel_rfl) (fun _ _ _ h => h) (Or.inr ⟨by rfl, rfl⟩) (by assumption) ?_
            try simp only [Act.put, List.getElem_toArray, List.getElem_cons_succ, List.getElem_cons_zero, List.setIfInBounds_toArray, List.set_cons_zero, List.set_cons_succ]
            refine wpHd_take (i := 18) (v := undef) (by kernel_rfl) rfl (by kernel_rfl) (fun _ _ _ h => h) (Or.inr ⟨by rfl, rfl⟩) (by assumption) ?_
            try simp only [Act.put, List.getElem_toArray, List.getElem_cons_succ, List.getElem_cons_zero, List.setIfInBounds_toArray, List.set_cons_zero, List.set_cons_succ]
            refine wpHd_one (i := 13) rfl (by kernel_rfl) (fun K hK => ?_)
            rw [if_neg (by simp [Region.wanted, yielded])]
            refine hK.out _ _ ?_ (fun hSS => ?_)
            · trivial
            clear hK
            try simp only [Act.put, List.getElem_toArray, List.getElem_cons_succ, List.getElem_cons_zero, List.setIfInBounds_toArray, List.set_cons_zero, List.set_cons_succ]
            refine wpHd_take (i := 14) (v := undef) (by kernel_rfl) rfl (by kernel_rfl) (fun _ _ _ h => h) (Or.inr ⟨by rfl, rfl⟩) (by assumption) ?_
            try simp only [Act.put, List.getElem_toArray, List.getElem_cons_succ, List.getElem_cons_zero, List.setIfInBounds_toArray, List.set_cons_zero, List.set_cons_succ]
            refine wpHd_take (i := 19) (v := undef) (by kernel_rfl) rfl (by kernel_rfl) (fun _ _ _ h => h) (Or.inr ⟨by rfl, rfl⟩) (by assumption) ?_
            try simp only [Act.put, List.getElem_toArray, List.getElem_cons_succ, List.getElem_cons_zero, List.setIfInBounds_toArray, List.set_cons_zero, List.set_cons_succ]
            refine wpHd_end (by kernel_rfl) ?_
            clear hSS
            go_wp2_with fail
            refine (HT00.out _ (Ho5.out.drew)).mono ?_
            rintro e w8 ⟨v8, rfl, hr8, hn8, ho8⟩
            obtain ⟨A8, q8, e8, _, _⟩ := hr8.shape
            have Ho8 := Lib.hid (((Ho5.out.drew)).trans ho8)
            have Hr8 := Lib.hid hr8
            have hR9 := Hrow.out.only (((Only.refl Non wr).drew).trans ho8) (fun _ _ => id)
            have HR9 := Lib.hid hR9
            have N8 := Lib.hid (show (ints (tierL c0 c1 c2 (0) l5)).length = (ints (tierL c0 c1 c2 (0) l5)).length from rfl)
            have L8 := Lib.hid (show (ints (tierL c0 c1 c2 (0) l5)).length ≤ 48 from by rw [ints_len]; exact Nat.le_trans (tierL_le c0 c1 c2 (0) l5) hl48)
            have L9 := Lib.hid (show (ints (joinT c0 c1 c2 l5 (0))).length ≤ 150 from by rw [ints_len]; exact Nat.le_trans (joinT_le c0 c1 c2 l5 (0)) (Nat.le_trans (Nat.mul_le_mul ht9 hl48) (by omega)))
            clear hr8 hn8 ho8 hR9
            generalize hn8e : (ints (tierL c0 c1 c2 (0) l5)).length = n8 at *
            have N8e := Lib.hid hn8e
            clear hn8e
            subst e8
            go_wp2_with (at_builtin; refine wpList_append_row _ rfl (.tmp 59) (.tmp 62) 23 3 rfl intInfo rfl Try.underlying23 (.slice A9 n9 q9) (ints (joinT c0 c1 c2 l5 (0))) rfl HR9.out A8 n8 q8 (ints (tierL c0 c1 c2 (0) l5)) rfl N8e.out.symm Hr8.out.srcOf.2 (ints_one _) (by have := L8.out; have := L9.out; have := N8e.out; unfold maxLen; omega) (by have := L8.out; have := L9.out; have := N8e.out; omega) ?_
                         intro v1 w9 hrow9 hgrow9 hown9 _)
            have hw5 := Ho8.out.size
            refine ⟨⟨0 + 1, by omega, by first | rfl | (congr 1; simp) | (congr 1; omega), ?_, fun y hy => (hown9 y hy).elim (Hown.out y) fun h => by omega, Ho8.out.trans' hgrow9 fun y hy => .inr (Hown.out y hy)⟩, by simp [intOf] <;> omega⟩
            rw [joinT, ints_app]; exact hrow9
          · obtain ⟨s, rfl⟩ : ∃ s, t = s + 1 := ⟨t - 1, by omega⟩
            have HT1 := Lib.hid (fun w' ho => HT.out (s + 1) w' ho h3)
            have HT0 := Lib.hid (fun w' ho => HT.out s w' ho (by omega))
            rw [show (((s + 1 : Nat) : Int)) = (s : Int) + 1 from by simp] at *
            have Hcs := Lib.hid (show w5.cell? ⟨w.heap.size, s, none⟩ = some (.int .i64 (capN c0 c1 c2 s)) from by
              rcases (show s = 0 ∨ s = 1 by omega) with rfl | rfl <;> exact Hb5.out.cellAt rfl)
            by_cases he : (tierL c0 c1 c2 (s + 1) l5).length = 0
            · have e3 : 1 < (s : Int) + 1 + 1 := by omega
              have e6 : IntKind.i64.wrap ((s : Int) + 1 + 1) = s + 1 + 1 := IntWalk.i64_in _ (by omega)
              generalize (joinT c0 c1 c2 l5 (s + 1)).length = n9 at *
              subst e9
              go_wp2_with fail
              refine wp_region_tail (S := fun w' => True) 20 (by kernel_rfl) (by kernel_rfl) ?_ ?_
              · trivial
              intro hSS
              refine wpHd_take (i := 0) (v := ?_) (by kernel_rfl) rfl (by kernel_rfl) (fun _ _ _ h => h) (Or.inl ⟨by rfl, ?_⟩) (by assumption) ?_
              rotate_left
              · intro w hSw; (try dsimp only at hSw); go_simp; (try with_reducible rfl)
              try simp only [Act.put, List.getElem_toArray, List.getElem_cons_succ, List.getElem_cons_zero, List.setIfInBounds_toArray, List.set_cons_zero, List.set_cons_succ]
              refine wpHd_take (i := 1) (v := ?_) (by kernel_rfl) rfl (by kernel_rfl) (fun _ _ _ h => h) (Or.inl ⟨by rfl, ?_⟩) (by assumption) ?_
              rotate_left
              · intro w hSw; (try dsimp only at hSw); go_simp; (try with_reducible rfl)
              try simp only [Act.put, List.getElem_toArray, List.getElem_cons_succ, List.getElem_cons_zero, List.setIfInBounds_toArray, List.set_cons_zero, List.set_cons_succ]
              refine wpHd_take (i := 2) (v := ?_) (by kernel_rfl) rfl (by kernel_rfl) (fun _ _ _ h => h) (Or.inl ⟨by rfl, ?_⟩) (by assumption) ?_
              rotate_left
              · intro w hSw; (try dsimp only at hSw); go_simp; (try with_reducible rfl)
              try simp only [Act.put, List.getElem_toArray, List.getElem_cons_succ, List.getElem_cons_zero, List.setIfInBounds_toArray, List.set_cons_zero, List.set_cons_succ]
              refine wpHd_take (i := 3) (v := ?_) (by kernel_rfl) rfl (by kernel_rfl) (fun _ _ _ h => h) (Or.inl ⟨by rfl, ?_⟩) (by assumption) ?_
              rotate_left
              · intro w hSw; (try dsimp only at hSw); go_simp; (try with_reducible rfl)
              try simp only [Act.put, List.getElem_toArray, List.getElem_cons_succ, List.getElem_cons_zero, List.setIfInBounds_toArray, List.set_cons_zero, List.set_cons_succ]
              refine wpHd_take (i := 4) (v := ?_) (by kernel_rfl) rfl (by kernel_rfl) (fun _ _ _ h => h) (Or.inl ⟨by rfl, ?_⟩) (by assumption) ?_
              rotate_left
              · intro w hSw; (try dsimp only at hSw); go_simp; (try with_reducible rfl)
              try simp only [Act.put, List.getElem_toArray, List.getElem_cons_succ, List.getElem_cons_zero, List.setIfInBounds_toArray, List.set_cons_zero, List.set_cons_succ]
              refine wpHd_one (i := 5) rfl (by kernel_rfl) (fun K hK => ?_)
              go_simp
              refine (HT1.out _ (Ho5.out.drew)).mono ?_
              rintro e w6 ⟨v6, rfl, hr6, hn6, ho6⟩
              obtain ⟨A6, q6, e6, _, _⟩ := hr6.shape
              have Ho6 := Lib.hid ((Ho5.out.drew).trans ho6)
              have HoR6 := Lib.hid (((Only.refl Non wr).drew).trans ho6)
              rw [ints_len] at e6
              have hcs := (Ho6.out).cell Hcs.out id
              clear hr6 hn6 ho6
              generalize hl6 : (tierL c0 c1 c2 (s + 1) l5).length = n6 at *
              have hn6p : n6 = 0 := by omega
              subst e6
              refine hK.out _ _ ?_ (fun hSS => ?_)
              · trivial
              clear hK
              try simp only [Act.put, List.getElem_toArray, List.getElem_cons_succ, List.getElem_cons_zero, List.setIfInBounds_toArray, List.set_cons_zero, List.set_cons_succ]
              refine wpHd_take (i := 6) (v := ?_) (by kernel_rfl) rfl (by kernel_rfl) (fun _ _ _ h => h) (Or.inl ⟨by rfl, ?_⟩) (by assumption) ?_
              rotate_left
              · intro w hSw; (try dsimp only at hSw); go_simp; (try with_reducible rfl)
              try simp only [Act.put, List.getElem_toArray, List.getElem_cons_succ, List.getElem_cons_zero, List.setIfInBounds_toArray, List.set_cons_zero, List.set_cons_succ]
              refine wpHd_take (i := 7) (v := ?_) (by kernel_rfl) rfl (by kernel_rfl) (fun _ _ _ h => h) (Or.inl ⟨by rfl, ?_⟩) (by assumption) ?_
              rotate_left
              · intro w hSw; (try dsimp only at hSw); go_simp; (try with_reducible rfl)
              try simp only [Act.put, List.getElem_toArray, List.getElem_cons_succ, List.getElem_cons_zero, List.setIfInBounds_toArray, List.set_cons_zero, List.set_cons_succ]
              refine wpHd_take (i := 8) (v := ?_) (by kernel_rfl) rfl (by kernel_rfl) (fun _ _ _ h => h) (Or.inl ⟨by rfl, ?_⟩) (by assumption) ?_
              rotate_left
              · intro w hSw; (try dsimp only at hSw); go_simp; (try with_reducible rfl)
              try simp only [Act.put, List.getElem_toArray, List.getElem_cons_succ, List.getElem_cons_zero, List.setIfInBounds_toArray, List.set_cons_zero, List.set_cons_succ]
              refine wpHd_take (i := 9) (v := ?_) (by kernel_rfl) rfl (by kernel_rfl) (fun _ _ _ h => h) (Or.inl ⟨by rfl, ?_⟩) (by assumption) ?_
              rotate_left
              · intro w hSw; (try dsimp only at hSw); go_simp; (try with_reducible rfl)
              try simp only [Act.put, List.getElem_toArray, List.getElem_cons_succ, List.getElem_cons_zero, List.setIfInBounds_toArray, List.set_cons_zero, List.set_cons_succ]
              refine wpHd_take (i := 10) (v := undef) (by kernel_rfl) rfl (by kernel_rfl) (fun _ _ _ h => h) (Or.inr ⟨by rfl, rfl⟩) (by assumption) ?_
              try simp only [Act.put, List.getElem_toArray, List.getElem_cons_succ, List.getElem_cons_zero, List.setIfInBounds_toArray, List.set_cons_zero, List.set_cons_succ]
              refine wpHd_take (i := 11) (v := undef) (by kernel_rfl) rfl (by kernel_rfl) (fun _ _ _ h => h) (Or.inr ⟨by rfl, rfl⟩) (by assumption) ?_
              try simp only [Act.put, List.getElem_toArray, List.getElem_cons_succ, List.getElem_cons_zero, List.setIfInBounds_toArray, List.set_cons_zero, List.set_cons_succ]
              refine wpHd_take (i := 12) (v := undef) (by kernel_rfl) rfl (by kernel_rfl) (fun _ _ _ h => h) (Or.inr ⟨by rfl, rfl⟩) (by assumption) ?_
              try simp only [Act.put, List.getElem_toArray, List.getElem_cons_succ, List.getElem_cons_zero, List.setIfInBounds_toArray, List.set_cons_zero, List.set_cons_succ]
              refine wpHd_take (i := 15) (v := undef) (by kernel_rfl) rfl (by kernel_rfl) (fun _ _ _ h => h) (Or.inr ⟨by rfl, rfl⟩) (by assumption) ?_
              try simp only [Act.put, List.getElem_toArray, List.getElem_cons_succ, List.getElem_cons_zero, List.setIfInBounds_toArray, List.set_cons_zero, List.set_cons_succ]
              refine wpHd_take (i := 16) (v := undef) (by kernel_rfl) rfl (by kernel_rfl) (fun _ _ _ h => h) (Or.inr ⟨by rfl, rfl⟩) (by assumption) ?_
              try simp only [Act.put, List.getElem_toArray, List.getElem_cons_succ, List.getElem_cons_zero, List.setIfInBounds_toArray, List.set_cons_zero, List.set_cons_succ]
              refine wpHd_take (i := 17) (v := undef) (by kernel_rfl) rfl (by kernel_rfl) (fun _ _ _ h => h) (Or.inr ⟨by rfl, rfl⟩) (by assumption) ?_
              try simp only [Act.put, List.getElem_toArray, List.getElem_cons_succ, List.getElem_cons_zero, List.setIfInBounds_toArray, List.set_cons_zero, List.set_cons_succ]
              refine wpHd_take (i := 18) (v := undef) (by kernel_rfl) rfl (by kernel_rfl) (fun _ _ _ h => h) (Or.inr ⟨by rfl, rfl⟩) (by assumption) ?_
              try simp only [Act.put, List.getElem_toArray, List.getElem_cons_succ, List.getElem_cons_zero, List.setIfInBounds_toArray, List.set_cons_zero, List.set_cons_succ]
              refine wpHd_one (i := 13) rfl (by kernel_rfl) (fun K hK => ?_)
              rw [if_neg (by simp [Region.wanted, yielded])]
              refine hK.out _ _ ?_ (fun hSS => ?_)
              · trivial
              clear hK
              try simp only [Act.put, List.getElem_toArray, List.getElem_cons_succ, List.getElem_cons_zero, List.setIfInBounds_toArray, List.set_cons_zero, List.set_cons_succ]
              refine wpHd_take (i := 14) (v := undef) (by kernel_rfl) rfl (by kernel_rfl) (fun _ _ _ h => h) (Or.inr ⟨by rfl, rfl⟩) (by assumption) ?_
              try simp only [Act.put, List.getElem_toArray, List.getElem_cons_succ, List.getElem_cons_zero, List.setIfInBounds_toArray, List.set_cons_zero, List.set_cons_succ]
              refine wpHd_take (i := 19) (v := undef) (by kernel_rfl) rfl (by kernel_rfl) (fun _ _ _ h => h) (Or.inr ⟨by rfl, rfl⟩) (by assumption) ?_
              try simp only [Act.put, List.getElem_toArray, List.getElem_cons_succ, List.getElem_cons_zero, List.setIfInBounds_toArray, List.set_cons_zero, List.set_cons_succ]
              refine wpHd_end (by kernel_rfl) ?_
              clear hSS
              go_wp2_with fail
              refine (HT1.out _ Ho6.out).mono ?_
              rintro e w8 ⟨v8, rfl, hr8, hn8, ho8⟩
              obtain ⟨A8, q8, e8, _, _⟩ := hr8.shape
              have Ho8 := Lib.hid ((Ho6.out).trans ho8)
              have Hr8 := Lib.hid hr8
              have hR9 := Hrow.out.only ((HoR6.out).trans ho8) (fun _ _ => id)
              have HR9 := Lib.hid hR9
              have N8 := Lib.hid (show (ints (tierL c0 c1 c2 (s + 1) l5)).length = (ints (tierL c0 c1 c2 (s + 1) l5)).length from rfl)
              have L8 := Lib.hid (show (ints (tierL c0 c1 c2 (s + 1) l5)).length ≤ 48 from by rw [ints_len]; exact Nat.le_trans (tierL_le c0 c1 c2 (s + 1) l5) hl48)
              have L9 := Lib.hid (show (ints (joinT c0 c1 c2 l5 (s + 1))).length ≤ 150 from by rw [ints_len]; exact Nat.le_trans (joinT_le c0 c1 c2 l5 (s + 1)) (Nat.le_trans (Nat.mul_le_mul ht9 hl48) (by omega)))
              clear hr8 hn8 ho8 hR9
              generalize hn8e : (ints (tierL c0 c1 c2 (s + 1) l5)).length = n8 at *
              have N8e := Lib.hid hn8e
              clear hn8e
              subst e8
              go_wp2_with (at_builtin; refine wpList_append_row _ rfl (.tmp 59) (.tmp 62) 23 3 rfl intInfo rfl Try.underlying23 (.slice A9 n9 q9) (ints (joinT c0 c1 c2 l5 (s + 1))) rfl HR9.out A8 n8 q8 (ints (tierL c0 c1 c2 (s + 1) l5)) rfl N8e.out.symm Hr8.out.srcOf.2 (ints_one _) (by have := L8.out; have := L9.out; have := N8e.out; unfold maxLen; omega) (by have := L8.out; have := L9.out; have := N8e.out; omega) ?_
                           intro v1 w9 hrow9 hgrow9 hown9 _)
              have hw5 := Ho8.out.size
              refine ⟨⟨s + 1 + 1, by omega, by first | rfl | (congr 1; simp) | (congr 1; omega), ?_, fun y hy => (hown9 y hy).elim (Hown.out y) fun h => by omega, Ho8.out.trans' hgrow9 fun y hy => .inr (Hown.out y hy)⟩, by simp [intOf] <;> omega⟩
              rw [joinT, ints_app]; exact hrow9
            · have hfull := tier_full c0 c1 c2 s l5 (by omega)
              have e1 : (s : Int) + 1 + 1 - 1 = s + 1 := by omega
              have e2 : (s : Int) + 1 + 1 - 2 = s := by omega
              have e3 : 1 < (s : Int) + 1 + 1 := by omega
              have e4 : IntKind.i64.wrap (s : Int) = s := IntWalk.i64_in _ (by omega)
              have e5 : (s : Int) < 3 := by omega
              have e6 : IntKind.i64.wrap ((s : Int) + 1) = s + 1 := IntWalk.i64_in _ (by omega)
              have e7 : IntKind.i64.wrap ((s : Int) + 1 + 1) = s + 1 + 1 := IntWalk.i64_in _ (by omega)
              have hcsr := Ho5.out.cell Hcs.out id
              generalize (joinT c0 c1 c2 l5 (s + 1)).length = n9 at *
              subst e9
              go_wp2_with fail
              refine wp_region_tail (S := fun w' => w'.cell? ⟨w.heap.size, s, none⟩ = some (.int .i64 (capN c0 c1 c2 s))) 20 (by kernel_rfl) (by kernel_rfl) ?_ ?_
              · first | go_keep | assumption
              intro hSS
              refine wpHd_take (i := 0) (v := ?_) (by kernel_rfl) rfl (by kernel_rfl) (fun _ _ _ h => h) (Or.inl ⟨by rfl, ?_⟩) (by assumption) ?_
              rotate_left
              · intro w hSw; (try dsimp only at hSw); go_simp; (try with_reducible rfl)
              try simp only [Act.put, List.getElem_toArray, List.getElem_cons_succ, List.getElem_cons_zero, List.setIfInBounds_toArray, List.set_cons_zero, List.set_cons_succ]
              refine wpHd_take (i := 1) (v := ?_) (by kernel_rfl) rfl (by kernel_rfl) (fun _ _ _ h => h) (Or.inl ⟨by rfl, ?_⟩) (by assumption) ?_
              rotate_left
              · intro w hSw; (try dsimp only at hSw); go_simp; (try with_reducible rfl)
              try simp only [Act.put, List.getElem_toArray, List.getElem_cons_succ, List.getElem_cons_zero, List.setIfInBounds_toArray, List.set_cons_zero, List.set_cons_succ]
              refine wpHd_take (i := 2) (v := ?_) (by kernel_rfl) rfl (by kernel_rfl) (fun _ _ _ h => h) (Or.inl ⟨by rfl, ?_⟩) (by assumption) ?_
              rotate_left
              · intro w hSw; (try dsimp only at hSw); go_simp; (try with_reducible rfl)
              try simp only [Act.put, List.getElem_toArray, List.getElem_cons_succ, List.getElem_cons_zero, List.setIfInBounds_toArray, List.set_cons_zero, List.set_cons_succ]
              refine wpHd_take (i := 3) (v := ?_) (by kernel_rfl) rfl (by kernel_rfl) (fun _ _ _ h => h) (Or.inl ⟨by rfl, ?_⟩) (by assumption) ?_
              rotate_left
              · intro w hSw; (try dsimp only at hSw); go_simp; (try with_reducible rfl)
              try simp only [Act.put, List.getElem_toArray, List.getElem_cons_succ, List.getElem_cons_zero, List.setIfInBounds_toArray, List.set_cons_zero, List.set_cons_succ]
              refine wpHd_take (i := 4) (v := ?_) (by kernel_rfl) rfl (by kernel_rfl) (fun _ _ _ h => h) (Or.inl ⟨by rfl, ?_⟩) (by assumption) ?_
              rotate_left
              · intro w hSw; (try dsimp only at hSw); go_simp; (try with_reducible rfl)
              try simp only [Act.put, List.getElem_toArray, List.getElem_cons_succ, List.getElem_cons_zero, List.setIfInBounds_toArray, List.set_cons_zero, List.set_cons_succ]
              refine wpHd_one (i := 5) rfl (by kernel_rfl) (fun K hK => ?_)
              go_simp
              refine (HT1.out _ (Ho5.out.drew)).mono ?_
              rintro e w6 ⟨v6, rfl, hr6, hn6, ho6⟩
              obtain ⟨A6, q6, e6, _, _⟩ := hr6.shape
              have Ho6 := Lib.hid ((Ho5.out.drew).trans ho6)
              have HoR6 := Lib.hid (((Only.refl Non wr).drew).trans ho6)
              rw [ints_len] at e6
              have hcs := (Ho6.out).cell Hcs.out id
              clear hr6 hn6 ho6
              generalize hl6 : (tierL c0 c1 c2 (s + 1) l5).length = n6 at *
              have hn6p : 0 < n6 := by omega
              subst e6
              refine hK.out _ _ ?_ (fun hSS => ?_)
              · first | go_keep | assumption
              clear hK
              try simp only [Act.put, List.getElem_toArray, List.getElem_cons_succ, List.getElem_cons_zero, List.setIfInBounds_toArray, List.set_cons_zero, List.set_cons_succ]
              refine wpHd_take (i := 6) (v := ?_) (by kernel_rfl) rfl (by kernel_rfl) (fun _ _ _ h => h) (Or.inl ⟨by rfl, ?_⟩) (by assumption) ?_
              rotate_left
              · intro w hSw; (try dsimp only at hSw); go_simp; (try with_reducible rfl)
              try simp only [Act.put, List.getElem_toArray, List.getElem_cons_succ, List.getElem_cons_zero, List.setIfInBounds_toArray, List.set_cons_zero, List.set_cons_succ]
              refine wpHd_take (i := 7) (v := ?_) (by kernel_rfl) rfl (by kernel_rfl) (fun _ _ _ h => h) (Or.inl ⟨by rfl, ?_⟩) (by assumption) ?_
              rotate_left
              · intro w hSw; (try dsimp only at hSw); go_simp; (try with_reducible rfl)
              try simp only [Act.put, List.getElem_toArray, List.getElem_cons_succ, List.getElem_cons_zero, List.setIfInBounds_toArray, List.set_cons_zero, List.set_cons_succ]
              refine wpHd_take (i := 8) (v := ?_) (by kernel_rfl) rfl (by kernel_rfl) (fun _ _ _ h => h) (Or.inl ⟨by rfl, ?_⟩) (by assumption) ?_
              rotate_left
              · intro w hSw; (try dsimp only at hSw); go_simp; (try with_reducible rfl)
              try simp only [Act.put, List.getElem_toArray, List.getElem_cons_succ, List.getElem_cons_zero, List.setIfInBounds_toArray, List.set_cons_zero, List.set_cons_succ]
              refine wpHd_take (i := 9) (v := ?_) (by kernel_rfl) rfl (by kernel_rfl) (fun _ _ _ h => h) (Or.inl ⟨by rfl, ?_⟩) (by assumption) ?_
              rotate_left
              · intro w hSw; (try dsimp only at hSw); go_simp; (try with_reducible rfl)
              try simp only [Act.put, List.getElem_toArray, List.getElem_cons_succ, List.getElem_cons_zero, List.setIfInBounds_toArray, List.set_cons_zero, List.set_cons_succ]
              refine wpHd_take (i := 10) (v := ?_) (by kernel_rfl) rfl (by kernel_rfl) (fun _ _ _ h => h) (Or.inl ⟨by rfl, ?_⟩) (by assumption) ?_
              rotate_left
              · intro w hSw; (try dsimp only at hSw); go_simp; (try with_reducible rfl)
              try simp only [Act.put, List.getElem_toArray, List.getElem_cons_succ, List.getElem_cons_zero, List.setIfInBounds_toArray, List.set_cons_zero, List.set_cons_succ]
              refine wpHd_take (i := 11) (v := ?_) (by kernel_rfl) rfl (by kernel_rfl) (fun _ _ _ h => h) (Or.inl ⟨by rfl, ?_⟩) (by assumption) ?_
              rotate_left
              · intro w hSw; (try dsimp only at hSw); go_simp; (try with_reducible rfl)
              try simp only [Act.put, List.getElem_toArray, List.getElem_cons_succ, List.getElem_cons_zero, List.setIfInBounds_toArray, List.set_cons_zero, List.set_cons_succ]
              refine wpHd_take (i := 12) (v := ?_) (by kernel_rfl) rfl (by kernel_rfl) (fun _ _ _ h => h) (Or.inl ⟨by rfl, ?_⟩) (by assumption) ?_
              rotate_left
              · intro w hSw; (try dsimp only at hSw); go_simp; (try with_reducible rfl)
              try simp only [Act.put, List.getElem_toArray, List.getElem_cons_succ, List.getElem_cons_zero, List.setIfInBounds_toArray, List.set_cons_zero, List.set_cons_succ]
              refine wpHd_take (i := 15) (v := ?_) (by kernel_rfl) rfl (by kernel_rfl) (fun _ _ _ h => h) (Or.inl ⟨by rfl, ?_⟩) (by assumption) ?_
              rotate_left
              · intro w hSw; (try dsimp only at hSw); go_simp; (try with_reducible rfl)
              try simp only [Act.put, List.getElem_toArray, List.getElem_cons_succ, List.getElem_cons_zero, List.setIfInBounds_toArray, List.set_cons_zero, List.set_cons_succ]
              refine wpHd_take (i := 16) (v := ?_) (by kernel_rfl) rfl (by kernel_rfl) (fun _ _ _ h => h) (Or.inl ⟨by rfl, ?_⟩) (by assumption) ?_
              rotate_left
              · intro w hSw; (try dsimp only at hSw); go_simp; (try with_reducible rfl)
              try simp only [Act.put, List.getElem_toArray, List.getElem_cons_succ, List.getElem_cons_zero, List.setIfInBounds_toArray, List.set_cons_zero, List.set_cons_succ]
              refine wpHd_take (i := 17) (v := ?_) (by kernel_rfl) rfl (by kernel_rfl) (fun _ _ _ h => h) (Or.inl ⟨by rfl, ?_⟩) (by assumption) ?_
              rotate_left
              · intro w hSw; (try dsimp only at hSw); go_simp; (try with_reducible rfl)
              try simp only [Act.put, List.getElem_toArray, List.getElem_cons_succ, List.getElem_cons_zero, List.setIfInBounds_toArray, List.set_cons_zero, List.set_cons_succ]
              refine wpHd_take (i := 18) (v := ?_) (by kernel_rfl) rfl (by kernel_rfl) (fun _ _ _ h => h) (Or.inl ⟨by rfl, ?_⟩) (by assumption) ?_
              rotate_left
              · intro w hSw; (try dsimp only at hSw); go_simp; (try with_reducible rfl)
              try simp only [Act.put, List.getElem_toArray, List.getElem_cons_succ, List.getElem_cons_zero, List.setIfInBounds_toArray, List.set_cons_zero, List.set_cons_succ]
              refine wpHd_one (i := 13) rfl (by kernel_rfl) (fun K hK => ?_)
              go_simp
              refine (HT0.out _ Ho6.out).mono ?_
              rintro e w7 ⟨v7, rfl, hr7, hn7, ho7⟩
              obtain ⟨A7, q7, e7, _, _⟩ := hr7.shape
              have Ho7 := Lib.hid (Ho6.out.trans ho7)
              have HoR7 := Lib.hid (HoR6.out.trans ho7)
              rw [ints_len, hfull] at e7
              have hcs7 := (Ho7.out).cell Hcs.out id
              clear hr7 hn7 ho7
              subst e7
              refine hK.out _ _ ?_ (fun hSS => ?_)
              · first | go_keep | assumption
              clear hK
              try simp only [Act.put, List.getElem_toArray, List.getElem_cons_succ, List.getElem_cons_zero, List.setIfInBounds_toArray, List.set_cons_zero, List.set_cons_succ]
              refine wpHd_take (i := 14) (v := ?_) (by kernel_rfl) rfl (by kernel_rfl) (fun _ _ _ h => h) (Or.inl ⟨by rfl, ?_⟩) (by assumption) ?_
              rotate_left
              · intro w hSw; (try dsimp only at hSw); go_simp; (try with_reducible rfl)
              try simp only [Act.put, List.getElem_toArray, List.getElem_cons_succ, List.getElem_cons_zero, List.setIfInBounds_toArray, List.set_cons_zero, List.set_cons_succ]
              refine wpHd_take (i := 19) (v := ?_) (by kernel_rfl) rfl (by kernel_rfl) (fun _ _ _ h => h) (Or.inl ⟨by rfl, ?_⟩) (by assumption) ?_
              rotate_left
              · intro w hSw; (try dsimp only at hSw); go_simp; (try with_reducible rfl)
              try simp only [Act.put, List.getElem_toArray, List.getElem_cons_succ, List.getElem_cons_zero, List.setIfInBounds_toArray, List.set_cons_zero, List.set_cons_succ]
              refine wpHd_end (by kernel_rfl) ?_
              clear hSS
              go_wp2_with fail
              refine (HT1.out _ Ho7.out).mono ?_
              rintro e w8 ⟨v8, rfl, hr8, hn8, ho8⟩
              obtain ⟨A8, q8, e8, _, _⟩ := hr8.shape
              have Ho8 := Lib.hid ((Ho7.out).trans ho8)
              have Hr8 := Lib.hid hr8
              have hR9 := Hrow.out.only ((HoR7.out).trans ho8) (fun _ _ => id)
              have HR9 := Lib.hid hR9
              have N8 := Lib.hid (show (ints (tierL c0 c1 c2 (s + 1) l5)).length = (ints (tierL c0 c1 c2 (s + 1) l5)).length from rfl)
              have L8 := Lib.hid (show (ints (tierL c0 c1 c2 (s + 1) l5)).length ≤ 48 from by rw [ints_len]; exact Nat.le_trans (tierL_le c0 c1 c2 (s + 1) l5) hl48)
              have L9 := Lib.hid (show (ints (joinT c0 c1 c2 l5 (s + 1))).length ≤ 150 from by rw [ints_len]; exact Nat.le_trans (joinT_le c0 c1 c2 l5 (s + 1)) (Nat.le_trans (Nat.mul_le_mul ht9 hl48) (by omega)))
              clear hr8 hn8 ho8 hR9
              generalize hn8e : (ints (tierL c0 c1 c2 (s + 1) l5)).length = n8 at *
              have N8e := Lib.hid hn8e
              clear hn8e
              subst e8
              go_wp2_with (at_builtin; refine wpList_append_row _ rfl (.tmp 59) (.tmp 62) 23 3 rfl intInfo rfl Try.underlying23 (.slice A9 n9 q9) (ints (joinT c0 c1 c2 l5 (s + 1))) rfl HR9.out A8 n8 q8 (ints (tierL c0 c1 c2 (s + 1) l5)) rfl N8e.out.symm Hr8.out.srcOf.2 (ints_one _) (by have := L8.out; have := L9.out; have := N8e.out; unfold maxLen; omega) (by have := L8.out; have := L9.out; have := N8e.out; omega) ?_
                           intro v1 w9 hrow9 hgrow9 hown9 _)
              have hw5 := Ho8.out.size
              refine ⟨⟨s + 1 + 1, by omega, by first | rfl | (congr 1; simp) | (congr 1; omega), ?_, fun y hy => (hown9 y hy).elim (Hown.out y) fun h => by omega, Ho8.out.trans' hgrow9 fun y hy => .inr (Hown.out y hy)⟩, by simp [intOf] <;> omega⟩
              rw [joinT, ints_app]; exact hrow9
        · have ht3 : t = 3 := by omega
          subst ht3
          have HAl := Lib.hid (all_any (w.heap.size + 1) lb F5 c0 c1 c2 l5 m5 wr (Hm5.out.keep Ho5.out))
          have hj3 := Hrow.out
          rw [joinT_all c0 c1 c2 l5 Hlm.out] at hj3
          have Hj3 := Lib.hid hj3
          clear hj3
          generalize (joinT c0 c1 c2 l5 3).length = n9 at *
          subst e9
          go_wp2_with fail
          refine HAl.out.mono ?_
          rintro e w6 ⟨v6, rfl, hr6, hn6, ho6⟩
          have HS := Lib.hid (same_vals (.slice A9 n9 q9) v6 l5 l5 w6 (Hj3.out.only ho6 fun _ _ => id).ints_at hr6.ints_at (by omega) (by omega))
          have Ho6 := Lib.hid (Ho5.out.trans ho6)
          rw [decide_eq_true rfl] at HS
          clear hr6 hn6 ho6
          go_wp2_with fail
          refine HS.out.mono ?_
          rintro e w7 ⟨rfl, z, rfl⟩
          go_wp2_with fail
          refine ⟨?_, by simp [intOf]; omega⟩
          exact ⟨k + 1, l5, m5, F5, by omega, by simp, Hm5.out.keep (Ho6.out.drewN z), by omega, Ho25.out.trans' (Ho6.out.drewN z) fun b hb => hb.elim⟩
    · have Ho := Lib.hid ho
      clear hm ho
      go_wp2_with fail
      go_ret
      exact ⟨rfl, Ho2.out.trans' Ho.out fun b hb => .inr (by have hb' : w.heap.size + 1 ≤ b := hb; omega)⟩
theorem modelTiers_skip (c0 c1 c2 : Int) (A : Option Addr) (n c : Nat) (w : World) (hn : 200 < n) (hm : n ≤ maxLen) :
    Calls Try.prog 6 #[.agg #[.int .i64 c0, .int .i64 c1, .int .i64 c2], .slice A n c] w (Ret (.bool true) Non w) := by
  have HW := Lib.hid (fun w => mwakes w)
  have hal : Only Non w (w.alloc (.cells #[.int .i64 c0, .int .i64 c1, .int .i64 c2] 22)) := (Only.refl _ _).alloc _
  have Hal := Lib.hid hal
  have h2 : 200 < (n : Int) := by omega
  unfold maxLen at hm
  clear hal
  go_enter Try.func6, Try.ntmps6
  go_wp2_with fail
  generalize w.alloc (.cells #[.int .i64 c0, .int .i64 c1, .int .i64 c2] 22) = W at *
  refine (HW.out _).mono ?_
  rintro e w1 ⟨rfl, ho⟩
  have Ho1 := Lib.hid (Hal.out.trans ho)
  clear ho
  go_wp2_with fail
  go_ret
  exact ⟨rfl, Ho1.out⟩
end
end Go.Proofs.Ytpfegioooibjlaa
