/- DirActs: the walk. -/
import Derived.Test.YtlagccfllnhgbaaDirC
import Derived.Test.YtlagccfllnhgbaaOpen
import Derived.Deep.RegionHeld3
namespace Go.Proofs.Ytlagccfllnhgbaa
open Go.RowKit
set_option linter.unusedVariables false

def DoPost2 (b xb g : Nat) (s' : Tab) (w : World) (e : Ending) (w' : World) : Prop :=
  e = .returned (.bool true) ∧ DirAt w' b s' ∧ RefAt w' xb g s' ∧ Only (Two b g) w w'
theorem do_any2 (b xb g : Nat) (s : Tab) (hs : s.Ok) (k c bl : Int) : ∃ s' : Tab, s'.Ok ∧ ∀ w, DirAt w b s → RefAt w xb g s →
    Calls Try.prog 28 #[.pointer (some ⟨b, 0, none⟩), .pointer (some ⟨xb, 0, none⟩), .agg #[.int .i64 k, .int .i64 c, .int .i64 bl]] w (DoPost2 b xb g s' w) :=
  ⟨s.act k c bl, hs.act k c bl, fun w h hx => do_any b xb g s hs k c bl w h hx⟩
theorem sameInts_eq (A B : Option Addr) (n m ca cb : Nat) (l : List Int) (w : World) (ha : IntsAt w (.slice A n ca) l) (hb : IntsAt w (.slice B m cb) l) (h1 : l.length ≤ maxLen) :
    Calls Try.prog 31 #[.slice A n ca, .slice B m cb] w fun e w' => e = .returned (.bool true) ∧ ∃ m, w.drewN m = w' := by
  have := sameInts_call A B n m ca cb l l w ha hb (by rw [ha.len]; exact h1) (by rw [hb.len]; exact h1)
  simpa using this
theorem sh_len (s : Tab) (hs : s.Ok) (y : Int) : (s.sharers y).length ≤ 32 := by
  simp only [Tab.sharers, List.length_map]
  have h1 := List.length_filter_le (fun (x : Nat) => s.has x y) (List.range s.c)
  rw [List.length_range] at h1
  have := hs.c4
  omega
def AStart (b xb : Nat) (A : Option Addr) (L : List (Int × Int × Int)) (w : World) (i : Value) (wr : World) : Prop :=
  ∃ (k : Nat) (s : Tab), k ≤ L.length ∧ i = .int .i64 k ∧ s.Ok ∧ DirAt wr b s ∧ RefAt wr xb (xb + 1) s ∧ Only Non w wr
section
set_option maxHeartbeats 2000000
theorem dirActs_long (A : Option Addr) (n c : Nat) (d0 d1 : Int) (w : World) (h : 100 < n) (hn : n ≤ maxLen) :
    Calls Try.prog 9 #[.agg #[.int .i64 d0, .int .i64 d1], .slice A n c] w (Ret (.bool true) Non w) := by
  unfold maxLen at hn
  have H0 := Lib.hid (dwakes_any (w.alloc (.cells #[.int .i64 d0, .int .i64 d1] 67)))
  go_enter Try.func9, Try.ntmps9
  go_wp2_with fail
  refine H0.out.mono ?_
  rintro e w1 ⟨rfl, ho⟩
  go_wp2_with fail
  go_ret
  exact ⟨rfl, ((Only.refl _ _).alloc _).trans ho⟩
theorem dirActs_walk (A : Option Addr) (c : Nat) (L : List (Int × Int × Int)) (d0 d1 : Int) (w : World) (h : L.length ≤ 100) (hL : Trips w A L) :
    Calls Try.prog 9 #[.agg #[.int .i64 d0, .int .i64 d1], .slice A L.length c] w (Ret (.bool true) Non w) := by
  have H0 := Lib.hid (dwakes_any (w.alloc (.cells #[.int .i64 d0, .int .i64 d1] 67)))
  have hB : Box (w.alloc (.cells #[.int .i64 d0, .int .i64 d1] 67)) w.heap.size 67 #[.int .i64 d0, .int .i64 d1] := Box.fresh _ _ _
  go_enter Try.func9, Try.ntmps9
  go_wp2_with fail
  refine H0.out.mono ?_
  rintro e w1 ⟨rfl, ho1⟩
  have hB1 := ho1.box hB id
  have c0 : w1.cell? ⟨w.heap.size, 0, none⟩ = some (.int .i64 d0) := hB1.cellAt rfl
  have c1 : w1.cell? ⟨w.heap.size, 1, none⟩ = some (.int .i64 d1) := hB1.cellAt rfl
  go_wp2_with fail
  go_region_held3 (fun w' => w'.cell? ⟨w.heap.size, 0, none⟩ = some (.int .i64 d0) ∧ w'.cell? ⟨w.heap.size, 1, none⟩ = some (.int .i64 d1))
    (first | go_keep | (refine ⟨Only.cell ho2 ?_ id, Only.cell ho2 ?_ id⟩ <;> assumption) | (refine ⟨Only.cell ho3 (Only.cell ho2 ?_ id) id, Only.cell ho3 (Only.cell ho2 ?_ id) id⟩ <;> assumption))
    (first | (go_at_call 26; refine (new_any d0 d1 _).mono ?_; rintro e w2 ⟨b, rfl, hb, hd, ho2⟩; replace hb := Nat.le_of_eq hb.symm) | (go_at_call 27; refine (rnew_any d0 d1 _).mono ?_; rintro e w3 ⟨xb, rfl, hxb, hx, ho3⟩; replace hxb := Nat.le_of_eq hxb.symm))
  have hd3 := ho3.box hd id
  have hok := Tab.Ok.new d0 d1
  have hsz1 := ho1.size
  have hsz2 := ho2.size
  simp only [World.size_alloc, heap_drew] at hsz1 hsz2 hb hxb
  have Ho3 := Lib.hid ((((Only.refl Non w).alloc (.cells #[.int .i64 d0, .int .i64 d1] 67)).trans ho1).drew.trans ho2 |>.trans ho3)
  have hbw : w.heap.size ≤ b := by omega
  have hxw : w.heap.size ≤ xb := by omega
  clear hb hxb hd hsz1 hsz2 ho1 ho2 ho3 c0 c1 hB hB1
  go_wp2_with fail
  go_loopw [26] (fun i wr => AStart b xb A L w i wr) (fun i _ => L.length - (intOf i).toNat)
  case atStart => exact ⟨0, _, Nat.zero_le _, rfl, hok, hd3, hx, Ho3.out⟩
  case round =>
    clear hd3 hx hok
    obtain ⟨k, s, hk, rfl, hs, hd, hx, ho⟩ := hrel
    by_cases hlt : k < L.length
    · obtain ⟨g, o, eA, hg, h1, h2, h3⟩ := (hL.keep ho fun _ _ => id) k hlt
      subst eA
      generalize (L.getD k (0, 0, 0)).1 = ak at *
      generalize (L.getD k (0, 0, 0)).2.1 = ac at *
      generalize (L.getD k (0, 0, 0)).2.2 = ab at *
      have hbr : b < wr.heap.size := hd.lt
      have hxr : xb + 1 < wr.heap.size := hx.2.lt
      obtain ⟨s', hs', H1⟩ := do_any2 b xb (xb + 1) s hs ak ac ab
      have H1' := Lib.hid H1; clear H1
      have Ho := Lib.hid ho; clear ho
      go_wp2_with fail
      have kW0 : (wr.alloc (.cells #[.int .i64 ak, .int .i64 ac, .int .i64 ab] 61)).drew.cell? ⟨wr.heap.size, 0, none⟩ = some (.int .i64 ak) := (Box.fresh wr _ _).drew.cellAt rfl
      have kW1 : (wr.alloc (.cells #[.int .i64 ak, .int .i64 ac, .int .i64 ab] 61)).drew.cell? ⟨wr.heap.size, 1, none⟩ = some (.int .i64 ac) := (Box.fresh wr _ _).drew.cellAt rfl
      have kW2 : (wr.alloc (.cells #[.int .i64 ak, .int .i64 ac, .int .i64 ab] 61)).drew.cell? ⟨wr.heap.size, 2, none⟩ = some (.int .i64 ab) := (Box.fresh wr _ _).drew.cellAt rfl
      have hdW : DirAt (wr.alloc (.cells #[.int .i64 ak, .int .i64 ac, .int .i64 ab] 61)).drew b s := (Box.alloc hd _).drew
      have hxW : RefAt (wr.alloc (.cells #[.int .i64 ak, .int .i64 ac, .int .i64 ab] 61)).drew xb (xb + 1) s := ⟨(hx.1.alloc _).drew, (hx.2.alloc _).drew⟩
      have hoW : Only Non w (wr.alloc (.cells #[.int .i64 ak, .int .i64 ac, .int .i64 ab] 61)).drew := (Ho.out.alloc _).drew
      have HoW := Lib.hid hoW; clear hoW
      have far2 : ∀ j, Two b (xb + 1) j → j ≠ wr.heap.size := fun j hj => by rcases hj with rfl | rfl <;> omega
      have Far := Lib.hid far2; clear far2
      have Hnb := Lib.hid (show ∀ x, (x != x) = false from fun x : Bool => by simp)
      have l1 := sh_len s' hs' ab
      have l2 := of_len s' hs' ac
      have lm1 : (s'.sharers ab).length ≤ maxLen := by unfold maxLen; omega
      have lm2 : (s'.of ac).length ≤ maxLen := by unfold maxLen; omega
      go_region_held3 (fun w' => w'.cell? ⟨wr.heap.size, 0, none⟩ = some (.int .i64 ak) ∧ w'.cell? ⟨wr.heap.size, 1, none⟩ = some (.int .i64 ac) ∧ w'.cell? ⟨wr.heap.size, 2, none⟩ = some (.int .i64 ab))
        (first | go_keep | (refine ⟨?_, ?_, ?_⟩ <;> assumption))
        (first
          | (go_at_call 28; refine (H1'.out _ hdW hxW).mono ?_; rintro e w5 ⟨rfl, hd5, hx5, ho5⟩
             have k50 := ho5.cell kW0 (fun e => Far.out _ e rfl)
             have k51 := ho5.cell kW1 (fun e => Far.out _ e rfl)
             have k52 := ho5.cell kW2 (fun e => Far.out _ e rfl))
          | (go_at_call 33; refine (sharers_all b s' hs' ab w5 hd5).mono ?_; rintro e w6 ⟨v6, he6, hown6, ho6⟩; obtain ⟨A6, c6, hv6, hl6, hm6⟩ := hown6.shape; subst hv6 he6
             have k60 := ho6.cell k50 id
             have k61 := ho6.cell k51 id
             have k62 := ho6.cell k52 id
             have hd6 := ho6.box hd5 id
             have hx6 := hx5.only ho6 id id)
          | (go_at_call 34; refine (rsharers_any xb (xb + 1) s' hs' ab w6 hx6).mono ?_; rintro e w7 ⟨v7, he7, hown7, ho7⟩; obtain ⟨A7, c7, hv7, hl7, hm7⟩ := hown7.shape; subst hv7 he7
             have k70 := ho7.cell k60 id
             have k71 := ho7.cell k61 id
             have k72 := ho7.cell k62 id
             have hd7 := ho7.box hd6 id
             have hx7 := hx6.only ho7 id id
             have a6 := (hown6.only ho7 (fun _ _ h => h)).at
             have a7 := hown7.at)
          | (go_at_call 31; refine (sameInts_eq A9 A10 _ _ c9 c10 (s'.of ac) _ a9 a10 lm2).mono ?_; rintro e w11 ⟨rfl, m11, rfl⟩
             have hd11 := hd10.drewN m11
             have hx11 : RefAt (w10.drewN m11) xb (xb + 1) s' := ⟨hx10.1.drewN m11, hx10.2.drewN m11⟩)
          | (go_at_call 31; refine (sameInts_eq A6 A7 _ _ c6 c7 (s'.sharers ab) _ a6 a7 lm1).mono ?_; rintro e w8 ⟨rfl, m8, rfl⟩
             have k80 : (w7.drewN m8).cell? ⟨wr.heap.size, 0, none⟩ = some (.int .i64 ak) := k70
             have k81 : (w7.drewN m8).cell? ⟨wr.heap.size, 1, none⟩ = some (.int .i64 ac) := k71
             have k82 : (w7.drewN m8).cell? ⟨wr.heap.size, 2, none⟩ = some (.int .i64 ab) := k72
             have hd8 := hd7.drewN m8
             have hx8 : RefAt (w7.drewN m8) xb (xb + 1) s' := ⟨hx7.1.drewN m8, hx7.2.drewN m8⟩)
          | (go_at_call 29; refine (of_any b s' hs' ac _ hd8).mono ?_; rintro e w9 ⟨v9, he9, hown9, ho9⟩; obtain ⟨A9, c9, hv9, hl9, hm9⟩ := hown9.shape; subst hv9 he9
             have k90 := ho9.cell k80 id
             have k91 := ho9.cell k81 id
             have k92 := ho9.cell k82 id
             have hd9 := ho9.box hd8 id
             have hx9 := hx8.only ho9 id id)
          | (go_at_call 32; refine (rof_any xb (xb + 1) s' hs' ac _ hx9).mono ?_; rintro e w10 ⟨v10, he10, hown10, ho10⟩; obtain ⟨A10, c10, hv10, hl10, hm10⟩ := hown10.shape; subst hv10 he10
             have k100 := ho10.cell k90 id
             have k101 := ho10.cell k91 id
             have k102 := ho10.cell k92 id
             have hd10 := ho10.box hd9 id
             have hx10 := hx9.only ho10 id id
             have a9 := (hown9.only ho10 (fun _ _ h => h)).at
             have a10 := hown10.at)
          | (go_at_call 35; refine (has_any b s' hs' ac ab _ hd11).mono ?_; rintro e w12 ⟨rfl, rfl⟩)
          | (go_at_call 36; refine (rhas_any xb (xb + 1) s' hs' ac ab _ hx11).mono ?_; rintro e w13 ⟨rfl, m13, rfl⟩
             have hd13 := hd11.drewN m13
             have hx13 : RefAt ((w10.drewN m11).drewN m13) xb (xb + 1) s' := ⟨hx11.1.drewN m13, hx11.2.drewN m13⟩)
          | (go_at_call 37; refine (dirlen_any b s' hs' _ (hd10.drewN _)).mono ?_; rintro e w14 ⟨rfl, rfl⟩)
          | (go_at_call 38; refine (rlen_any xb (xb + 1) s' hs' _ ⟨hx10.1.drewN _, hx10.2.drewN _⟩).mono ?_; rintro e w15 ⟨rfl, rfl⟩))
      have hfin := (((((HoW.out.trans' ho5 fun j hj => .inr (by rcases hj with rfl | rfl <;> omega)).transN ho6).transN ho7).drewN m8).transN ho9).transN ho10
      have Hf := Lib.hid hfin
      clear hfin kW0 kW1 kW2 k50 k51 k52 k60 k61 k62 k70 k71 k72 k80 k81 k82 k90 k91 k92 k100 k101 k102 ho5 ho6 ho7 ho9 ho10 a6 a7 a9 a10
      go_wp2_with fail
      go_roundw
      case rel => exact ⟨k + 1, s', by omega, by go_num, hs', hd10.drewN _, ⟨hx10.1.drewN _, hx10.2.drewN _⟩, Hf.out.drewN _⟩
      case measure => simp [intOf]; omega
    · have Ho := Lib.hid ho
      go_wp2_with fail
      go_ret
      exact ⟨rfl, Ho.out⟩
end
end Go.Proofs.Ytlagccfllnhgbaa
