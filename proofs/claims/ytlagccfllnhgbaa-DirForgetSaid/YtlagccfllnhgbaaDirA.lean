/- What dir's own leaves do, said of cells. -/
import Derived.Test.YtlagccfllnhgbaaProg
import Derived.Test.YtlagccfllnhgbaaDirL
import Derived.WalkSpells
import Derived.WalkLawsBesides
import Derived.Deep.OwnRows
import Derived.BigRegion
import Derived.RegionTactic
import Derived.BigQuiet
import Derived.Deep.QuietTactic
namespace Go.Proofs.Ytlagccfllnhgbaa
open Go.RowKit
set_option linter.unusedVariables false

def DirAt (w : World) (b : Nat) (s : Tab) : Prop := Box w b 82 (dirCells s)
theorem DirAt.c0 {w : World} {b : Nat} {s : Tab} (h : DirAt w b s) : w.cell? ⟨b, 0, none⟩ = some (.int .i64 s.c) := Box.cellAt h (dirCells_0 s)
theorem DirAt.c1 {w : World} {b : Nat} {s : Tab} (h : DirAt w b s) : w.cell? ⟨b, 1, none⟩ = some (.int .i64 s.n) := Box.cellAt h (dirCells_1 s)
theorem DirAt.c2 {w : World} {b : Nat} {s : Tab} (h : DirAt w b s) (y : Nat) (hy : y < 32) : w.cell? ⟨b, 2 + y, none⟩ = some (.int .u8 (byteP fun x => s.h x y)) := Box.cellAt h (dirCells_2 s y hy)

section
set_option maxHeartbeats 400000
theorem there_nil (x y : Int) (w : World) :
    Calls Try.prog 51 #[.pointer none, .int .i64 x, .int .i64 y] w fun e w' => e = .returned (.bool false) ∧ w = w' := by
  go_enter Try.func51, Try.ntmps51
  go_wp2
  go_ret
  exact ⟨rfl, rfl⟩

def thereB (c n x y : Int) : Bool := decide (0 ≤ x) && decide (x < c) && decide (0 ≤ y) && decide (y < n)
theorem there_core (b : Nat) (c n x y : Int) (w : World) (h0 : w.cell? ⟨b, 0, none⟩ = some (.int .i64 c)) (h1 : w.cell? ⟨b, 1, none⟩ = some (.int .i64 n)) :
    Calls Try.prog 51 #[.pointer (some ⟨b, 0, none⟩), .int .i64 x, .int .i64 y] w fun e w' => e = .returned (.bool (thereB c n x y)) ∧ w = w' := by
  go_enter Try.func51, Try.ntmps51
  go_wp2
  all_goals go_ret
  all_goals (refine ⟨?_, rfl⟩; simp [thereB, *] <;> omega)
theorem there_any (b : Nat) (s : Tab) (x y : Int) (w : World) (h : DirAt w b s) :
    Calls Try.prog 51 #[.pointer (some ⟨b, 0, none⟩), .int .i64 x, .int .i64 y] w fun e w' => e = .returned (.bool (s.there x y)) ∧ w = w' :=
  there_core b s.c s.n x y w h.c0 h.c1

theorem has_yes (b : Nat) (x y v : Int) (w : World) (hx : 0 ≤ x) (hx4 : x < 4) (hy : 0 ≤ y) (hy' : y < 32) (hv : w.cell? ⟨b, 2 + y.toNat, none⟩ = some (.int .u8 v)) (hv0 : 0 ≤ v) (hv1 : v ≤ 15)
    (ht : Calls Try.prog 51 #[.pointer (some ⟨b, 0, none⟩), .int .i64 x, .int .i64 y] w fun e w' => e = .returned (.bool true) ∧ w = w') :
    Calls Try.prog 35 #[.pointer (some ⟨b, 0, none⟩), .int .i64 x, .int .i64 y] w fun e w' => e = .returned (.bool (bits BinOp.and IntKind.u8 (v / 2 ^ x.toNat) 1 != 0)) ∧ w = w' := by
  have H := Lib.hid ht; clear ht
  go_enter Try.func35, Try.ntmps35
  go_wp2_with (go_at_call 51; refine H.out.mono ?_; rintro e w' ⟨rfl, rfl⟩)
  go_ret
  exact ⟨rfl, rfl⟩
theorem has_no (p : Option Addr) (x y : Int) (w : World)
    (ht : Calls Try.prog 51 #[.pointer p, .int .i64 x, .int .i64 y] w fun e w' => e = .returned (.bool false) ∧ w = w') :
    Calls Try.prog 35 #[.pointer p, .int .i64 x, .int .i64 y] w fun e w' => e = .returned (.bool false) ∧ w = w' := by
  have H := Lib.hid ht; clear ht
  go_enter Try.func35, Try.ntmps35
  go_wp2_with (go_at_call 51; refine H.out.mono ?_; rintro e w' ⟨rfl, rfl⟩)
  go_ret
  exact ⟨rfl, rfl⟩
theorem has_nil (x y : Int) (w : World) :
    Calls Try.prog 35 #[.pointer none, .int .i64 x, .int .i64 y] w fun e w' => e = .returned (.bool false) ∧ w = w' := has_no none x y w (there_nil x y w)
theorem has_any (b : Nat) (s : Tab) (hs : s.Ok) (x y : Int) (w : World) (h : DirAt w b s) :
    Calls Try.prog 35 #[.pointer (some ⟨b, 0, none⟩), .int .i64 x, .int .i64 y] w fun e w' => e = .returned (.bool (s.has x y)) ∧ w = w' := by
  have ht := there_any b s x y w h
  cases hb : s.there x y
  · rw [hb] at ht
    have : s.has x y = false := by simp [Tab.has, hb]
    rw [this]
    exact has_no _ x y w ht
  · rw [hb] at ht
    obtain ⟨h1, h2, h3, h4⟩ := (s.there_iff x y).1 hb
    have hc := hs.c4
    have hn := hs.n32
    have hlt := byteP_lt (fun a => s.h a y.toNat)
    have hh := byte_has (fun a => s.h a y.toNat) x.toNat (by omega)
    have : s.has x y = s.h x.toNat y.toNat := by simp [Tab.has, hb]
    rw [this, ← hh]
    exact has_yes b x y _ w h1 (by omega) h3 (by omega) (h.c2 y.toNat (by omega)) (by omega) (by omega) ht

theorem add_yes (b : Nat) (x y v : Int) (w : World) (hx : 0 ≤ x) (hx4 : x < 4) (hy : 0 ≤ y) (hy' : y < 32) (hv : w.cell? ⟨b, 2 + y.toNat, none⟩ = some (.int .u8 v)) (hv0 : 0 ≤ v) (hv1 : v ≤ 15)
    (hf : w.frozen? ⟨b, 2 + y.toNat, none⟩ = false)
    (ht : Calls Try.prog 51 #[.pointer (some ⟨b, 0, none⟩), .int .i64 x, .int .i64 y] w fun e w' => e = .returned (.bool true) ∧ w = w') :
    Calls Try.prog 39 #[.pointer (some ⟨b, 0, none⟩), .int .i64 x, .int .i64 y] w fun e w' => e = .returned (.int .i64 0) ∧
      (w.setCell ⟨b, 2 + y.toNat, none⟩ (.int .u8 (bits BinOp.or IntKind.u8 v (2 ^ x.toNat % 256)))).drew = w' := by
  have H := Lib.hid ht; clear ht
  go_enter Try.func39, Try.ntmps39
  go_wp2_with (go_at_call 51; refine H.out.mono ?_; rintro e w' ⟨rfl, rfl⟩)
  go_region
  go_wp2
  go_ret
  exact ⟨rfl, rfl⟩
theorem add_no (b : Nat) (x y : Int) (w : World)
    (ht : Calls Try.prog 51 #[.pointer (some ⟨b, 0, none⟩), .int .i64 x, .int .i64 y] w fun e w' => e = .returned (.bool false) ∧ w = w') :
    Calls Try.prog 39 #[.pointer (some ⟨b, 0, none⟩), .int .i64 x, .int .i64 y] w fun e w' => e = .returned (.int .i64 3) ∧ w = w' := by
  have H := Lib.hid ht; clear ht
  go_enter Try.func39, Try.ntmps39
  go_wp2_with (go_at_call 51; refine H.out.mono ?_; rintro e w' ⟨rfl, rfl⟩)
  go_ret
  exact ⟨rfl, rfl⟩
theorem add_nil (x y : Int) (w : World) :
    Calls Try.prog 39 #[.pointer none, .int .i64 x, .int .i64 y] w fun e w' => e = .returned (.int .i64 7) ∧ w = w' := by
  go_enter Try.func39, Try.ntmps39
  go_wp2_with fail
  go_ret
  exact ⟨rfl, rfl⟩
def thereE (b : Bool) : Int := if b then 0 else 3
theorem add_any (b : Nat) (s : Tab) (hs : s.Ok) (x y : Int) (w : World) (h : DirAt w b s) :
    Calls Try.prog 39 #[.pointer (some ⟨b, 0, none⟩), .int .i64 x, .int .i64 y] w fun e w' => e = .returned (.int .i64 (thereE (s.there x y))) ∧ DirAt w' b (s.set x y true) ∧ Only (Just b) w w' := by
  have ht := there_any b s x y w h
  cases hb : s.there x y
  · rw [hb] at ht
    refine (add_no b x y w ht).mono ?_
    rintro e w' ⟨rfl, rfl⟩
    refine ⟨rfl, ?_, Only.refl _ _⟩
    rw [show s.set x y true = s from by simp [Tab.set, hb]]
    exact h
  · rw [hb] at ht
    obtain ⟨h1, h2, h3, h4⟩ := (s.there_iff x y).1 hb
    have hc := hs.c4
    have hn := hs.n32
    have hlt := byteP_lt (fun a => s.h a y.toNat)
    have hh := byte_or (fun a => s.h a y.toNat) x.toNat (by omega)
    refine (add_yes b x y _ w h1 (by omega) h3 (by omega) (h.c2 y.toNat (by omega)) (by omega) (by omega) (Box.free h _) ht).mono ?_
    rintro e w' ⟨rfl, rfl⟩
    refine ⟨rfl, ?_, (Only.setCell (S := Just b) (p := ⟨b, _, none⟩) (Only.refl _ _) (.inl rfl) _).drew⟩
    rw [hh]
    have h2 := Box.store h (2 + y.toNat) (.int .u8 (byteP fun a => (s.set x y true).h a y.toNat))
    rw [dirCells_set s x y true hb hs] at h2
    have e3 : (byteP fun a => (s.set x y true).h a y.toNat) = (byteP fun a => if a = x.toNat then true else s.h a y.toNat) := by
      simp [Tab.set, hb]
    rw [e3] at h2
    exact h2

theorem remove_yes (b : Nat) (x y v : Int) (w : World) (hx : 0 ≤ x) (hx4 : x < 4) (hy : 0 ≤ y) (hy' : y < 32) (hv : w.cell? ⟨b, 2 + y.toNat, none⟩ = some (.int .u8 v)) (hv0 : 0 ≤ v) (hv1 : v ≤ 15)
    (hf : w.frozen? ⟨b, 2 + y.toNat, none⟩ = false)
    (ht : Calls Try.prog 35 #[.pointer (some ⟨b, 0, none⟩), .int .i64 x, .int .i64 y] w fun e w' => e = .returned (.bool true) ∧ w = w') :
    Calls Try.prog 40 #[.pointer (some ⟨b, 0, none⟩), .int .i64 x, .int .i64 y] w fun e w' => e = .returned (.bool true) ∧
      (w.setCell ⟨b, 2 + y.toNat, none⟩ (.int .u8 (bits BinOp.andNot IntKind.u8 v (2 ^ x.toNat % 256)))).drew = w' := by
  have H := Lib.hid ht; clear ht
  go_enter Try.func40, Try.ntmps40
  go_wp2_with (go_at_call 35; refine H.out.mono ?_; rintro e w' ⟨rfl, rfl⟩)
  go_region
  go_wp2
  go_ret
  exact ⟨rfl, rfl⟩
theorem remove_no (p : Option Addr) (x y : Int) (w : World)
    (ht : Calls Try.prog 35 #[.pointer p, .int .i64 x, .int .i64 y] w fun e w' => e = .returned (.bool false) ∧ w = w') :
    Calls Try.prog 40 #[.pointer p, .int .i64 x, .int .i64 y] w fun e w' => e = .returned (.bool false) ∧ w = w' := by
  have H := Lib.hid ht; clear ht
  go_enter Try.func40, Try.ntmps40
  go_wp2_with (go_at_call 35; refine H.out.mono ?_; rintro e w' ⟨rfl, rfl⟩)
  go_ret
  exact ⟨rfl, rfl⟩
theorem remove_any (b : Nat) (s : Tab) (hs : s.Ok) (x y : Int) (w : World) (h : DirAt w b s) :
    Calls Try.prog 40 #[.pointer (some ⟨b, 0, none⟩), .int .i64 x, .int .i64 y] w fun e w' => e = .returned (.bool (s.has x y)) ∧ DirAt w' b (s.set x y false) ∧ Only (Just b) w w' := by
  have ht := has_any b s hs x y w h
  cases hb : s.has x y
  · rw [hb] at ht
    refine (remove_no _ x y w ht).mono ?_
    rintro e w' ⟨rfl, rfl⟩
    refine ⟨rfl, ?_, Only.refl _ _⟩
    rw [show s.set x y false = s from by
      unfold Tab.set
      split
      · rename_i hc
        rw [Tab.has, hc, Bool.true_and] at hb
        cases s
        congr
        funext a b
        split
        · rename_i e; rw [e.1, e.2]; exact hb.symm
        · rfl
      · rfl]
    exact h
  · rw [hb] at ht
    have hb' : s.there x y = true := by rw [Tab.has, Bool.and_eq_true] at hb; exact hb.1
    obtain ⟨h1, h2, h3, h4⟩ := (s.there_iff x y).1 hb'
    have hc := hs.c4
    have hn := hs.n32
    have hlt := byteP_lt (fun a => s.h a y.toNat)
    have hh := byte_andNot (fun a => s.h a y.toNat) x.toNat (by omega)
    refine (remove_yes b x y _ w h1 (by omega) h3 (by omega) (h.c2 y.toNat (by omega)) (by omega) (by omega) (Box.free h _) ht).mono ?_
    rintro e w' ⟨rfl, rfl⟩
    refine ⟨rfl, ?_, (Only.setCell (S := Just b) (p := ⟨b, _, none⟩) (Only.refl _ _) (.inl rfl) _).drew⟩
    rw [hh]
    have h2 := Box.store h (2 + y.toNat) (.int .u8 (byteP fun a => (s.set x y false).h a y.toNat))
    rw [dirCells_set s x y false hb' hs] at h2
    have e3 : (byteP fun a => (s.set x y false).h a y.toNat) = (byteP fun a => if a = x.toNat then false else s.h a y.toNat) := by
      simp [Tab.set, hb']
    rw [e3] at h2
    exact h2

theorem new_close (c n X Y : Int) (w : World) (hX : X = clamp c 4) (hY : Y = clamp n 32) :
    ∃ b, Ending.returned (.pointer (some ⟨w.heap.size, 0, none⟩)) = .returned (.pointer (some ⟨b, 0, none⟩)) ∧ b = w.heap.size ∧ DirAt (w.alloc (.cells #[.int .i64 X, .int .i64 Y, .int .u8 0, .int .u8 0, .int .u8 0, .int .u8 0, .int .u8 0, .int .u8 0, .int .u8 0, .int .u8 0, .int .u8 0, .int .u8 0, .int .u8 0, .int .u8 0, .int .u8 0, .int .u8 0, .int .u8 0, .int .u8 0, .int .u8 0, .int .u8 0, .int .u8 0, .int .u8 0, .int .u8 0, .int .u8 0, .int .u8 0, .int .u8 0, .int .u8 0, .int .u8 0, .int .u8 0, .int .u8 0, .int .u8 0, .int .u8 0, .int .u8 0, .int .u8 0] 82)) b (Tab.new c n) ∧
      Only Non w (w.alloc (.cells #[.int .i64 X, .int .i64 Y, .int .u8 0, .int .u8 0, .int .u8 0, .int .u8 0, .int .u8 0, .int .u8 0, .int .u8 0, .int .u8 0, .int .u8 0, .int .u8 0, .int .u8 0, .int .u8 0, .int .u8 0, .int .u8 0, .int .u8 0, .int .u8 0, .int .u8 0, .int .u8 0, .int .u8 0, .int .u8 0, .int .u8 0, .int .u8 0, .int .u8 0, .int .u8 0, .int .u8 0, .int .u8 0, .int .u8 0, .int .u8 0, .int .u8 0, .int .u8 0, .int .u8 0, .int .u8 0] 82)) := by
  subst hX hY
  exact ⟨_, rfl, rfl, Box.fresh _ _ _, (Only.refl _ _).alloc _⟩
theorem new_any (c n : Int) (w : World) :
    Calls Try.prog 26 #[.int .i64 c, .int .i64 n] w fun e w' => ∃ b, e = .returned (.pointer (some ⟨b, 0, none⟩)) ∧ b = w.heap.size ∧ DirAt w' b (Tab.new c n) ∧ Only Non w w' := by
  go_enter Try.func26, Try.ntmps26
  go_wp2
  all_goals go_ret
  all_goals exact new_close c n _ _ w (by simp only [clamp]; omega) (by simp only [clamp]; omega)

/- the document's own table -/
def RefAt (w : World) (b g : Nat) (s : Tab) : Prop :=
  Box w b 73 #[.int .i64 s.c, .int .i64 s.n, .slice (some ⟨g, 0, none⟩) (s.c * s.n) (s.c * s.n)] ∧ Box w g 4 (refCells s)
theorem RefAt.c0 {w : World} {b g : Nat} {s : Tab} (h : RefAt w b g s) : w.cell? ⟨b, 0, none⟩ = some (.int .i64 s.c) := h.1.cellAt rfl
theorem RefAt.c1 {w : World} {b g : Nat} {s : Tab} (h : RefAt w b g s) : w.cell? ⟨b, 1, none⟩ = some (.int .i64 s.n) := h.1.cellAt rfl
theorem RefAt.c2 {w : World} {b g : Nat} {s : Tab} (h : RefAt w b g s) : w.cell? ⟨b, 2, none⟩ = some (.slice (some ⟨g, 0, none⟩) (s.c * s.n) (s.c * s.n)) := h.1.cellAt rfl

def thereR (c n x y : Int) : Bool := decide (0 ≤ x) && decide (x < c) && decide (0 ≤ y) && decide (y < n)
theorem rthere_core (b : Nat) (c n x y : Int) (w : World) (h0 : w.cell? ⟨b, 0, none⟩ = some (.int .i64 c)) (h1 : w.cell? ⟨b, 1, none⟩ = some (.int .i64 n)) :
    Calls Try.prog 49 #[.pointer (some ⟨b, 0, none⟩), .int .i64 x, .int .i64 y] w fun e w' => e = .returned (.bool (thereR c n x y)) ∧ w = w' := by
  go_enter Try.func49, Try.ntmps49
  go_wp2
  all_goals go_ret
  all_goals (refine ⟨?_, rfl⟩; simp [thereR, *] <;> omega)
theorem rthere_any (b g : Nat) (s : Tab) (x y : Int) (w : World) (h : RefAt w b g s) :
    Calls Try.prog 49 #[.pointer (some ⟨b, 0, none⟩), .int .i64 x, .int .i64 y] w fun e w' => e = .returned (.bool (s.there x y)) ∧ w = w' :=
  rthere_core b s.c s.n x y w h.c0 h.c1

theorem held_any (n m : Int) (w : World) (hm : 1 ≤ m) :
    Calls Try.prog 48 #[.int .i64 n, .int .i64 m] w fun e w' => e = .returned (.int .i64 (clamp n m)) ∧ w = w' := by
  go_enter Try.func48, Try.ntmps48
  go_wp2
  all_goals go_ret
  all_goals exact ⟨congrArg (fun z => Ending.returned (.int .i64 z)) (by simp only [clamp]; omega), rfl⟩

theorem rhas_no (b : Nat) (x y : Int) (w : World)
    (ht : ∀ k, Calls Try.prog 49 #[.pointer (some ⟨b, 0, none⟩), .int .i64 x, .int .i64 y] (w.drewN k) fun e w' => e = .returned (.bool false) ∧ w.drewN k = w') :
    Calls Try.prog 36 #[.pointer (some ⟨b, 0, none⟩), .int .i64 x, .int .i64 y] w fun e w' => e = .returned (.bool false) ∧ ∃ k, w.drewN k = w' := by
  have H := Lib.hid ht; clear ht
  go_enter Try.func36, Try.ntmps36
  go_wp2_with fail
  go_quiet ((go_at_call 49; exact quiet_l (H.out _)))
  go_wp2
  go_ret
  exact ⟨rfl, _, rfl⟩
theorem rhas_yes (b g L : Nat) (n x y : Int) (v : Bool) (w : World) (hx : 0 ≤ x) (hy : 0 ≤ y) (hn : n ≤ 32) (hxn : 0 ≤ x * n) (hb : x * n + y < L) (hcc : L ≤ 128)
    (h1 : w.cell? ⟨b, 1, none⟩ = some (.int .i64 n)) (h2 : w.cell? ⟨b, 2, none⟩ = some (.slice (some ⟨g, 0, none⟩) L L))
    (h3 : w.cell? ⟨g, (x * n + y).toNat, none⟩ = some (.bool v))
    (ht : ∀ k, Calls Try.prog 49 #[.pointer (some ⟨b, 0, none⟩), .int .i64 x, .int .i64 y] (w.drewN k) fun e w' => e = .returned (.bool true) ∧ w.drewN k = w') :
    Calls Try.prog 36 #[.pointer (some ⟨b, 0, none⟩), .int .i64 x, .int .i64 y] w fun e w' => e = .returned (.bool v) ∧ ∃ k, w.drewN k = w' := by
  have H := Lib.hid ht; clear ht
  have e1 : 0 ≤ x * n + y := by omega
  go_enter Try.func36, Try.ntmps36
  go_wp2_with fail
  go_quiet ((go_at_call 49; exact quiet_l (H.out _)))
  go_wp2
  go_ret
  exact ⟨rfl, _, rfl⟩
theorem rset_core (b g L : Nat) (n x y : Int) (v old : Bool) (w : World) (hx : 0 ≤ x) (hy : 0 ≤ y) (hn : n ≤ 32) (hxn : 0 ≤ x * n) (hb : x * n + y < L) (hcc : L ≤ 128)
    (h1 : w.cell? ⟨b, 1, none⟩ = some (.int .i64 n)) (h2 : w.cell? ⟨b, 2, none⟩ = some (.slice (some ⟨g, 0, none⟩) L L))
    (h3 : w.cell? ⟨g, (x * n + y).toNat, none⟩ = some (.bool old)) (hf : w.frozen? ⟨g, (x * n + y).toNat, none⟩ = false) :
    Calls Try.prog 50 #[.pointer (some ⟨b, 0, none⟩), .int .i64 x, .int .i64 y, .bool v] w fun e w' => e = .returned (.tuple #[]) ∧ 
      (w.setCell ⟨g, (x * n + y).toNat, none⟩ (.bool v)).drew = w' := by
  have e1 : 0 ≤ x * n + y := by omega
  go_enter Try.func50, Try.ntmps50
  go_region
  go_wp2
  go_end0
  exact ⟨rfl, rfl⟩
theorem mul_bd (cc nn : Nat) (h1 : cc ≤ 4) (h2 : nn ≤ 32) : cc * nn ≤ 128 := Nat.le_trans (Nat.mul_le_mul h1 h2) (by decide)
theorem boolInfo : (Try.prog.info? 4).map (fun i => (i.zero, i.size, i.bytes)) = some (some (.bool false), 1, 1) := by kernel_rfl
theorem rnew_core (c n : Int) (cc nn : Nat) (w : World) (h1 : cc ≤ 4) (h2 : nn ≤ 32)
    (hc1 : ∀ w, Calls Try.prog 48 #[.int .i64 c, .int .i64 4] w fun e w' => e = .returned (.int .i64 cc) ∧ w = w')
    (hc2 : ∀ w, Calls Try.prog 48 #[.int .i64 n, .int .i64 32] w fun e w' => e = .returned (.int .i64 nn) ∧ w = w') :
    Calls Try.prog 27 #[.int .i64 c, .int .i64 n] w fun e w' => e = .returned (.pointer (some ⟨w.heap.size, 0, none⟩)) ∧
      ((w.alloc (.cells #[.int .i64 cc, .int .i64 nn, .slice (some ⟨w.heap.size + 1, 0, none⟩) (cc * nn) (cc * nn)] 73)).alloc (.cells (madeCells #[.bool false] (cc * nn)) 4)).drew = w' := by
  have hc1' := Lib.hid hc1; clear hc1
  have hc2' := Lib.hid hc2; clear hc2
  have hb := mul_bd cc nn h1 h2
  have hmk := fun w => run_make_row' (P := Try.prog) 71 4 (.bool false) 1 Try.underlying71 boolInfo rfl .i64 .i64 (cc * nn) (by omega) (by omega) w
  rw [Int.natCast_mul] at hmk
  have hb0 : 0 ≤ (cc : Int) * (nn : Int) := by rw [← Int.natCast_mul]; omega
  have hb1 : (cc : Int) * (nn : Int) ≤ 128 := by rw [← Int.natCast_mul]; omega
  go_enter Try.func27, Try.ntmps27
  go_wp2_with fail
  refine (hc1'.out _).mono ?_; rintro e w' ⟨rfl, rfl⟩
  go_wp2_with fail
  refine (hc2'.out _).mono ?_; rintro e w' ⟨rfl, rfl⟩
  go_wp2_with fail
  go_region
  go_wp2
  go_ret
  exact ⟨rfl, rfl⟩
theorem refCells_new (c n : Int) : madeCells #[.bool false] ((Tab.new c n).c * (Tab.new c n).n) = refCells (Tab.new c n) := by
  apply Array.ext_getElem?
  intro i
  simp only [madeCells, refCells, Tab.new]
  by_cases hi : i < clamp c 4 * clamp n 32
  · simp [hi, Nat.mod_one]
  · rw [Array.getElem?_eq_none (by simp; omega), Array.getElem?_eq_none (by simp; omega)]
theorem rnew_any (c n : Int) (w : World) :
    Calls Try.prog 27 #[.int .i64 c, .int .i64 n] w fun e w' => ∃ b, e = .returned (.pointer (some ⟨b, 0, none⟩)) ∧ b = w.heap.size ∧ RefAt w' b (b + 1) (Tab.new c n) ∧ Only Non w w' := by
  have h1 := clamp_bd c 4 (by omega)
  have h2 := clamp_bd n 32 (by omega)
  refine (rnew_core c n (clamp c 4) (clamp n 32) w (by omega) (by omega) (fun w => held_any c 4 w (by omega)) (fun w => held_any n 32 w (by omega))).mono ?_
  rintro e w' ⟨rfl, rfl⟩
  refine ⟨_, rfl, rfl, ⟨?_, ?_⟩, (((Only.refl _ _).alloc _).alloc _).drew⟩
  · exact (((Box.fresh w _ _).alloc _).drew)
  · rw [← refCells_new]
    have := Box.fresh (w.alloc (.cells #[.int .i64 (clamp c 4), .int .i64 (clamp n 32), .slice (some ⟨w.heap.size + 1, 0, none⟩) (clamp c 4 * clamp n 32) (clamp c 4 * clamp n 32)] 73)) 4 (madeCells #[.bool false] (clamp c 4 * clamp n 32))
    simp only [World.size_alloc] at this
    exact this.drew

theorem idx_div (x n y : Nat) (hy : y < n) : (x * n + y) / n = x ∧ (x * n + y) % n = y := by
  constructor
  · rw [Nat.mul_comm, Nat.mul_add_div (by omega), Nat.div_eq_of_lt hy, Nat.add_zero]
  · rw [Nat.mul_comm, Nat.mul_add_mod, Nat.mod_eq_of_lt hy]
theorem idx_lt (x c n y : Nat) (hx : x < c) (hy : y < n) : x * n + y < c * n := by
  have : (x + 1) * n ≤ c * n := Nat.mul_le_mul_right n hx
  rw [Nat.succ_mul] at this; omega
theorem refCells_at (s : Tab) (x y : Nat) (hx : x < s.c) (hy : y < s.n) : (refCells s)[x * s.n + y]? = some (.bool (s.h x y)) := by
  have h1 := idx_lt x s.c s.n y hx hy
  have h2 := idx_div x s.n y hy
  simp [refCells, h1, h2.1, h2.2]
theorem refCells_set (s : Tab) (x y : Int) (v : Bool) (ht : s.there x y = true) : (refCells s).setIfInBounds (x.toNat * s.n + y.toNat) (.bool v) = refCells (s.set x y v) := by
  obtain ⟨h1, h2, h3, h4⟩ := (s.there_iff x y).1 ht
  have e1 : (s.set x y v).c = s.c := (s.set_c x y v).1
  have e2 : (s.set x y v).n = s.n := (s.set_c x y v).2
  apply Array.ext_getElem?
  intro i
  rw [Array.getElem?_setIfInBounds]
  have hsz : (refCells s).size = s.c * s.n := by simp [refCells]
  have hsz' : (refCells (s.set x y v)).size = s.c * s.n := by simp [refCells, e1, e2]
  have hlt := idx_lt x.toNat s.c s.n y.toNat (by omega) (by omega)
  by_cases hi : i < s.c * s.n
  · have hh : (s.set x y v).h (i / s.n) (i % s.n) = if i / s.n = x.toNat ∧ i % s.n = y.toNat then v else s.h (i / s.n) (i % s.n) := by
      unfold Tab.set; rw [if_pos ht]
    have hr : (refCells (s.set x y v))[i]? = some (.bool ((s.set x y v).h (i / s.n) (i % s.n))) := by simp [refCells, e1, e2, hi]
    rw [hr, hh]
    by_cases he : x.toNat * s.n + y.toNat = i
    · subst he
      have h5 := idx_div x.toNat s.n y.toNat (by omega)
      rw [if_pos rfl, if_pos (by omega), if_pos h5]
    · rw [if_neg he, if_neg]
      · simp [refCells, hi]
      · rintro ⟨ha, hb⟩
        apply he
        have := Nat.div_add_mod i s.n
        rw [ha, hb, Nat.mul_comm] at this
        exact this
  · rw [if_neg (by omega), Array.getElem?_eq_none (by omega), Array.getElem?_eq_none (by omega)]
theorem toNat_idx (x y : Int) (n : Nat) (hx : 0 ≤ x) (hy : 0 ≤ y) : (x * n + y).toNat = x.toNat * n + y.toNat := by
  obtain ⟨a, rfl⟩ := Int.eq_ofNat_of_zero_le hx
  obtain ⟨b, rfl⟩ := Int.eq_ofNat_of_zero_le hy
  simp only [Int.toNat_natCast]
  rw [← Int.natCast_mul, ← Int.natCast_add, Int.toNat_natCast]

theorem rhas_any (b g : Nat) (s : Tab) (hs : s.Ok) (x y : Int) (w : World) (h : RefAt w b g s) :
    Calls Try.prog 36 #[.pointer (some ⟨b, 0, none⟩), .int .i64 x, .int .i64 y] w fun e w' => e = .returned (.bool (s.has x y)) ∧ ∃ k, w.drewN k = w' := by
  have ht : ∀ k, Calls Try.prog 49 #[.pointer (some ⟨b, 0, none⟩), .int .i64 x, .int .i64 y] (w.drewN k) fun e w' => e = .returned (.bool (s.there x y)) ∧ w.drewN k = w' :=
    fun k => rthere_any b g s x y (w.drewN k) ⟨h.1.drewN k, h.2.drewN k⟩
  cases hb : s.there x y
  · rw [hb] at ht
    have : s.has x y = false := by simp [Tab.has, hb]
    rw [this]
    exact rhas_no b x y w ht
  · rw [hb] at ht
    obtain ⟨h1, h2, h3, h4⟩ := (s.there_iff x y).1 hb
    have : s.has x y = s.h x.toNat y.toNat := by simp [Tab.has, hb]
    rw [this]
    have hlt := idx_lt x.toNat s.c s.n y.toNat (by omega) (by omega)
    have hti := toNat_idx x y s.n h1 h3
    have hmb := mul_bd s.c s.n hs.c4 hs.n32
    have hxn : 0 ≤ x * (s.n : Int) := Int.mul_nonneg h1 (by omega)
    exact rhas_yes b g (s.c * s.n) s.n x y _ w h1 h3 (by have := hs.n32; omega) hxn (by omega) (by omega) h.c1 h.c2 (by rw [hti]; exact h.2.cellAt (refCells_at s _ _ (by omega) (by omega))) ht

theorem rset_any (b g : Nat) (s : Tab) (hs : s.Ok) (x y : Int) (v : Bool) (w : World) (h : RefAt w b g s) (hb : s.there x y = true) :
    Calls Try.prog 50 #[.pointer (some ⟨b, 0, none⟩), .int .i64 x, .int .i64 y, .bool v] w fun e w' => e = .returned (.tuple #[]) ∧ RefAt w' b g (s.set x y v) ∧ Only (Just g) w w' := by
  obtain ⟨h1, h2, h3, h4⟩ := (s.there_iff x y).1 hb
  have hlt := idx_lt x.toNat s.c s.n y.toNat (by omega) (by omega)
  have hti := toNat_idx x y s.n h1 h3
  have hmb := mul_bd s.c s.n hs.c4 hs.n32
  have hxn : 0 ≤ x * (s.n : Int) := Int.mul_nonneg h1 (by omega)
  refine (rset_core b g (s.c * s.n) s.n x y v _ w h1 h3 (by have := hs.n32; omega) hxn (by omega) (by omega) h.c1 h.c2 (by rw [hti]; exact h.2.cellAt (refCells_at s _ _ (by omega) (by omega))) (h.2.free _)).mono ?_
  rintro e w' ⟨rfl, rfl⟩
  refine ⟨rfl, ⟨?_, ?_⟩, (Only.setCell (S := Just g) (p := ⟨g, _, none⟩) (Only.refl _ _) (.inl rfl) _).drew⟩
  · have hne : b ≠ g := h.1.off h.2 (by decide)
    have := h.1.far (p := ⟨g, (x * (s.n : Int) + y).toNat, none⟩) hne (.bool v)
    rw [(s.set_c x y v).1, (s.set_c x y v).2]
    exact this.drew
  · have := h.2.store (x * (s.n : Int) + y).toNat (.bool v)
    rw [hti, refCells_set s x y v hb] at this
    rw [hti]
    exact this.drew
end
end Go.Proofs.Ytlagccfllnhgbaa
