/- What dir's loops do. -/
import Derived.Test.YtlagccfllnhgbaaDirA
import Derived.Lib.Tables
namespace Go.Proofs.Ytlagccfllnhgbaa
open Go.RowKit
set_option linter.unusedVariables false

def ofTo (s : Tab) (x : Int) (k : Nat) : List Int := ((List.range k).filter fun (y : Nat) => s.has x y).map Int.ofNat
theorem ofTo_succ (s : Tab) (x : Int) (k : Nat) : ofTo s x (k + 1) = if s.has x k then ofTo s x k ++ [(k : Int)] else ofTo s x k := by
  simp only [ofTo, List.range_succ, List.filter_append, List.map_append, List.filter_cons, List.filter_nil]
  split <;> simp
theorem ofTo_len (s : Tab) (x : Int) (k : Nat) : (ofTo s x k).length ≤ k := by
  simp only [ofTo, List.length_map]
  exact Nat.le_trans (List.length_filter_le _ _) (by simp)

theorem intInfo : (Try.prog.info? 3).map (fun i => (i.zero, i.size, i.bytes)) = some (some (.int .i64 0), 1, 8) := by kernel_rfl
theorem OwnInts.push {w w' : World} {base : Nat} {v' : Value} {l : List Int} {k : Int} (h : w'.ownsRow base 3 1 v' (l.length + 1) (l.map (Value.int .i64) ++ [.int .i64 k])) : OwnInts 3 w' base v' (l ++ [k]) := by
  unfold OwnInts; simpa using h

def OfRel (b : Nat) (s : Tab) (x : Int) (w : World) (out i : Value) (wr : World) : Prop :=
  ∃ k : Nat, k ≤ s.n ∧ i = .int .i64 k ∧ OwnInts 3 wr w.heap.size out (ofTo s x k) ∧ Only Non w wr
section
set_option maxHeartbeats 1000000
theorem of_any (b : Nat) (s : Tab) (hs : s.Ok) (x : Int) (w : World) (h : DirAt w b s) :
    Calls Try.prog 29 #[.pointer (some ⟨b, 0, none⟩), .int .i64 x] w fun e w' => ∃ v, e = .returned v ∧ OwnInts 3 w' w.heap.size v (s.of x) ∧ Only Non w w' := by
  obtain ⟨i0, hi, hz0, hz1, hz2⟩ := info_parts intInfo
  have hc1 := h.c1
  have hn := hs.n32
  go_enter Try.func29, Try.ntmps29
  go_wp2_with fail
  go_loopw [5, 13] (fun out i wr => OfRel b s x w out i wr) (fun _ i _ => s.n - (intOf i).toNat)
  case atStart => exact ⟨0, Nat.zero_le _, rfl, World.ownsRow_nil _ _ _ _, Only.refl _ _⟩
  case round =>
    obtain ⟨k, hk, rfl, hown, ho⟩ := hrel
    by_cases hlt : k < s.n
    · have hd : DirAt wr b s := ho.box h id
      have hcall := has_any b s hs x k wr hd
      have hsz := ho.size
      have hlen := ofTo_len s x k
      have hl1 : (ofTo s x k).length ≤ 1000000 := by omega
      have hsucc := ofTo_succ s x k
      cases hb : s.has x k
      · rw [hb] at hcall hsucc
        have H := Lib.hid hcall; clear hcall
        have Hs := Lib.hid hsucc; clear hsucc
        clear hb
        go_wp2_with (go_at_call 35; refine H.out.mono ?_; rintro e w' ⟨rfl, rfl⟩)
        go_roundw
        case rel => exact ⟨k + 1, by omega, by go_num, by rw [Hs.out]; exact hown, ho⟩
        case measure => simp [intOf]; omega
      · rw [hb] at hcall hsucc
        have H := Lib.hid hcall; clear hcall
        have Hs := Lib.hid hsucc; clear hsucc
        clear hb
        go_wp2_with (first
          | (go_at_call 35; refine H.out.mono ?_; rintro e w' ⟨rfl, rfl⟩)
          | (at_builtin; refine wpList_pushInt _ rfl (.tmp 20) (.tmp 22) 63 3 rfl intInfo Try.underlying63 w.heap.size u5 _ k rfl (hown.alloc _) ⟨wr.heap.size, 0, none⟩ rfl (World.cell?_alloc_at _ _ _ _ rfl) hl1 (by simp; omega) ?_; intro v' w1 hown' hgrow))
        refine ⟨⟨k + 1, by omega, by go_num, by rw [Hs.out]; exact hown', (ho.alloc _).trans' hgrow fun g hg => .inr (hown.lt g hg).1⟩, ?_⟩
        simp [intOf]; omega
    · obtain rfl : k = s.n := by omega
      go_wp2
      go_ret
      exact ⟨_, rfl, hown, ho⟩

def ROfRel (b : Nat) (s : Tab) (x : Int) (w : World) (out i : Value) (wr : World) : Prop :=
  ∃ k : Nat, k ≤ s.n ∧ i = .int .i64 k ∧ OwnInts 3 wr w.heap.size out (ofTo s x k) ∧ Only Non w wr
theorem RefAt.only {w w' : World} {b g : Nat} {s : Tab} {S : Nat → Prop} (h : RefAt w b g s) (ho : Only S w w') (h1 : ¬ S b) (h2 : ¬ S g) : RefAt w' b g s := ⟨ho.box h.1 h1, ho.box h.2 h2⟩
theorem rof_any (b g : Nat) (s : Tab) (hs : s.Ok) (x : Int) (w : World) (h : RefAt w b g s) :
    Calls Try.prog 32 #[.pointer (some ⟨b, 0, none⟩), .int .i64 x] w fun e w' => ∃ v, e = .returned v ∧ OwnInts 3 w' w.heap.size v (s.of x) ∧ Only Non w w' := by
  have hn := hs.n32
  go_enter Try.func32, Try.ntmps32
  go_wp2_with fail
  go_loopw [5, 6] (fun out i wr => ROfRel b s x w out i wr) (fun _ i _ => s.n - (intOf i).toNat)
  case atStart => exact ⟨0, Nat.zero_le _, rfl, World.ownsRow_nil _ _ _ _, Only.refl _ _⟩
  case round =>
    obtain ⟨k, hk, rfl, hown, ho⟩ := hrel
    have hd : RefAt wr b g s := h.only ho id id
    have hc1 := hd.c1
    by_cases hlt : k < s.n
    · have hcall := rhas_any b g s hs x k wr hd
      have hsz := ho.size
      have hlen := ofTo_len s x k
      have hl1 : (ofTo s x k).length ≤ 1000000 := by omega
      have hsucc := ofTo_succ s x k
      cases hb : s.has x k
      · rw [hb] at hcall hsucc
        have H := Lib.hid hcall; clear hcall
        have Hs := Lib.hid hsucc; clear hsucc
        clear hb
        go_wp2_with (go_at_call 36; refine H.out.mono ?_; rintro e w' ⟨rfl, kk, rfl⟩)
        go_roundw
        case rel => exact ⟨k + 1, by omega, by go_num, by rw [Hs.out]; exact hown, ho.drewN _⟩
        case measure => simp [intOf]; omega
      · rw [hb] at hcall hsucc
        have H := Lib.hid hcall; clear hcall
        have Hs := Lib.hid hsucc; clear hsucc
        clear hb
        go_wp2_with (first
          | (go_at_call 36; refine H.out.mono ?_; rintro e w' ⟨rfl, kk, rfl⟩)
          | (at_builtin; refine wpList_pushInt _ rfl (.tmp 19) (.tmp 21) 63 3 rfl intInfo Try.underlying63 w.heap.size u5 _ k rfl (show OwnInts _ _ _ _ (ofTo s x k) from hown.alloc _) ⟨wr.heap.size, 0, none⟩ rfl (World.cell?_alloc_at _ _ _ _ rfl) hl1 (by simp; omega) ?_; intro v' w1 hown' hgrow))
        refine ⟨⟨k + 1, by omega, by go_num, by rw [Hs.out]; exact hown', (((ho.alloc _).drewN kk)).trans' hgrow fun g hg => .inr (hown.lt g hg).1⟩, ?_⟩
        simp [intOf]; omega
    · obtain rfl : k = s.n := by omega
      go_wp2
      go_ret
      exact ⟨_, rfl, hown, ho⟩

def shTo (s : Tab) (y : Int) (k : Nat) : List Int := ((List.range k).filter fun (x : Nat) => s.has x y).map Int.ofNat
theorem shTo_succ (s : Tab) (y : Int) (k : Nat) : shTo s y (k + 1) = if s.has k y then shTo s y k ++ [(k : Int)] else shTo s y k := by
  simp only [shTo, List.range_succ, List.filter_append, List.map_append, List.filter_cons, List.filter_nil]
  split <;> simp
theorem shTo_len (s : Tab) (y : Int) (k : Nat) : (shTo s y k).length ≤ k := by
  simp only [shTo, List.length_map]
  exact Nat.le_trans (List.length_filter_le _ _) (by simp)
def RShRel (b : Nat) (s : Tab) (y : Int) (w : World) (out i : Value) (wr : World) : Prop :=
  ∃ k : Nat, k ≤ s.c ∧ i = .int .i64 k ∧ OwnInts 3 wr w.heap.size out (shTo s y k) ∧ Only Non w wr
theorem rsharers_any (b g : Nat) (s : Tab) (hs : s.Ok) (y : Int) (w : World) (h : RefAt w b g s) :
    Calls Try.prog 34 #[.pointer (some ⟨b, 0, none⟩), .int .i64 y] w fun e w' => ∃ v, e = .returned v ∧ OwnInts 3 w' w.heap.size v (s.sharers y) ∧ Only Non w w' := by
  have hn := hs.c4
  go_enter Try.func34, Try.ntmps34
  go_wp2_with fail
  go_loopw [5, 6] (fun out i wr => RShRel b s y w out i wr) (fun _ i _ => s.c - (intOf i).toNat)
  case atStart => exact ⟨0, Nat.zero_le _, rfl, World.ownsRow_nil _ _ _ _, Only.refl _ _⟩
  case round =>
    obtain ⟨k, hk, rfl, hown, ho⟩ := hrel
    have hd : RefAt wr b g s := h.only ho id id
    have hc0 := hd.c0
    by_cases hlt : k < s.c
    · have hcall := rhas_any b g s hs k y wr hd
      have hsz := ho.size
      have hlen := shTo_len s y k
      have hl1 : (shTo s y k).length ≤ 1000000 := by omega
      have hsucc := shTo_succ s y k
      cases hb : s.has k y
      · rw [hb] at hcall hsucc
        have H := Lib.hid hcall; clear hcall
        have Hs := Lib.hid hsucc; clear hsucc
        clear hb
        go_wp2_with (go_at_call 36; refine H.out.mono ?_; rintro e w' ⟨rfl, kk, rfl⟩)
        go_roundw
        case rel => exact ⟨k + 1, by omega, by go_num, by rw [Hs.out]; exact hown, ho.drewN _⟩
        case measure => simp [intOf]; omega
      · rw [hb] at hcall hsucc
        have H := Lib.hid hcall; clear hcall
        have Hs := Lib.hid hsucc; clear hsucc
        clear hb
        go_wp2_with (first
          | (go_at_call 36; refine H.out.mono ?_; rintro e w' ⟨rfl, kk, rfl⟩)
          | (at_builtin; refine wpList_pushInt _ rfl (.tmp 19) (.tmp 21) 63 3 rfl intInfo Try.underlying63 w.heap.size u5 _ k rfl (show OwnInts _ _ _ _ (shTo s y k) from hown.alloc _) ⟨wr.heap.size, 0, none⟩ rfl (World.cell?_alloc_at _ _ _ _ rfl) hl1 (by simp; omega) ?_; intro v' w1 hown' hgrow))
        refine ⟨⟨k + 1, by omega, by go_num, by rw [Hs.out]; exact hown', (((ho.alloc _).drewN kk)).trans' hgrow fun g hg => .inr (hown.lt g hg).1⟩, ?_⟩
        simp [intOf]; omega
    · obtain rfl : k = s.c := by omega
      go_wp2
      go_ret
      exact ⟨_, rfl, hown, ho⟩

/- the bits of a byte below 16 -/
def bitsL (v : Nat) : List Int := ((List.range 4).filter fun x => v.testBit x).map Int.ofNat
def tzN (v : Nat) : Nat := if v % 2 = 1 then 0 else if v % 4 = 2 then 1 else if v % 8 = 4 then 2 else if v = 8 then 3 else 8
def lowOff (v : Nat) : Nat := v &&& (v - 1)
theorem bits_step : ∀ v, v < 16 → v ≠ 0 → bitsL v = (tzN v : Int) :: bitsL (lowOff v) ∧ lowOff v < v ∧ (bitsL v).length ≤ 4 := by decide
theorem bits_and : ∀ v : Nat, v < 16 → v ≠ 0 → bits BinOp.and IntKind.u8 (v : Int) ((v : Int) - 1) = (lowOff v : Nat) := by decide
theorem bitsL_len : ∀ v, v < 16 → (bitsL v).length ≤ 4 := by decide
theorem bits_zero : bitsL 0 = [] := by decide
theorem sharers_bits (s : Tab) (hs : s.Ok) (y : Int) (h0 : 0 ≤ y) (h1 : y < s.n) : s.sharers y = bitsL (byteP fun x => s.h x y.toNat) := by
  have key : ∀ c, 1 ≤ c → c ≤ 4 → ∀ p0 p1 p2 p3 : Bool, ((c ≤ 1 → p1 = false) ∧ (c ≤ 2 → p2 = false) ∧ (c ≤ 3 → p3 = false)) →
      ((List.range c).filter fun x => if x = 0 then p0 else if x = 1 then p1 else if x = 2 then p2 else p3).map Int.ofNat = bitsL (byte4 p0 p1 p2 p3) := by
    intro c hc1 hc4
    rcases (show c = 1 ∨ c = 2 ∨ c = 3 ∨ c = 4 by omega) with rfl | rfl | rfl | rfl <;> decide
  have hno : ∀ x, s.c ≤ x → s.h x y.toNat = false := by
    intro x hx
    cases hh : s.h x y.toNat
    · rfl
    · have := (hs.h x _ hh).1; omega
  have := key s.c hs.c1 hs.c4 (s.h 0 y.toNat) (s.h 1 y.toNat) (s.h 2 y.toNat) (s.h 3 y.toNat) ⟨fun h => hno 1 h, fun h => hno 2 h, fun h => hno 3 h⟩
  unfold byteP
  rw [← this]
  unfold Tab.sharers
  congr 1
  apply List.filter_congr
  intro x hx
  have hx' : x < s.c := by simpa using hx
  have hc4 := hs.c4
  have ht : s.there x y = true := (s.there_iff x y).2 ⟨by omega, by omega, h0, h1⟩
  rw [Tab.has, ht, Bool.true_and, Int.toNat_natCast]
  rcases (show x = 0 ∨ x = 1 ∨ x = 2 ∨ x = 3 by omega) with rfl | rfl | rfl | rfl <;> simp
set_option maxRecDepth 100000 in
theorem tz_core (v : Int) (hv0 : 0 ≤ v) (hv : v ≤ 255) (w : World) :
    Calls Try.prog 52 #[.int .u8 v] w fun e w' => e = .returned (.int .i64 (wrap64 (Lib.ntz8 v))) ∧ w = w' := by
  go_enter Try.func52, Try.ntmps52
  go_wp2
  go_ret
  exact ⟨rfl, rfl⟩
set_option maxRecDepth 100000 in
theorem ones_core (v : Int) (hv0 : 0 ≤ v) (hv : v ≤ 255) (w : World) :
    Calls Try.prog 53 #[.int .u8 v] w fun e w' => e = .returned (.int .i64 (wrap64 (Lib.pop8 v))) ∧ w = w' := by
  go_enter Try.func53, Try.ntmps53
  go_wp2
  go_ret
  exact ⟨rfl, rfl⟩
theorem tz_eq : ∀ v : Nat, v < 16 → v ≠ 0 → wrap64 (Lib.ntz8 v) = tzN v := by decide +kernel
theorem ones_eq : ∀ a b c d : Bool, wrap64 (Lib.pop8 (byte4 a b c d : Nat)) = (bit01 a + bit01 b + bit01 c + bit01 d : Nat) := by decide +kernel
theorem tz_any (v : Nat) (hv : v < 16) (h0 : v ≠ 0) (w : World) :
    Calls Try.prog 52 #[.int .u8 v] w fun e w' => e = .returned (.int .i64 (tzN v)) ∧ w = w' := by
  rw [← tz_eq v hv h0]; exact tz_core v (by omega) (by omega) w
theorem ones_any (s : Tab) (y : Nat) (w : World) :
    Calls Try.prog 53 #[.int .u8 (byteP fun x => s.h x y)] w fun e w' => e = .returned (.int .i64 (colN s y)) ∧ w = w' := by
  have := byteP_lt fun x => s.h x y
  unfold colN
  rw [← ones_eq]; exact ones_core _ (by omega) (by omega) w

def ShRel (v0 : Nat) (w : World) (out i : Value) (wr : World) : Prop :=
  ∃ (v : Nat) (l : List Int), v < 16 ∧ i = .int .u8 v ∧ l ++ bitsL v = bitsL v0 ∧ l.length ≤ 4 ∧ OwnInts 3 wr w.heap.size out l ∧ Only Non w wr
theorem sharers_any (b : Nat) (s : Tab) (hs : s.Ok) (y : Int) (w : World) (h : DirAt w b s) (hy0 : 0 ≤ y) (hyn : y < s.n) :
    Calls Try.prog 33 #[.pointer (some ⟨b, 0, none⟩), .int .i64 y] w fun e w' => ∃ v, e = .returned v ∧ OwnInts 3 w' w.heap.size v (s.sharers y) ∧ Only Non w w' := by
  have hn := hs.n32
  have ht : s.there 0 y = true := (s.there_iff 0 y).2 ⟨by omega, by have := hs.c1; omega, hy0, hyn⟩
  have hcall := there_any b s 0 y w h
  rw [ht] at hcall
  have H := Lib.hid hcall; clear hcall ht
  have hv := h.c2 y.toNat (by omega)
  have hlt := byteP_lt fun x => s.h x y.toNat
  have He := Lib.hid (sharers_bits s hs y hy0 hyn)
  generalize (byteP fun x => s.h x y.toNat) = v0 at *
  go_enter Try.func33, Try.ntmps33
  go_wp2_with (go_at_call 51; refine H.out.mono ?_; rintro e w' ⟨rfl, rfl⟩)
  go_loopw [5, 6] (fun out i wr => ShRel v0 w out i wr) (fun _ i _ => (intOf i).toNat)
  case atStart => exact ⟨v0, [], by omega, rfl, rfl, by simp, World.ownsRow_nil _ _ _ _, Only.refl _ _⟩
  case round =>
    obtain ⟨v, l, hv16, rfl, hl, hl4, hown, ho⟩ := hrel
    have hsz := ho.size
    by_cases hv0 : v = 0
    · subst hv0
      go_wp2
      go_ret
      refine ⟨_, rfl, ?_, ho⟩
      rw [He.out, ← hl]
      simpa [bits_zero] using hown
    · have hpos : 0 < v := by omega
      have hcall := tz_any v hv16 hv0 wr
      have H2 := Lib.hid hcall
      obtain ⟨hst, hlow, _⟩ := bits_step v hv16 hv0
      have hand := bits_and v hv16 hv0
      rw [hst] at hl
      have Hl := Lib.hid hl
      clear hcall hst hl hv0
      generalize lowOff v = v2 at *
      generalize (tzN v : Int) = z at *
      have hl1 : l.length ≤ 1000000 := by omega
      go_wp2_with (first
        | (go_at_call 52; refine H2.out.mono ?_; rintro e w' ⟨rfl, rfl⟩)
        | (at_builtin; refine wpList_pushInt _ rfl (.tmp 23) (.tmp 26) 63 3 rfl intInfo Try.underlying63 w.heap.size u5 l z rfl (hown.alloc _) ⟨wr.heap.size, 0, none⟩ rfl (World.cell?_alloc_at _ _ _ _ rfl) hl1 (by simp; omega) ?_; intro v' w1 hown' hgrow))
      have hlen : l.length + 1 ≤ 4 := by
        have h1 := bitsL_len v0 (by omega)
        rw [← Hl.out] at h1
        simp at h1; omega
      refine ⟨⟨v2, l ++ [z], by omega, rfl, by rw [← Hl.out]; simp, by simpa using hlen, hown', (ho.alloc _).trans' hgrow fun g hg => .inr (hown.lt g hg).1⟩, ?_⟩
      simp [intOf]; omega
theorem sharers_no (p : Option Addr) (y : Int) (w : World)
    (ht : Calls Try.prog 51 #[.pointer p, .int .i64 0, .int .i64 y] w fun e w' => e = .returned (.bool false) ∧ w = w') :
    Calls Try.prog 33 #[.pointer p, .int .i64 y] w fun e w' => e = .returned (.slice none 0 0) ∧ w = w' := by
  have H := Lib.hid ht; clear ht
  go_enter Try.func33, Try.ntmps33
  go_wp2_with (go_at_call 51; refine H.out.mono ?_; rintro e w' ⟨rfl, rfl⟩)
  go_ret
  exact ⟨rfl, rfl⟩
theorem sharers_all (b : Nat) (s : Tab) (hs : s.Ok) (y : Int) (w : World) (h : DirAt w b s) :
    Calls Try.prog 33 #[.pointer (some ⟨b, 0, none⟩), .int .i64 y] w fun e w' => ∃ v, e = .returned v ∧ OwnInts 3 w' w.heap.size v (s.sharers y) ∧ Only Non w w' := by
  by_cases hy : 0 ≤ y ∧ y < s.n
  · exact sharers_any b s hs y w h hy.1 hy.2
  · have ht := there_any b s 0 y w h
    rw [(s.there_no 0 y).2 (by omega)] at ht
    refine (sharers_no _ y w ht).mono ?_
    rintro e w' ⟨rfl, rfl⟩
    have he : s.sharers y = [] := by
      unfold Tab.sharers
      rw [List.map_eq_nil_iff, List.filter_eq_nil_iff]
      intro a _
      rw [Tab.has, (s.there_no a y).2 (by omega)]; simp
    rw [he]
    exact ⟨_, rfl, World.ownsRow_nil _ _ _ _, Only.refl _ _⟩
theorem of_nil (x : Int) (w : World) :
    Calls Try.prog 29 #[.pointer none, .int .i64 x] w fun e w' => e = .returned (.slice none 0 0) ∧ w = w' := by
  go_enter Try.func29, Try.ntmps29
  go_wp2_with fail
  go_ret
  exact ⟨rfl, rfl⟩

def FgRel (b : Nat) (s : Tab) (x : Int) (v : Value) (w w1 : World) (i : Value) (wr : World) : Prop :=
  ∃ k : Nat, k ≤ (s.of x).length ∧ i = .int .i64 k ∧ DirAt wr b (remTo s x ((s.of x).take k)) ∧ IntsAt wr v (s.of x) ∧ Only (Just b) w wr
theorem forget_any (b : Nat) (s : Tab) (hs : s.Ok) (x : Int) (w : World) (h : DirAt w b s) :
    Calls Try.prog 30 #[.pointer (some ⟨b, 0, none⟩), .int .i64 x] w fun e w' => e = .returned (.int .i64 (s.of x).length) ∧ DirAt w' b (s.forget x) ∧ Only (Just b) w w' := by
  have hcall := Lib.hid (of_any b s hs x w h)
  have hl32 := of_len s hs x
  have hbw : b < w.heap.size := h.lt
  go_enter Try.func30, Try.ntmps30
  go_wp2_with fail
  refine hcall.out.mono ?_
  rintro e w1 ⟨v, he, hown, ho1⟩
  obtain ⟨A, c, hv, hlc, hcm⟩ := hown.shape
  subst hv he
  have hfar : ∀ g, ownB (.slice A (s.of x).length c) g → ¬ Just b g := fun g hg e => by have := (hown.lt g hg).1; have : g = b := e; omega
  go_wp2_with fail
  go_loopw [13] (fun i wr => FgRel b s x (.slice A (s.of x).length c) w w1 i wr) (fun i _ => (s.of x).length - (intOf i).toNat)
  case atStart => exact ⟨0, Nat.zero_le _, rfl, ho1.box h id, hown.at, ho1.mono fun _ h => h.elim⟩
  case round =>
    obtain ⟨k, hk, rfl, hd, hat, ho⟩ := hrel
    by_cases hlt : k < (s.of x).length
    · have hcell := hat
      obtain ⟨g, o, eA, hc⟩ := hat.cellAt hlt
      subst eA
      have hcall2 := remove_any b _ (remTo_ok s hs x ((s.of x).take k)) x ((s.of x).getD k 0) wr hd
      have H2 := Lib.hid hcall2
      have Hat := Lib.hid hat
      clear hcall2 hat
      generalize hz : (s.of x).getD k 0 = z at *
      have Hz := Lib.hid hz; clear hz
      go_wp2_with (go_at_call 40; refine H2.out.mono ?_; rintro e w' ⟨rfl, hd2, ho2⟩)
      go_roundw
      case rel => exact ⟨k + 1, by omega, by go_num, by
        rw [List.take_succ_eq_append_getElem hlt, remTo_snoc, show (s.of x)[k] = z from by rw [← Hz.out]; simp [hlt]]
        exact hd2, Hat.out.keep ho2 (by
          intro g' o' n' c'' e
          simp only [Value.slice.injEq, Option.some.injEq, Addr.mk.injEq] at e
          obtain ⟨⟨rfl, _⟩, _⟩ := e
          exact hfar _ rfl), ho.trans ho2⟩
      case measure => simp [intOf]; omega
    · obtain rfl : k = (s.of x).length := by omega
      rw [List.take_length, forget_eq s hs] at hd
      go_wp2
      go_ret
      exact ⟨rfl, hd, ho⟩

def LenRel (s : Tab) (w : World) (n i : Value) (wr : World) : Prop := ∃ k : Nat, k ≤ 32 ∧ i = .int .i64 k ∧ n = .int .i64 (sumTo k (colN s)) ∧ w = wr
theorem shareInfo : (Try.prog.info? 80).map (·.size) = some 32 := by kernel_rfl
theorem u8Plain : Try.prog.plainKey 5 = true := by kernel_rfl
theorem u8Size : (Try.prog.info? 5).map (·.size) = some 1 := by kernel_rfl
theorem dirlen_any (b : Nat) (s : Tab) (hs : s.Ok) (w : World) (h : DirAt w b s) :
    Calls Try.prog 37 #[.pointer (some ⟨b, 0, none⟩)] w fun e w' => e = .returned (.int .i64 s.len) ∧ w = w' := by
  have hcs : ∀ j v, ((List.range 32).map fun y => Value.int .u8 (byteP fun x => s.h x y))[j]? = some v → w.cell? ((⟨b, 2, none⟩ : Addr).add j) = some v := by
    intro j v hj
    rw [List.getElem?_map] at hj
    cases hr : (List.range 32)[j]? with
    | none => rw [hr] at hj; simp at hj
    | some y =>
      have hlt : j < 32 := by
        have := (List.getElem?_eq_some_iff.1 hr).1; simpa using this
      have hy : y = j := by
        have := (List.getElem?_eq_some_iff.1 hr).2; simpa using this.symm
      rw [hr] at hj
      simp only [Option.map_some, Option.some.injEq] at hj
      subst hj hy
      rw [Addr.add_lit]
      exact h.c2 y hlt
  have Hlen := Lib.hid (len_cols s hs)
  have hat : ∀ k, k < 32 → ((List.range 32).map fun y => Value.int .u8 (byteP fun x => s.h x y)).toArray[k]? = some (.int .u8 (byteP fun x => s.h x k)) := fun k hk => by simp [hk]
  have hll : ((List.range 32).map fun y => Value.int .u8 (byteP fun x => s.h x y)).length = 32 := by simp
  generalize ((List.range 32).map fun y => Value.int .u8 (byteP fun x => s.h x y)) = L at *
  have Hcs := Lib.hid hcs; clear hcs
  have Hll := Lib.hid hll; clear hll
  have Hat := Lib.hid hat; clear hat
  go_enter Try.func37, Try.ntmps37
  go_wp2_with (refine wpList_load_list rfl 80 _ rfl ⟨b, 2, none⟩ rfl _ _ Hcs.out Try.underlying80 rfl (shareInfo.trans (by rw [Hll.out])) ?_)
  go_loopw [3, 12] (fun n i wr => LenRel s w n i wr) (fun _ i _ => 32 - (intOf i).toNat)
  case atStart => exact ⟨0, by omega, rfl, rfl, rfl⟩
  case round =>
    obtain ⟨k, hk, rfl, rfl, rfl⟩ := hrel
    by_cases hlt : k < 32
    · have hidx := fun w => run_index_agg (P := Try.prog) w 80 5 32 L.toArray .i64 k (.int .u8 (byteP fun x => s.h x k)) Try.underlying80 u8Plain u8Size (by omega) (by omega) (Hat.out k hlt)
      have H2 := Lib.hid (ones_any s k w)
      generalize (byteP fun x => s.h x k) = bb at *
      have hsum : sumTo k (colN s) ≤ k * 4 := sumTo_le k 4 _ (colN_le s)
      have hcol := colN_le s k
      have Hs := Lib.hid (show sumTo (k + 1) (colN s) = sumTo k (colN s) + colN s k from rfl)
      generalize sumTo k (colN s) = sm at *
      generalize colN s k = cn at *
      go_wp2_with (go_at_call 53; refine H2.out.mono ?_; rintro e w' ⟨rfl, rfl⟩)
      go_roundw
      case rel => exact ⟨k + 1, by omega, by go_num, by rw [Hs.out]; go_num, rfl⟩
      case measure => simp [intOf]; omega
    · have he : sumTo k (colN s) = s.len := by rw [show k = 32 from by omega]; exact Hlen.out
      have He := Lib.hid he; clear he
      generalize sumTo k (colN s) = sm at *
      go_wp2
      go_ret
      exact ⟨by rw [← He.out]; rfl, rfl⟩
theorem dirlen_nil (w : World) :
    Calls Try.prog 37 #[.pointer none] w fun e w' => e = .returned (.int .i64 0) ∧ w = w' := by
  go_enter Try.func37, Try.ntmps37
  go_wp2_with fail
  go_ret
  exact ⟨rfl, rfl⟩


def flatH (s : Tab) (i : Nat) : Nat := bit01 (s.h (i / s.n) (i % s.n))
def RLenRel (s : Tab) (w : World) (n i : Value) (wr : World) : Prop := ∃ k : Nat, k ≤ s.c * s.n ∧ i = .int .i64 k ∧ n = .int .i64 (sumTo k (flatH s)) ∧ w = wr
theorem rlen_any (b g : Nat) (s : Tab) (hs : s.Ok) (w : World) (h : RefAt w b g s) :
    Calls Try.prog 38 #[.pointer (some ⟨b, 0, none⟩)] w fun e w' => e = .returned (.int .i64 s.len) ∧ w = w' := by
  have hc2 := h.c2
  have hmb := mul_bd s.c s.n hs.c4 hs.n32
  have hlen : sumTo (s.c * s.n) (flatH s) = s.len := sumTo_flat s.c s.n fun x y => bit01 (s.h x y)
  have hcell : ∀ k, k < s.c * s.n → w.cell? ⟨g, k, none⟩ = some (.bool (s.h (k / s.n) (k % s.n))) := fun k hk => h.2.cellAt (by simp [refCells, hk])
  have Hc := Lib.hid hcell; clear hcell
  generalize hL : s.c * s.n = L at *
  have HL := Lib.hid hL; clear hL
  have Hlen := Lib.hid hlen; clear hlen
  go_enter Try.func38, Try.ntmps38
  go_wp2_with fail
  go_loopw [3, 4] (fun n i wr => ∃ k : Nat, k ≤ L ∧ i = .int .i64 k ∧ n = .int .i64 (sumTo k (flatH s)) ∧ w = wr) (fun _ i _ => L - (intOf i).toNat)
  case atStart => exact ⟨0, by omega, rfl, rfl, rfl⟩
  case round =>
    obtain ⟨k, hk, rfl, rfl, rfl⟩ := hrel
    have hsum : sumTo k (flatH s) ≤ k * 1 := sumTo_le k 1 _ (fun i => bit01_le _)
    by_cases hlt : k < L
    · have hcl := Hc.out k hlt
      have hs2 : sumTo (k + 1) (flatH s) = sumTo k (flatH s) + bit01 (s.h (k / s.n) (k % s.n)) := rfl
      cases hb : s.h (k / s.n) (k % s.n)
      · rw [hb] at hcl hs2
        have Hs := Lib.hid hs2
        clear hb hs2
        generalize sumTo k (flatH s) = sm at *
        go_wp2_with fail
        go_roundw
        case rel => exact ⟨k + 1, by omega, by go_num, by rw [Hs.out]; rfl, by trivial⟩
        case measure => simp [intOf]; omega
      · rw [hb] at hcl hs2
        have Hs := Lib.hid hs2
        clear hb hs2
        generalize sumTo k (flatH s) = sm at *
        go_wp2_with fail
        go_roundw
        case rel => exact ⟨k + 1, by omega, by go_num, by rw [Hs.out]; rfl, by trivial⟩
        case measure => simp [intOf]; omega
    · have he : sumTo k (flatH s) = s.len := by rw [show k = L from by omega]; exact Hlen.out
      have He := Lib.hid he; clear he
      generalize sumTo k (flatH s) = sm at *
      go_wp2_with fail
      go_ret
      exact ⟨by rw [← He.out]; rfl, rfl⟩

/- two lists of numbers, alike? -/
def SameRel (la : List Int) (lb : List Int) (w : World) (i : Value) (wr : World) : Prop := ∃ k : Nat, k ≤ la.length ∧ i = .int .i64 k ∧ (∀ j, j < k → la.getD j 0 = lb.getD j 0) ∧ ∃ m, w.drewN m = wr
theorem same_yes (la lb : List Int) (hl : la.length = lb.length) (h : ∀ j, j < la.length → la.getD j 0 = lb.getD j 0) : la = lb := by
  apply List.ext_getElem hl
  intro i h1 h2
  have := h i h1
  simpa [List.getD, h1, h2] using this
theorem sameInts_any (A B : Option Addr) (ca cb : Nat) (la lb : List Int) (w : World) (ha : IntsAt w (.slice A la.length ca) la) (hb : IntsAt w (.slice B lb.length cb) lb) (h1 : la.length ≤ maxLen) (h2 : lb.length ≤ maxLen) :
    Calls Try.prog 31 #[.slice A la.length ca, .slice B lb.length cb] w fun e w' => e = .returned (.bool (decide (la = lb))) ∧ ∃ m, w.drewN m = w' := by
  unfold maxLen at h1 h2
  by_cases hl : la.length = lb.length
  · have hln : ((la.length : Int) != (lb.length : Int)) = false := by simp [hl]
    have Hl := Lib.hid hl
    have hll : la.length ≤ lb.length := by omega
    clear hl
    go_enter Try.func31, Try.ntmps31
    go_wp2_with fail
    go_loopw [5] (fun i wr => SameRel la lb w i wr) (fun i _ => la.length - (intOf i).toNat)
    case atStart => exact ⟨0, by omega, rfl, fun j hj => absurd hj (by omega), 0, rfl⟩
    case round =>
      obtain ⟨k, hk, rfl, heq, m, rfl⟩ := hrel
      have Heq := Lib.hid heq; clear heq
      by_cases hlt : k < la.length
      · obtain ⟨g, o, rfl, hc⟩ := ha.cellAt hlt
        obtain ⟨g', o', rfl, hc'⟩ := hb.cellAt (show k < lb.length by omega)
        generalize hx : la.getD k 0 = x at *
        generalize hy : lb.getD k 0 = y at *
        have Hx := Lib.hid hx
        have Hy := Lib.hid hy
        clear hx hy
        by_cases hxy : x = y
        · subst hxy
          have hltb : (k : Int) < lb.length := by omega
          have hlta : (k : Int) < la.length := by omega
          go_wp2_with fail
          go_quiet (fail)
          go_wp2
          go_roundw
          case rel => exact ⟨k + 1, by omega, by go_num, fun j hj => by
            rcases Nat.lt_or_ge j k with h | h
            · exact Heq.out j h
            · obtain rfl : j = k := by omega
              rw [Hx.out, Hy.out], _, rfl⟩
          case measure => simp [intOf]; omega
        · have hne : (x != y) = true := by simp [hxy]
          have hltb : (k : Int) < lb.length := by omega
          have hlta : (k : Int) < la.length := by omega
          have hf : decide (la = lb) = false := decide_eq_false fun e => hxy (by rw [← Hx.out, ← Hy.out, e])
          have Hf := Lib.hid hf
          clear hf hxy
          go_wp2_with fail
          go_quiet (fail)
          go_wp2
          go_ret
          exact ⟨by rw [Hf.out]; rfl, _, (World.drewN_drewN _ _ _).symm⟩
      · have hf : decide (la = lb) = true := decide_eq_true (same_yes la lb Hl.out fun j hj => Heq.out j (by omega))
        have Hf := Lib.hid hf
        clear hf
        go_wp2_with fail
        go_ret
        exact ⟨by rw [Hf.out]; rfl, _, rfl⟩
  · have hln : ((la.length : Int) != (lb.length : Int)) = true := by simp; omega
    have hf : decide (la = lb) = false := decide_eq_false fun e => hl (by rw [e])
    have Hf := Lib.hid hf
    clear hl hf
    go_enter Try.func31, Try.ntmps31
    go_wp2_with fail
    go_ret
    exact ⟨by rw [Hf.out]; rfl, 0, rfl⟩
end
end Go.Proofs.Ytlagccfllnhgbaa
