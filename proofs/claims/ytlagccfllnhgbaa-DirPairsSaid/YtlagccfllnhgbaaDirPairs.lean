/- DirPairs: the walk. -/
import Derived.Test.YtlagccfllnhgbaaDirC
import Derived.Test.YtlagccfllnhgbaaOpen
import Derived.Deep.RegionHeld3
namespace Go.Proofs.Ytlagccfllnhgbaa
open Go.RowKit
set_option linter.unusedVariables false

theorem sh_count (s : Tab) (y : Nat) (hy : y < s.n) : (s.sharers y).length = sumTo s.c fun x => bit01 (s.h x y) := by
  rw [← filter_len]
  simp only [Tab.sharers, List.length_map]
  congr 1
  apply List.filter_congr
  intro x hx
  have hx' : x < s.c := by simpa using hx
  rw [Tab.has, (s.there_iff x y).2 ⟨by omega, by omega, by omega, by omega⟩]
  simp
theorem of_count (s : Tab) (x : Nat) (hx : x < s.c) : (s.of x).length = sumTo s.n fun y => bit01 (s.h x y) := by
  rw [← filter_len]
  simp only [Tab.of, List.length_map]
  congr 1
  apply List.filter_congr
  intro y hy
  have hy' : y < s.n := by simpa using hy
  rw [Tab.has, (s.there_iff x y).2 ⟨by omega, by omega, by omega, by omega⟩]
  simp
theorem by_len (s : Tab) : sumTo s.n (fun y => (s.sharers y).length) = s.len := by
  unfold Tab.len
  rw [sumTo_comm]
  exact sumTo_congr _ _ _ fun y hy => sh_count s y hy
theorem ofs_len (s : Tab) : sumTo s.c (fun x => (s.of x).length) = s.len := sumTo_congr _ _ _ fun x hx => of_count s x hx
def shN (s : Tab) (y : Nat) : Nat := (s.sharers y).length
def ofN (s : Tab) (x : Nat) : Nat := (s.of x).length
theorem sh_le (s : Tab) (hs : s.Ok) (y : Nat) : shN s y ≤ 32 := by
  simp only [shN, Tab.sharers, List.length_map]
  have h1 := List.length_filter_le (fun (x : Nat) => s.has x y) (List.range s.c)
  rw [List.length_range] at h1
  have := hs.c4
  omega
def PStart (b xb : Nat) (A : Option Addr) (L : List (Int × Int × Int)) (w : World) (i : Value) (wr : World) : Prop :=
  ∃ (k : Nat) (s : Tab), k ≤ L.length ∧ i = .int .i64 k ∧ s.Ok ∧ DirAt wr b s ∧ RefAt wr xb (xb + 1) s ∧ Only Non w wr
section
set_option maxHeartbeats 2000000
theorem dirPairs_long (A : Option Addr) (n c : Nat) (d0 d1 : Int) (w : World) (h : 100 < n) (hn : n ≤ maxLen) :
    Calls Try.prog 11 #[.agg #[.int .i64 d0, .int .i64 d1], .slice A n c] w (Ret (.bool true) Non w) := by
  unfold maxLen at hn
  have H0 := Lib.hid (dwakes_any (w.alloc (.cells #[.int .i64 d0, .int .i64 d1] 67)))
  go_enter Try.func11, Try.ntmps11
  go_wp2_with fail
  refine H0.out.mono ?_
  rintro e w1 ⟨rfl, ho⟩
  go_wp2_with fail
  go_ret
  exact ⟨rfl, ((Only.refl _ _).alloc _).trans ho⟩
theorem dirPairs_walk (A : Option Addr) (c : Nat) (L : List (Int × Int × Int)) (d0 d1 : Int) (w : World) (h : L.length ≤ 100) (hL : Trips w A L) :
    Calls Try.prog 11 #[.agg #[.int .i64 d0, .int .i64 d1], .slice A L.length c] w (Ret (.bool true) Non w) := by
  have H0 := Lib.hid (dwakes_any (w.alloc (.cells #[.int .i64 d0, .int .i64 d1] 67)))
  have hB : Box (w.alloc (.cells #[.int .i64 d0, .int .i64 d1] 67)) w.heap.size 67 #[.int .i64 d0, .int .i64 d1] := Box.fresh _ _ _
  go_enter Try.func11, Try.ntmps11
  go_wp2_with fail
  refine H0.out.mono ?_
  rintro e w1 ⟨rfl, ho1⟩
  have hB1 := ho1.box hB id
  have c0 : w1.cell? ⟨w.heap.size, 0, none⟩ = some (.int .i64 d0) := hB1.cellAt rfl
  have c1 : w1.cell? ⟨w.heap.size, 1, none⟩ = some (.int .i64 d1) := hB1.cellAt rfl
  go_wp2_with fail
  go_region_held3 (fun w' => w'.cell? ⟨w.heap.size, 0, none⟩ = some (.int .i64 d0) ∧ w'.cell? ⟨w.heap.size, 1, none⟩ = some (.int .i64 d1))
    (first | go_keep | (refine ⟨Only.cell ho2 ?_ id, Only.cell ho2 ?_ id⟩ <;> assumption) | (refine ⟨Only.cell ho3 (Only.cell ho2 ?_ id) id, Only.cell ho3 (Only.cell ho2 ?_ id) id⟩ <;> assumption))
    (first | (go_at_call 26; refine (new_any d0 d1 _).mono ?_; rintro e w2 ⟨b, rfl, hb, hd, ho2⟩; replace hb := Nat.le_of_eq hb.symm) | (go_at_call 27; refine (rnew_any d0 d1 _).mono ?_; rintro e w3 ⟨xb, rfl, hxb, hx, ho3⟩; replace hxb := Nat.le_of_eq hxb.symm))
  have hd3 := ho3.box hd id
  have hok := Tab.Ok.new d0 d1
  have hsz1 := ho1.size
  have hsz2 := ho2.size
  simp only [World.size_alloc, heap_drew] at hsz1 hsz2 hb hxb
  have Ho3 := Lib.hid ((((Only.refl Non w).alloc (.cells #[.int .i64 d0, .int .i64 d1] 67)).trans ho1).drew.trans ho2 |>.trans ho3)
  have hbw : w.heap.size ≤ b := by omega
  have hxw : w.heap.size ≤ xb := by omega
  clear hb hxb hd hsz1 hsz2 ho1 ho2 ho3 c0 c1 hB hB1
  go_wp2_with fail
  go_loopw [30] (fun i wr => PStart b xb A L w i wr) (fun i _ => L.length - (intOf i).toNat)
  case atStart => exact ⟨0, _, Nat.zero_le _, rfl, hok, hd3, hx, Ho3.out⟩
  case round =>
    clear hd3 hx hok
    obtain ⟨k, s, hk, rfl, hs, hd, hx, ho⟩ := hrel
    by_cases hlt : k < L.length
    · obtain ⟨g, o, eA, hg, h1, h2, h3⟩ := (hL.keep ho fun _ _ => id) k hlt
      subst eA
      generalize (L.getD k (0, 0, 0)).1 = ak at *
      generalize (L.getD k (0, 0, 0)).2.1 = ac at *
      generalize (L.getD k (0, 0, 0)).2.2 = ab at *
      have hal : Only Non wr (wr.alloc (.cells #[.int .i64 ak, .int .i64 ac, .int .i64 ab] 61)) := (Only.refl _ _).alloc _
      have H1 := Lib.hid (do_any b xb (xb + 1) s hs ak ac ab _ (hal.box hd id) (hx.only hal id id))
      have Ho := Lib.hid (ho.trans hal)
      go_wp2_with fail
      refine H1.out.mono ?_
      rintro e w' ⟨rfl, hd', hx', ho'⟩
      go_wp2_with fail
      go_roundw
      case rel => exact ⟨k + 1, s.act ak ac ab, by omega, by go_num, hs.act ak ac ab, hd', hx', Ho.out.trans' ho' fun j hj => .inr (by rcases hj with rfl | rfl <;> omega)⟩
      case measure => simp [intOf]; omega
    · have hn32 := hs.n32
      have hc4 := hs.c4
      have q0 := hx.c0
      have q1 := hx.c1
      have Hby := Lib.hid (show sumTo s.n (shN s) = s.len from by_len s)
      have Hof := Lib.hid (show sumTo s.c (ofN s) = s.len from ofs_len s)
      have hll := len_le s hs
      go_wp2_with fail
      go_loopw [9, 43] (fun n i wr => ∃ k : Nat, k ≤ s.n ∧ i = .int .i64 k ∧ n = .int .i64 (sumTo k (shN s)) ∧ DirAt wr b s ∧ RefAt wr xb (xb + 1) s ∧ Only Non w wr) (fun _ i _ => s.n - (intOf i).toNat)
      case atStart => exact ⟨0, by omega, rfl, rfl, hd, hx, ho⟩
      case round =>
        clear hd hx ho q0 q1 hL
        obtain ⟨k, hk, rfl, rfl, hd, hx, ho⟩ := hrel
        have hsum : sumTo k (shN s) ≤ k * 32 := sumTo_le k 32 _ (sh_le s hs)
        by_cases hlt : k < s.n
        · have H2 := Lib.hid (sharers_all b s hs k _ hd)
          have hle : (s.sharers k).length ≤ 32 := sh_le s hs k
          have Hs := Lib.hid (show sumTo (k + 1) (shN s) = sumTo k (shN s) + (s.sharers k).length from rfl)
          have Ho := Lib.hid ho
          have Hd := Lib.hid hd
          have Hx := Lib.hid hx
          clear ho hd hx
          generalize sumTo k (shN s) = sm at *
          go_wp2_with fail
          refine H2.out.mono ?_
          rintro e w6 ⟨v6, he6, hown6, ho6⟩
          obtain ⟨A6, c6, hv6, hl6, hm6⟩ := hown6.shape
          have Ho6 := Lib.hid ho6
          subst hv6 he6
          clear ho6 hown6
          generalize (s.sharers k).length = ln at *
          go_wp2_with fail
          go_roundw
          case rel => exact ⟨k + 1, by omega, by go_num, by rw [Hs.out]; go_num, Ho6.out.box Hd.out id, Hx.out.only Ho6.out id id, Ho.out.transN Ho6.out⟩
          case measure => simp [intOf]; omega
        · have hk' : sumTo k (shN s) = s.len := by rw [show k = s.n from by omega]; exact Hby.out
          have Hk := Lib.hid hk'
          clear hk'
          generalize sumTo k (shN s) = sm at *
          have q0 := hx.c0
          go_wp2_with fail
          go_loopw [10, 57] (fun n i wr => ∃ k : Nat, k ≤ s.c ∧ i = .int .i64 k ∧ n = .int .i64 (sumTo k (ofN s)) ∧ DirAt wr b s ∧ RefAt wr xb (xb + 1) s ∧ Only Non w wr) (fun _ i _ => s.c - (intOf i).toNat)
          case atStart => exact ⟨0, by omega, rfl, rfl, hd, hx, ho⟩
          case round =>
            clear hd hx ho q0
            obtain ⟨k, hk, rfl, rfl, hd, hx, ho⟩ := hrel
            have hsum : sumTo k (ofN s) ≤ k * 32 := sumTo_le k 32 _ (fun x => of_len s hs x)
            by_cases hlt : k < s.c
            · have H2 := Lib.hid (of_any b s hs k _ hd)
              have hle : (s.of k).length ≤ 32 := of_len s hs k
              have Hs := Lib.hid (show sumTo (k + 1) (ofN s) = sumTo k (ofN s) + (s.of k).length from rfl)
              have Ho := Lib.hid ho
              have Hd := Lib.hid hd
              have Hx := Lib.hid hx
              clear ho hd hx
              generalize sumTo k (ofN s) = sm2 at *
              go_wp2_with fail
              refine H2.out.mono ?_
              rintro e w6 ⟨v6, he6, hown6, ho6⟩
              obtain ⟨A6, c6, hv6, hl6, hm6⟩ := hown6.shape
              have Ho6 := Lib.hid ho6
              subst hv6 he6
              clear ho6 hown6
              generalize (s.of k).length = ln at *
              go_wp2_with fail
              go_roundw
              case rel => exact ⟨k + 1, by omega, by go_num, by rw [Hs.out]; go_num, Ho6.out.box Hd.out id, Hx.out.only Ho6.out id id, Ho.out.transN Ho6.out⟩
              case measure => simp [intOf]; omega
            · have hk' : sumTo k (ofN s) = s.len := by rw [show k = s.c from by omega]; exact Hof.out
              have Hk2 := Lib.hid hk'
              clear hk'
              have H3 := dirlen_any b s hs wr hd
              rw [← Hk.out] at H3
              have H3' := Lib.hid H3
              have e1 : sm = sumTo k (ofN s) := by rw [Hk.out, Hk2.out]
              rw [← e1]
              clear H3
              have Ho := Lib.hid ho
              clear hd hx ho hsum e1 hll
              have e0 : ((sm : Int) == (sm : Int)) = true := by simp
              go_wp2_with fail
              refine H3'.out.mono ?_
              rintro e w' ⟨rfl, rfl⟩
              go_wp2_with fail
              refine H3'.out.mono ?_
              rintro e w' ⟨rfl, rfl⟩
              go_wp2_with fail
              go_ret
              exact ⟨rfl, Ho.out⟩
end
end Go.Proofs.Ytlagccfllnhgbaa
