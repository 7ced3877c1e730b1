/- Several texts, one behind the other: Spf Rca. -/
import Derived.Test.YtodephhlhdbeoaaGreatM13
import Derived.Deep.OwnRows
import Derived.Test.YtodephhlhdbeoaaGreatM7
import Derived.Test.YtodephhlhdbeoaaGreatM1
namespace Go.Proofs.YtodephhlhdbeoaaGreat
open Go.RowKit Go.ChangeShapes Go.WideShapes
set_option linter.unusedVariables false
set_option linter.unusedSimpArgs false
theorem intInfo : (Tryz.prog.info? 3).map (fun i => (i.zero, i.size, i.bytes)) = some (some (.int .i64 0), 1, 8) := by kernel_rfl
def AllRel (L : List Int) (W : World) (gk : Nat) (ov bv : Value) (wr : World) : Prop :=
  ∃ k : Nat, gk + k = L.length ∧ bv = .int .i64 (hd (L.drop k)) ∧ OwnInts 3 wr W.heap.size ov (L.take k) ∧ Only Non W wr
def z3 : Array Value := #[.int .i64 0, .int .i64 0, .int .i64 0]
theorem endsInfo : (Tryz.prog.info? 336).map (fun i => (i.zero, i.size, i.bytes)) = some (some (.agg z3), 3, 24) := by kernel_rfl
def spN0 (k : Nat) : Int → Nd := fun b => ⟨if b < k then -1 else 0, 0, 0⟩
def spE0 (k : Nat) : Nat → En := fun i => if i < k then ⟨-1, -1, 0⟩ else ⟨0, 0, 0⟩
theorem spN0_succ (k : Nat) : updI (spN0 k) k ⟨-1, 0, 0⟩ = spN0 (k + 1) := by
  funext b
  unfold updI spN0
  split
  · rename_i e; subst e
    rw [if_pos (by omega)]
  · rename_i e
    by_cases h : b < (k : Int)
    · rw [if_pos h, if_pos (by omega)]
    · rw [if_neg h, if_neg (by omega)]
theorem spE0_succ (k : Nat) : updN (spE0 k) k ⟨-1, -1, 0⟩ = spE0 (k + 1) := by
  funext b
  unfold updN spE0
  split
  · rename_i e; subst e
    rw [if_pos (by omega)]
  · rename_i e
    by_cases h : b < k
    · rw [if_pos h, if_pos (by omega)]
    · rw [if_neg h, if_neg (by omega)]
theorem made3 (m : Nat) : madeCells z3 (m * 3) = enC m (spE0 0) := by
  refine Array.ext (by simp [madeCells, enC]) fun i h1 h2 => ?_
  simp only [madeCells, enC, Array.getElem_map, Array.getElem_range, Array.getElem_ofFn]
  have h3 : i % 3 < 3 := Nat.mod_lt _ (by decide)
  show z3[i % 3]! = fldE ⟨0, 0, 0⟩ (i % 3)
  generalize i % 3 = j at *
  rcases (show j = 0 ∨ j = 1 ∨ j = 2 by omega) with rfl | rfl | rfl <;> rfl
theorem run_make3 (m : Nat) (hm : m ≤ 40) (w : World) : (Instr.makeSlice 329 (.int .i64 m) (.int .i64 m)).run Tryz.prog w = .ok (.slice (some ⟨w.heap.size, 0, none⟩) m m) (w.alloc (.cells (enC m (spE0 0)) 336)) := by
  obtain ⟨i, hi, hzz⟩ := Option.map_eq_some_iff.1 endsInfo
  simp only [Prod.mk.injEq] at hzz
  obtain ⟨hz, hs, hb⟩ := hzz
  have := run_make (P := Tryz.prog) w 329 336 i _ Tryz.underlying329 hi hz .i64 .i64 m m (by omega) (Int.le_refl _) (by rw [hb]; omega) (by omega)
  rw [hs] at this
  rw [this, ← made3]
  rfl
theorem zero_sp (A : Option Addr) (n c : Nat) : Tryz.zeroCells334.setIfInBounds 192 (.slice A n c) = spC (spN0 0) (.slice A n c) := by kernel_rfl
def NewRel (g eb m : Nat) (W : World) (gk : Nat) (iv : Value) (wr : World) : Prop :=
  ∃ k : Nat, gk + k = 64 ∧ iv = .int .i64 k ∧ SpM wr g eb m (spN0 k) (spE0 0) ∧ Only Non W wr
def NewRel2 (g eb m : Nat) (W : World) (gk : Nat) (iv : Value) (wr : World) : Prop :=
  ∃ k : Nat, gk + k = m ∧ iv = .int .i64 k ∧ SpM wr g eb m (spN0 64) (spE0 k) ∧ Only Non W wr
def NewPost (m : Nat) (w : World) (e : Ending) (w' : World) : Prop := ∃ g eb, e = .returned (.pointer (some ⟨g, 0, none⟩)) ∧ SpB w' g eb m (fun _ => []) ∧ w.heap.size ≤ g ∧ w.heap.size ≤ eb ∧ Only Non w w'
section
set_option maxHeartbeats 4000000
set_option maxRecDepth 100000
theorem SpM.setRowE {w : World} {g eb m : Nat} {N : Int → Nd} {E : Nat → En} (h : SpM w g eb m N E) {b : Nat} (hb : b < m) (n : En) :
    SpM (((w.setCell ⟨eb, b * 3, none⟩ (.int .i64 n.f)).setCell ⟨eb, b * 3 + 1, none⟩ (.int .i64 n.k)).setCell ⟨eb, b * 3 + 2, none⟩ (.int .i64 n.m)) g eb m N (updN E b n) := by
  have s1 := h.setE hb (j := 0) (by decide) (.int .i64 n.f) { E b with f := n.f } fun k hk => by
    rcases (show k = 0 ∨ k = 1 ∨ k = 2 by omega) with rfl | rfl | rfl <;> rfl
  have s2 := s1.setE hb (j := 1) (by decide) (.int .i64 n.k) { E b with f := n.f, k := n.k } fun k hk => by
    rw [updN_self]
    rcases (show k = 0 ∨ k = 1 ∨ k = 2 by omega) with rfl | rfl | rfl <;> rfl
  have s3 := s2.setE hb (j := 2) (by decide) (.int .i64 n.m) n fun k hk => by
    rw [updN_self]
    rcases (show k = 0 ∨ k = 1 ∨ k = 2 by omega) with rfl | rfl | rfl <;> rfl
  rw [updN_updN, updN_updN] at s3
  exact s3
theorem all_any {g eb m : Nat} {S : Nat → List Int} {i : Nat} (w : World) (h : SpB w g eb m S) (hi : i < m) :
    Calls Tryz.prog 274 #[.pointer (some ⟨g, 0, none⟩), .int .i64 i] w fun e w' => ∃ v, e = .returned v ∧ OwnInts 3 w' w.heap.size v (S i) ∧ Only Non w w' := by
  have HLI := Lib.hid (list_yes h hi)
  have him : (i : Int) < m := by omega
  obtain ⟨N, E, hm, hr, _⟩ := h
  have hh := hm.hd
  have ce : w.cell? ⟨eb, i * 3, none⟩ = some (.int .i64 (E i).f) := hm.end_ (b := i) (j := 0) hi (by decide)
  rw [hr.ends i hi] at ce
  dsimp only at ce
  have HM := Lib.hid hm
  have hin := fun {b : Int} (hb : b ∈ S i) => hr.in_ hb
  have HIN := Lib.hid (show ∀ b : Int, b ∈ S i → N b = ⟨i, prv (S i) b, nxt (S i) b⟩ from fun b hb => hr.in_ hb)
  have HRG := Lib.hid (show ∀ b : Int, b ∈ S i → 0 ≤ b ∧ b < 64 from fun b hb => hr.rng hb)
  have HND := Lib.hid (hr.nodup i)
  have HLEN := Lib.hid (hr.len i)
  clear hm hr hin
  generalize S i = L at *
  generalize hx : Go.Proofs.YtodephhlhdbeoaaGreat.hd L = x at *
  have HX := Lib.hid hx
  clear hx
  go_enter Tryz.func274, Tryz.ntmps274
  go_wp2_with (go_at_call 296; refine HLI.out.mono ?_; rintro e W0 ⟨rfl, rfl⟩)
  clear hh ce HLI
  go_loopg [5, 6] L.length (fun n ov bv wr => AllRel L w n ov bv wr)
  case atStart => exact ⟨0, by omega, by rw [← HX.out]; rfl, OwnInts.nil _ _ _, Only.refl _ _⟩
  case round =>
    obtain ⟨k, hk, rfl, hown, ho⟩ := hrel
    have HK := Lib.hid hk
    have HOW := Lib.hid hown
    have HO := Lib.hid ho
    clear hk hown ho
    by_cases hlt : k < L.length
    · obtain ⟨gk', rfl⟩ : ∃ gk', gk = gk' + 1 := ⟨gk - 1, by have := HK.out; omega⟩
      have hmem : L[k] ∈ L := List.getElem_mem hlt
      have hdk : Go.Proofs.YtodephhlhdbeoaaGreat.hd (L.drop k) = L[k] := hd_drop hlt
      obtain ⟨h0, h1⟩ := HRG.out _ hmem
      have hnx := nxt_at HND.out hlt
      have hnode := HIN.out _ hmem
      have htk : L.take (k + 1) = L.take k ++ [L[k]] := by rw [List.take_append_getElem hlt]
      rw [hdk]
      generalize L[k] = b at *
      obtain ⟨n, rfl⟩ := Int.eq_ofNat_of_zero_le h0
      have hn : n < 64 := by omega
      have cb : w.cell? ⟨g, n * 3 + 2, none⟩ = some (.int .i64 (N n).b) := HM.out.node (b := n) (j := 2) hn (by decide)
      rw [hnode] at cb
      dsimp only at cb
      rw [hnx] at cb
      generalize hy : Go.Proofs.YtodephhlhdbeoaaGreat.hd (L.drop (k + 1)) = y at *
      have HY := Lib.hid hy
      have HTK := Lib.hid htk
      have HLK := Lib.hid (show (L.take k).length ≤ 1000000 by have := HLEN.out; simp; omega)
      generalize L.take k = Lk at *
      have CB := Lib.hid cb
      have cbr : wr.cell? ⟨g, n * 3 + 2, none⟩ = some (.int .i64 y) := HO.out.cell cb id
      have hnk : (n : Int) ≠ -1 := by omega
      clear hmem hdk hnx hnode htk hy h0 hlt cb
      have hni : (n : Int) < 64 := by omega
      clear h1
      go_wp2_with (at_builtin; refine wpList_pushInt _ rfl (.tmp 28) (.tmp 30) 43 3 rfl intInfo Tryz.underlying43 w.heap.size u5 Lk n rfl (HOW.out.alloc _) ⟨wr.heap.size, 0, none⟩ rfl (World.cell?_alloc_at _ _ _ _ rfl) HLK.out (by have := HO.out.size; rw [World.size_alloc]; omega) ?_; intro v' w1 hown' hgrow; have HOW1 := Lib.hid hown'; have HG1 := Lib.hid hgrow; have cb1 : w1.cell? ⟨g, n * 3 + 2, none⟩ = some (.int .i64 y) := hgrow.cell (Only.cell ((Only.refl Non wr).alloc _) cbr id) (fun e => by have h1 : w.heap.size ≤ g := (HOW.out.lt _ e).1; have := HM.out.1.lt; omega); clear hown' hgrow cbr)
      go_roundg gk'
      case measure => exact Nat.lt_succ_self _
      case rel =>
        refine ⟨k + 1, by have := HK.out; omega, by rw [HY.out], by rw [HTK.out]; exact HOW1.out, (HO.out.alloc _).trans' HG1.out fun j hj => .inr (HOW.out.lt j hj).1⟩
    · obtain rfl : k = L.length := by have := HK.out; omega
      rw [hd_drop_end]
      go_wp2
      go_ret
      refine ⟨_, rfl, ?_, HO.out⟩
      have := HOW.out
      rwa [List.take_length] at this
theorem new_any {m : Nat} (w : World) (h0 : 0 < m) (h40 : m ≤ 40) :
    Calls Tryz.prog 165 #[.int .i64 m] w (NewPost m w) := by
  have hm1 : (1 : Int) ≤ m := by omega
  have hm2 : (m : Int) ≤ 40 := by omega
  have hmk := run_make3 m h40
  go_enter Tryz.func165, Tryz.ntmps165
  have HMK := Lib.hid hmk
  clear hmk
  go_upto_region 1 with fail
  go_cut [3] (fun v wx => v = .pointer (some ⟨w.heap.size + 1, 0, none⟩) ∧ wx = (w.alloc (.cells (enC m (spE0 0)) 336)).alloc (.cells (spC (spN0 0) (.slice (some ⟨w.heap.size, 0, none⟩) m m)) 334))
  case first =>
    have HZ := Lib.hid (zero_sp (some ⟨w.heap.size, 0, none⟩) m m)
    by_cases h1 : m ≤ 1
    · have hmk := HMK.out
      have hmk1 : ∀ w, (Instr.makeSlice 329 (.int .i64 1) (.int .i64 1)).run Tryz.prog w = .ok (.slice (some ⟨w.heap.size, 0, none⟩) m m) (w.alloc (.cells (enC m (spE0 0)) 336)) := fun w => by
        obtain rfl : m = 1 := by omega
        exact hmk w
      have h2 : (m : Int) ≤ 1 := by omega
      clear hmk h1 HMK
      go_wp2
      go_meet
      case rel => exact ⟨rfl, by rw [← HZ.out]⟩
    · have hmk := HMK.out
      have h2 : ¬ (m : Int) ≤ 1 := by omega
      clear h1 HMK
      go_wp2
      go_meet
      case rel => exact ⟨rfl, by rw [← HZ.out]⟩
  case rest =>
    obtain ⟨rfl, rfl⟩ := hcut
    have hb1 := Box.fresh w 336 (enC m (spE0 0))
    have hb2 := Box.fresh (w.alloc (.cells (enC m (spE0 0)) 336)) 334 (spC (spN0 0) (.slice (some ⟨w.heap.size, 0, none⟩) m m))
    rw [World.size_alloc] at hb2
    have h1 := (show SpM ((w.alloc (.cells (enC m (spE0 0)) 336)).alloc (.cells (spC (spN0 0) (.slice (some ⟨w.heap.size, 0, none⟩) m m)) 334)) (w.heap.size + 1) w.heap.size m (spN0 0) (spE0 0) from ⟨hb2, hb1.alloc _⟩)
    have HO1 := Lib.hid (((Only.refl Non w).alloc (.cells (enC m (spE0 0)) 336)).alloc (.cells (spC (spN0 0) (.slice (some ⟨w.heap.size, 0, none⟩) m m)) 334))
    have HG := Lib.hid (show w.heap.size ≤ w.heap.size + 1 from Nat.le_succ _)
    obtain ⟨eb, he⟩ : ∃ eb, eb = w.heap.size := ⟨_, rfl⟩
    have HE := Lib.hid (show w.heap.size ≤ eb from Nat.le_of_eq he.symm)
    clear hb1 hb2 HMK
    generalize (w.alloc (.cells (enC m (spE0 0)) 336)).alloc (.cells (spC (spN0 0) (.slice (some ⟨w.heap.size, 0, none⟩) m m)) 334) = W1 at *
    generalize hg : w.heap.size + 1 = g at *
    rw [← he] at h1
    have H1 := Lib.hid h1
    clear hg he h1
    go_wp2_with fail
    go_loopg [12] 64 (fun n iv wr => NewRel g eb m w n iv wr)
    case atStart => exact ⟨0, rfl, rfl, H1.out, HO1.out⟩
    case round =>
      obtain ⟨k, hk, rfl, hsp, ho⟩ := hrel
      have HK := Lib.hid hk
      have H := Lib.hid hsp
      have HO := Lib.hid ho
      clear hk hsp ho
      by_cases hlt : k < 64
      · obtain ⟨gk', rfl⟩ : ∃ gk', gk = gk' + 1 := ⟨gk - 1, by have := HK.out; omega⟩
        have hki : (k : Int) < 64 := by omega
        have hf := H.out.1.free (k * 3)
        have hc : wr.cell? ⟨g, k * 3, none⟩ = some (.int .i64 (spN0 k k).l) := H.out.node (b := k) (j := 0) hlt (by decide)
        go_wp2
        go_roundg gk'
        case measure => exact Nat.lt_succ_self _
        case rel =>
          refine ⟨k + 1, by have := HK.out; omega, by simp, ?_, HO.out.setCell (p := ⟨g, k * 3, none⟩) (.inr HG.out) _⟩
          rw [← spN0_succ]
          exact H.out.setN hlt (j := 0) (by decide) _ _ fun q hq => by
            rcases (show q = 0 ∨ q = 1 ∨ q = 2 by omega) with rfl | rfl | rfl <;> rfl
      · obtain rfl : k = 64 := by have := HK.out; omega
        clear hlt HK
        have hh := H.out.hd
        go_wp2_with fail
        clear hh
        go_loopg [27] m (fun n iv wr => NewRel2 g eb m w n iv wr)
        case atStart => exact ⟨0, by omega, rfl, H.out, HO.out⟩
        case round =>
          obtain ⟨k, hk, rfl, hsp, ho⟩ := hrel
          have HK := Lib.hid hk
          have H3 := Lib.hid hsp
          have HO3 := Lib.hid ho
          clear hk hsp ho
          have hh := H3.out.hd
          by_cases hlt : k < m
          · obtain ⟨gk', rfl⟩ : ∃ gk', gk = gk' + 1 := ⟨gk - 1, by have := HK.out; omega⟩
            have hki : (k : Int) < m := by omega
            have hf := H3.out.2.free (k * 3)
            have hf1 := H3.out.2.free (k * 3 + 1)
            have hf2 := H3.out.2.free (k * 3 + 2)
            have hc : wr.cell? ⟨eb, k * 3, none⟩ = some (.int .i64 (spE0 k k).f) := H3.out.end_ (b := k) (j := 0) hlt (by decide)
            have hc1 : wr.cell? ⟨eb, k * 3 + 1, none⟩ = some (.int .i64 (spE0 k k).k) := H3.out.end_ (b := k) (j := 1) hlt (by decide)
            have hc2 : wr.cell? ⟨eb, k * 3 + 2, none⟩ = some (.int .i64 (spE0 k k).m) := H3.out.end_ (b := k) (j := 2) hlt (by decide)
            go_wp2
            go_roundg gk'
            case measure => exact Nat.lt_succ_self _
            case rel =>
              refine ⟨k + 1, by have := HK.out; omega, by simp, ?_, ((HO3.out.setCell (p := ⟨eb, k * 3, none⟩) (.inr HE.out) _).setCell (p := ⟨eb, k * 3 + 1, none⟩) (.inr HE.out) _).setCell (p := ⟨eb, k * 3 + 2, none⟩) (.inr HE.out) _⟩
              rw [← spE0_succ]
              exact H3.out.setRowE hlt ⟨-1, -1, 0⟩
          · obtain rfl : k = m := by have := HK.out; omega
            have hki : ¬ (k : Int) < k := by omega
            go_wp2
            go_ret
            refine ⟨g, eb, rfl, ⟨_, _, H3.out, Rep.nil _ _ _ (fun b h1 h2 => ?_) (fun i hi => ?_), h0, h40⟩, HG.out, HE.out, HO3.out⟩
            · show (if b < ((64 : Nat) : Int) then (-1 : Int) else 0) = -1
              rw [if_pos (by omega)]
            · show (if i < k then _ else _) = _
              rw [if_pos hi]
end
def WoRel (l : List Int) (b : Int) (w : World) (v i : Value) (wr : World) : Prop :=
  ∃ k : Nat, k ≤ l.length ∧ i = .int .i64 k ∧ OwnInts 3 wr w.heap.size v ((l.take k).filter (· != b)) ∧ Only Non w wr
def Lst1 (l : List Int) (w : World) (e : Ending) (w' : World) : Prop := ∃ v, e = .returned v ∧ OwnInts 3 w' w.heap.size v l ∧ Only Non w w'
theorem OwnInts.low {t : TypeId} {w : World} {base base' : Nat} {v : Value} {l : List Int} (h : OwnInts t w base v l) (hb : base' ≤ base) : OwnInts t w base' v l := by
  rcases h with ⟨hlen, ⟨rfl, h0⟩ | ⟨g, cap, cur, rfl, h1, h2⟩⟩
  · exact ⟨hlen, .inl ⟨rfl, h0⟩⟩
  · exact ⟨hlen, .inr ⟨g, cap, cur, rfl, Nat.le_trans hb h1, h2⟩⟩
section
set_option maxHeartbeats 4000000
set_option maxRecDepth 100000
theorem without_any {base : Nat} {v : Value} {l : List Int} (b : Int) (w : World) (h : OwnInts 3 w base v l) (hl : l.length ≤ 10000) : Calls Tryz.prog 265 #[v, .int .i64 b] w (Lst1 (l.filter (· != b)) w) := by
  obtain ⟨A, c, rfl, _, _⟩ := h.shape
  have H := Lib.hid h.at
  clear h
  go_enter Tryz.func265, Tryz.ntmps265
  go_upto_region 3 with fail
  go_loopw [5, 6] (fun v i wr => WoRel l b w v i wr) (fun _ i _ => l.length - (intOf i).toNat)
  case atStart => exact ⟨0, Nat.zero_le _, rfl, OwnInts.nil _ _ _, Only.refl _ _⟩
  case round =>
    obtain ⟨k, hk, rfl, hown, ho⟩ := hrel
    have HOW := Lib.hid hown
    have HO := Lib.hid ho
    clear hown ho
    by_cases hlt : k < l.length
    · obtain ⟨g, o, rfl, hc⟩ := (H.out.keep HO.out fun _ _ _ _ _ => id).cellAt hlt
      have hx : l[k] = l.getD k 0 := by simp [hlt]
      have HTK := Lib.hid (show (l.take (k + 1)).filter (· != b) = (l.take k).filter (· != b) ++ if (l.getD k 0 != b) = true then [l.getD k 0] else [] by
        rw [List.take_succ_eq_append_getElem hlt, List.filter_append, hx]
        congr 1
        cases hh : (l.getD k 0 != b) <;> simp only [List.filter_cons, List.filter_nil, hh, if_true, if_false, Bool.false_eq_true])
      have hlti : (k : Int) < l.length := by omega
      have HLT := Lib.hid hlt
      have HLN := Lib.hid (show ((l.take k).filter (· != b)).length ≤ 1000000 by
        have h1 : ((l.take k).filter (· != b)).length ≤ (l.take k).length := List.length_filter_le ..
        have h2 : (l.take k).length ≤ l.length := List.length_take_le' ..
        omega)
      clear hlt hk hx
      generalize l.getD k 0 = x at *
      have HS := Lib.hid HO.out.size
      by_cases hxb : x = b
      · have hnb : (x != b) = false := by simp [hxb]
        rw [hnb, if_neg (by decide), List.append_nil] at HTK
        clear hxb
        go_wp2
        go_roundw
        case rel => exact ⟨k + 1, HLT.out, by go_num, by rw [HTK.out]; exact HOW.out, HO.out⟩
        case measure => simp [intOf]; have := HLT.out; omega
      · have hnb : (x != b) = true := by simp [hxb]
        rw [hnb, if_pos rfl] at HTK
        clear hxb
        go_wp2_with (at_builtin; refine wpList_pushInt _ rfl (.tmp 19) (.tmp 24) 43 3 rfl intInfo Tryz.underlying43 w.heap.size u5 _ x rfl (HOW.out.alloc _) ⟨wr.heap.size, 0, none⟩ rfl (World.cell?_alloc_at _ _ _ _ rfl) HLN.out (by have := HS.out; rw [World.size_alloc]; omega) ?_; intro v' w1 hown' hgr)
        go_roundw
        case rel => exact ⟨k + 1, HLT.out, by go_num, by rw [HTK.out]; exact hown', (HO.out.alloc _).trans' hgr fun j hj => .inr (HOW.out.lt j hj).1⟩
        case measure => simp [intOf]; have := HLT.out; omega
    · obtain rfl : k = l.length := by omega
      clear hlt hk
      rw [List.take_length] at HOW
      go_wp2
      go_ret
      exact ⟨_, rfl, HOW.out, HO.out⟩
theorem ahead_any {base : Nat} {v : Value} {l : List Int} (b : Int) (w : World) (h : OwnInts 3 w base v l) (hl : l.length ≤ 10000) : Calls Tryz.prog 266 #[v, .int .i64 b] w (Lst1 (b :: l) w) := by
  have H := Lib.hid h
  have HL := Lib.hid (show ([b] : List Int).length + l.length ≤ 1000000 by simp; omega)
  clear h
  go_enter Tryz.func266, Tryz.ntmps266
  go_upto_region 3 with (at_builtin; refine wpList_pushInt _ rfl (.tmp 6) (.tmp 8) 43 3 rfl intInfo Tryz.underlying43 w.heap.size (.slice none 0 0) [] b rfl (OwnInts.nil _ _ _) ⟨w.heap.size, 0, none⟩ rfl (World.cell?_alloc_at _ _ _ _ rfl) (by decide) (by rw [World.size_alloc]; omega) ?_; intro v1 w1 hown1 hgr1)
  have HO1 := Lib.hid (show Only Non w w1 from ((Only.refl Non w).alloc _).trans' hgr1 fun j hj => (ownB_none hj).elim)
  have HV1 := Lib.hid (show OwnInts 3 w1 w.heap.size v1 [b] from hown1)
  clear hown1 hgr1
  go_wp2_with (at_builtin; refine wpList_ownapp _ rfl (.tmp 10) (.tmp 11) 43 3 rfl intInfo Tryz.underlying43 w.heap.size v1 [b] rfl HV1.out base v l rfl (H.out.only HO1.out fun _ _ => id) HL.out HO1.out.size ?_; intro v2 w2 hown2 hgr2)
  go_ret
  exact ⟨v2, rfl, hown2, HO1.out.trans' hgr2 fun j hj => .inr (HV1.out.lt j hj).1⟩
end
end Go.Proofs.YtodephhlhdbeoaaGreat
