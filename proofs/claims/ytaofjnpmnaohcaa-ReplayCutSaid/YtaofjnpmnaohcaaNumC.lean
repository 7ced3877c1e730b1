/- Rows of wide elements; conf.Get at a configuration's bytes. Printed by numc.py. -/
import Derived.Test.YtaofjnpmnaohcaaNumB
import Derived.Test.YtaofjnpmnaohcaaCfgF
import Derived.ArgAppend
import Derived.Laws.Tables
namespace Go.Proofs.Ytaofjnpmnaohcaa
open Go.RowKit
set_option linter.unusedVariables false
set_option linter.unusedSimpArgs false
theorem flat_at {α β : Type} (f : α → List β) (s : Nat) (d : α) (hf : ∀ a, (f a).length = s) : ∀ (l : List α) (i j : Nat), i < l.length → j < s → (l.flatMap f)[i * s + j]? = (f (l.getD i d))[j]?
  | [], i, j, h, _ => absurd h (Nat.not_lt_zero _)
  | a :: l, 0, j, _, hj => by
    rw [List.flatMap_cons, Nat.zero_mul, Nat.zero_add, List.getElem?_append_left (by rw [hf]; exact hj)]
    rfl
  | a :: l, i + 1, j, h, hj => by
    rw [List.flatMap_cons, List.getElem?_append_right (by rw [hf, Nat.succ_mul]; omega), hf, show (i + 1) * s + j - s = i * s + j from by rw [Nat.succ_mul]; omega]
    exact flat_at f s d hf l i j (by simpa using h) hj
/-- append of one element of several cells onto a row of the call's own. -/
theorem wpList_wide {P : Program} (w : World) {ops : Array Oper} {rest : List Oper} {o : Oper} {a : Act} {Q : Exit → Act → World → Prop} (hgd : o.guard = none) (s x : Operand) (t e : TypeId)
    (ho : o.op = .call { callee := .builtin .append, args := #[s, x], argTypes := #[t, t] }) {z : Value} {size bytes : Nat}
    (hinfo : (P.info? e).map (fun i => (i.zero, i.size, i.bytes)) = some (some z, size, bytes)) (hzs : z.cells.size = size) (hsz : 0 < size) (ht : P.underlying t = some (.slice e))
    (base : Nat) (v : Value) (n : Nat) (xs : List Value) (cs : List Value) (hs : a.eval s = v) (hown : w.ownsRow base e size v n xs) (ad : Addr) (hx : a.eval x = .slice (some ad) 1 1)
    (hcl : cs.length = size) (hcell : ∀ j u, cs[j]? = some u → w.cell? (ad.add j) = some u) (h1 : ∀ u ∈ cs, u.oneCell' = true) (hlen : n + 1 ≤ maxLen) (hbytes : (n + 1) * bytes ≤ 140737488355328) (hbase : base ≤ w.heap.size)
    (h : ∀ v' w', w'.ownsRow base e size v' (n + 1) (xs ++ cs) → Only (ownB v) w w' → (v'.ownBlock = v.ownBlock ∨ v'.ownBlock = some w.heap.size) → wpList P ops Q rest (a.put o.dst v') w') :
    wpList P ops Q (o :: rest) a w := by
  obtain ⟨i0, hi, hz0, hz1, hz2⟩ := info_parts hinfo
  exact wpList_append_own_at w hgd s x t ho base e i0 z size bytes ht hi hz0 hz1 hz2 hzs hsz v n xs hs hown ad 1 1 cs hx (by omega) hcell h1 hlen hbytes hbase
    (fun v' w' h2 h3 _ h5 => h v' w' h2 ((Only.refl _ _).grown h3 fun k hk => .inl hk) h5)
def hCells (h : HintA) : List Value := [.int .i64 h.fr, .int .i64 h.size, .int .i64 h.often, .bool h.loop]
theorem hints_of_row {w : World} {base : Nat} {v : Value} {l : List HintA} (h : w.ownsRow base 66 4 v l.length (l.flatMap hCells)) : ∃ A c, v = .slice A l.length c ∧ HintsAt w A l.length c l := by
  rcases h.2 with ⟨rfl, h0⟩ | ⟨g, cap, cur, rfl, hb, hg, hn, hm, hs, ht⟩
  · rw [h0]
    exact ⟨none, 0, rfl, h0.symm, Nat.le_refl _, Nat.zero_le _, fun i hi => by omega⟩
  · refine ⟨some ⟨g, 0, none⟩, cap, rfl, rfl, hn, hm, fun i hi => ?_⟩
    have hc := fun j (hj : j < 4) u (hu : (hCells (l.getD i default))[j]? = some u) => h.cells (g := g) rfl (i * 4 + j) u (by rw [flat_at hCells 4 default (fun _ => rfl) l i j hi hj]; exact hu)
    simp only [Addr.add_lit, Nat.zero_add] at hc
    refine ⟨g, 0, rfl, (Array.getElem?_eq_some_iff.1 hg).1, ?_, ?_, ?_, ?_⟩
    · have := hc 0 (by decide) _ rfl; simpa using this
    · have := hc 1 (by decide) _ rfl; simpa using this
    · have := hc 2 (by decide) _ rfl; simpa using this
    · have := hc 3 (by decide) _ rfl; simpa using this
theorem row_form {w : World} {base : Nat} {e : TypeId} {size : Nat} {v : Value} {n : Nat} {xs : List Value} (h : w.ownsRow base e size v n xs) : ∃ A c, v = .slice A n c ∧ n ≤ c ∧ c ≤ maxLen := by
  rcases h.2 with ⟨rfl, rfl⟩ | ⟨g, cap, cur, rfl, _, _, hn, hm, _⟩
  · exact ⟨none, 0, rfl, Nat.le_refl _, Nat.zero_le _⟩
  · exact ⟨_, cap, rfl, hn, hm⟩
theorem Box.setRow {w : World} {g : Nat} {t : TypeId} {cs : Array Value} (h : Box w g t cs) (cs' : Array Value) : Box (w.setRow g cs') g t cs' := setRow_heap w g cs cs' t (0, 0) h
theorem Only.setRow {S : Nat → Prop} {a w : World} (h : Only S a w) {g : Nat} (hg : S g ∨ a.heap.size ≤ g) (cs : Array Value) : Only S a (w.setRow g cs) :=
  ⟨h.os, h.tape, h.output, by simpa [World.setRow] using h.size, fun k hk hn => by
    rw [setRow_other w g k cs (fun e => by subst e; exact hg.elim hn fun h => by omega)]
    exact h.block k hk hn⟩
theorem cfg_one (c : CfgA) (A : Option Addr) (n m : Nat) : (cfgCells c (.slice A n m)).all (·.oneCell') = true := by simp [cfgCells, Value.oneCell']
theorem hintInfo : (Try.prog.info? 66).map (fun i => (i.zero, i.size, i.bytes)) = some (some (.agg #[.int .i64 0, .int .i64 0, .int .i64 0, .bool false]), 4, 32) := by kernel_rfl
theorem ptrInfo : (Try.prog.info? 64).map (fun i => (i.zero, i.size, i.bytes)) = some (some (.pointer none), 1, 8) := by kernel_rfl
def cNat (c : CfgA) : List Nat := [(c.f 0).toNat, (c.f 1).toNat, (c.f 2).toNat, (c.f 3).toNat, (c.f 4).toNat, (c.f 5).toNat, (c.f 6).toNat, (c.f 7).toNat, (c.f 8).toNat, (c.f 9).toNat, (c.f 10).toNat, (c.f 11).toNat, (c.f 12).toNat, (c.f 13).toNat, (c.f 14).toNat, (c.f 15).toNat, c.h.length]
theorem cNat_cat (c : CfgA) : catN (cNat c) = confH c := by
  unfold confH
  rw [numsB_succ, numsB_succ, numsB_succ, numsB_succ, numsB_succ, numsB_succ, numsB_succ, numsB_succ, numsB_succ, numsB_succ, numsB_succ, numsB_succ, numsB_succ, numsB_succ, numsB_succ, numsB_succ, numsB_zero]
  simp only [catN, cNat, List.flatMap_cons, List.flatMap_nil, List.nil_append, List.append_nil, List.append_assoc]
def cGot (c : CfgA) (k : Nat) : Array Value := #[.int .i64 (if 0 < k then (c.f 0).toNat else 0 : Nat), .int .i64 (if 1 < k then (c.f 1).toNat else 0 : Nat), .int .i64 (if 2 < k then (c.f 2).toNat else 0 : Nat), .int .i64 (if 3 < k then (c.f 3).toNat else 0 : Nat), .int .i64 (if 4 < k then (c.f 4).toNat else 0 : Nat), .int .i64 (if 5 < k then (c.f 5).toNat else 0 : Nat), .int .i64 (if 6 < k then (c.f 6).toNat else 0 : Nat), .int .i64 (if 7 < k then (c.f 7).toNat else 0 : Nat), .int .i64 (if 8 < k then (c.f 8).toNat else 0 : Nat), .int .i64 (if 9 < k then (c.f 9).toNat else 0 : Nat), .int .i64 (if 10 < k then (c.f 10).toNat else 0 : Nat), .int .i64 (if 11 < k then (c.f 11).toNat else 0 : Nat), .int .i64 (if 12 < k then (c.f 12).toNat else 0 : Nat), .int .i64 (if 13 < k then (c.f 13).toNat else 0 : Nat), .int .i64 (if 14 < k then (c.f 14).toNat else 0 : Nat), .int .i64 (if 15 < k then (c.f 15).toNat else 0 : Nat), .slice none 0 0]
theorem cGot_step (c : CfgA) {k : Nat} (hk : k < 16) : (cGot c k).setIfInBounds k (.int .i64 ((cNat c).getD k 0 : Nat)) = cGot c (k + 1) := by
  rcases (show k = 0 ∨ k = 1 ∨ k = 2 ∨ k = 3 ∨ k = 4 ∨ k = 5 ∨ k = 6 ∨ k = 7 ∨ k = 8 ∨ k = 9 ∨ k = 10 ∨ k = 11 ∨ k = 12 ∨ k = 13 ∨ k = 14 ∨ k = 15 from by omega) with rfl | rfl | rfl | rfl | rfl | rfl | rfl | rfl | rfl | rfl | rfl | rfl | rfl | rfl | rfl | rfl <;> rfl
theorem cGot_some (c : CfgA) {k : Nat} (hk : k < 16) (j : Nat) : ∃ u, (cGot c j)[k]? = some u := by
  rcases (show k = 0 ∨ k = 1 ∨ k = 2 ∨ k = 3 ∨ k = 4 ∨ k = 5 ∨ k = 6 ∨ k = 7 ∨ k = 8 ∨ k = 9 ∨ k = 10 ∨ k = 11 ∨ k = 12 ∨ k = 13 ∨ k = 14 ∨ k = 15 from by omega) with rfl | rfl | rfl | rfl | rfl | rfl | rfl | rfl | rfl | rfl | rfl | rfl | rfl | rfl | rfl | rfl <;> exact ⟨_, rfl⟩
theorem cGot_all {c : CfgA} (h : CfgP c) {k : Nat} (hk : 16 ≤ k) : cGot c k = cfgCells c (.slice none 0 0) := by
  unfold cGot cfgCells
  rw [if_pos (show 0 < k by omega)]
  have e0 : (((c.f 0).toNat : Nat) : Int) = c.f 0 := by have := (h.range 0 (by decide)).1; omega
  rw [if_pos (show 1 < k by omega)]
  have e1 : (((c.f 1).toNat : Nat) : Int) = c.f 1 := by have := (h.range 1 (by decide)).1; omega
  rw [if_pos (show 2 < k by omega)]
  have e2 : (((c.f 2).toNat : Nat) : Int) = c.f 2 := by have := (h.range 2 (by decide)).1; omega
  rw [if_pos (show 3 < k by omega)]
  have e3 : (((c.f 3).toNat : Nat) : Int) = c.f 3 := by have := (h.range 3 (by decide)).1; omega
  rw [if_pos (show 4 < k by omega)]
  have e4 : (((c.f 4).toNat : Nat) : Int) = c.f 4 := by have := (h.range 4 (by decide)).1; omega
  rw [if_pos (show 5 < k by omega)]
  have e5 : (((c.f 5).toNat : Nat) : Int) = c.f 5 := by have := (h.range 5 (by decide)).1; omega
  rw [if_pos (show 6 < k by omega)]
  have e6 : (((c.f 6).toNat : Nat) : Int) = c.f 6 := by have := (h.range 6 (by decide)).1; omega
  rw [if_pos (show 7 < k by omega)]
  have e7 : (((c.f 7).toNat : Nat) : Int) = c.f 7 := by have := (h.range 7 (by decide)).1; omega
  rw [if_pos (show 8 < k by omega)]
  have e8 : (((c.f 8).toNat : Nat) : Int) = c.f 8 := by have := (h.range 8 (by decide)).1; omega
  rw [if_pos (show 9 < k by omega)]
  have e9 : (((c.f 9).toNat : Nat) : Int) = c.f 9 := by have := (h.range 9 (by decide)).1; omega
  rw [if_pos (show 10 < k by omega)]
  have e10 : (((c.f 10).toNat : Nat) : Int) = c.f 10 := by have := (h.range 10 (by decide)).1; omega
  rw [if_pos (show 11 < k by omega)]
  have e11 : (((c.f 11).toNat : Nat) : Int) = c.f 11 := by have := (h.range 11 (by decide)).1; omega
  rw [if_pos (show 12 < k by omega)]
  have e12 : (((c.f 12).toNat : Nat) : Int) = c.f 12 := by have := (h.range 12 (by decide)).1; omega
  rw [if_pos (show 13 < k by omega)]
  have e13 : (((c.f 13).toNat : Nat) : Int) = c.f 13 := by have := (h.range 13 (by decide)).1; omega
  rw [if_pos (show 14 < k by omega)]
  have e14 : (((c.f 14).toNat : Nat) : Int) = c.f 14 := by have := (h.range 14 (by decide)).1; omega
  rw [if_pos (show 15 < k by omega)]
  have e15 : (((c.f 15).toNat : Nat) : Int) = c.f 15 := by have := (h.range 15 (by decide)).1; omega
  rw [e0, e1, e2, e3, e4, e5, e6, e7, e8, e9, e10, e11, e12, e13, e14, e15]
theorem spots_at (g : Nat) {k : Nat} (hk : k < 16) : (spots g)[k]? = some (.pointer (some ⟨g, k, none⟩)) := by
  unfold spots
  rcases (show k = 0 ∨ k = 1 ∨ k = 2 ∨ k = 3 ∨ k = 4 ∨ k = 5 ∨ k = 6 ∨ k = 7 ∨ k = 8 ∨ k = 9 ∨ k = 10 ∨ k = 11 ∨ k = 12 ∨ k = 13 ∨ k = 14 ∨ k = 15 from by omega) with rfl | rfl | rfl | rfl | rfl | rfl | rfl | rfl | rfl | rfl | rfl | rfl | rfl | rfl | rfl | rfl <;> rfl
def cg (cb mb k : Nat) : Nat := if k < 16 then cb else mb
def co (k : Nat) : Nat := if k < 16 then k else 0
def CgI (c : CfgA) (cb mb : Nat) (W : World) (k : Nat) (wr : World) : Prop := Box wr cb 25 (cGot c k) ∧ Box wr mb 3 #[.int .i64 (if 16 < k then c.h.length else 0 : Nat)] ∧ Only (fun b => b = cb ∨ b = mb) W wr
def CgRel (c : CfgA) (cb rb : Nat) (w0 : World) (at_ i : Value) (wr : World) : Prop :=
  ∃ (k : Nat) (hs : Value), k ≤ c.h.length ∧ i = .int .i64 k ∧ at_ = .int .i64 ((confH c).length + (hsB c.h k).length : Nat) ∧ Box wr cb 25 (cfgCells c hs) ∧ Box wr rb 25 (cGot c 0) ∧ wr.ownsRow w0.heap.size 66 4 hs k ((c.h.take k).flatMap hCells) ∧ Only Non w0 wr
theorem ptr_row {w : World} {base : Nat} {cb mb : Nat} {v : Value} (h : w.ownsRow base 64 1 v (16 + 1) ((spots cb).toList ++ [.pointer (some ⟨mb, 0, none⟩)])) :
    ∃ g c, v = .slice (some ⟨g, 0, none⟩) 17 c ∧ base ≤ g ∧ (∃ cs, Box w g 64 cs) ∧ 17 ≤ c ∧ c ≤ maxLen ∧ ∀ k, k < 17 → w.cell? ⟨g, k, none⟩ = some (.pointer (some ⟨cg cb mb k, co k, none⟩)) := by
  rcases h.2 with ⟨_, h0⟩ | ⟨g, cap, cur, e, hb, hg, hn, hm, hs, ht⟩
  · omega
  · refine ⟨g, cap, e, hb, ⟨cur, hg⟩, hn, hm, fun k hk => ?_⟩
    have hc := h.cells (g := g) (by rw [e]; rfl) k
    rw [Addr.add_lit, Nat.zero_add] at hc
    by_cases h16 : k < 16
    · refine hc _ ?_
      unfold cg co
      rw [if_pos h16, if_pos h16, List.getElem?_append_left (by exact h16)]
      have := spots_at cb h16
      simpa using this
    · obtain rfl : k = 16 := by omega
      exact hc _ rfl
section
set_option maxHeartbeats 4000000
set_option maxRecDepth 100000
theorem confget_any (A : Option Addr) (n cp : Nat) (c : CfgA) (w : World) (hby : Byt w (.slice A n cp) (confB c)) (hc : CfgP c) :
    Calls Try.prog 25 #[.slice A n cp] w fun e w' => ∃ B m cb, e = .returned (.tuple #[.agg (cfgCells c (.slice B m cb)), .int .i64 0]) ∧ HintsAt w' B m cb c.h ∧ Only Non w w' ∧ ∀ k, ownB (.slice B m cb) k → w.heap.size ≤ k ∧ k < w'.heap.size := by
  have hlen := hby.len
  have hnl := hlen.1
  subst hnl
  have Hby := Lib.hid hby
  have HC := Lib.hid hc
  have hhl : c.h.length ≤ 8 := hc.hs.2.2
  clear hby hc hlen
  go_enter Try.func25, Try.ntmps25
  go_upto_region 2 with fail
  have HO1 := Lib.hid (show Only Non w ((w.alloc (.cells (cGot c 0) 25)).alloc (.cells (cGot c 0) 25)) from ((Only.refl Non w).alloc _).alloc _)
  have HR1 := Lib.hid ((Box.fresh w 25 (cGot c 0)).alloc (.cells (cGot c 0) 25))
  have HB1 := Lib.hid (show Box ((w.alloc (.cells (cGot c 0) 25)).alloc (.cells (cGot c 0) 25)) (w.heap.size + 1) 25 (cGot c 0) from by
    have := Box.fresh (w.alloc (.cells (cGot c 0) 25)) 25 (cGot c 0)
    rwa [show (w.alloc (.cells (cGot c 0) 25)).heap.size = w.heap.size + 1 from World.size_alloc _ _] at this)
  change Code.wp _ _ _ _ ((w.alloc (.cells (cGot c 0) 25)).alloc (.cells (cGot c 0) 25))
  generalize (w.alloc (.cells (cGot c 0) 25)).alloc (.cells (cGot c 0) 25) = W1 at *
  generalize hcb : w.heap.size + 1 = cb at *
  have Hcb := Lib.hid hcb
  clear hcb
  go_wp2_with fail
  refine (places_any cb W1).mono ?_
  rintro e w3 ⟨rfl, ho3⟩
  have HO3 := Lib.hid (HO1.out.trans ho3)
  have HR3 := Lib.hid (ho3.box HR1.out id)
  have HB3 := Lib.hid (ho3.box HB1.out id)
  have Hlt3 := Lib.hid (show w.heap.size < w3.heap.size ∧ cb < w3.heap.size from ⟨HR3.out.lt, HB3.out.lt⟩)
  clear ho3 HR1 HB1 HO1
  unfold spots
  go_upto_region 4 with fail
  have HA4 := Lib.hid ((Box.fresh w3 68 (spots cb)).alloc (.cells #[.int .i64 0] 3))
  have HM4 := Lib.hid (show Box ((w3.alloc (.cells (spots cb) 68)).alloc (.cells #[.int .i64 0] 3)) (w3.heap.size + 1) 3 #[.int .i64 0] from by
    have := Box.fresh (w3.alloc (.cells (spots cb) 68)) 3 #[.int .i64 0]
    rwa [show (w3.alloc (.cells (spots cb) 68)).heap.size = w3.heap.size + 1 from World.size_alloc _ _] at this)
  have HB4 := Lib.hid ((HB3.out.alloc (.cells (spots cb) 68)).alloc (.cells #[.int .i64 0] 3))
  have HR4 := Lib.hid ((HR3.out.alloc (.cells (spots cb) 68)).alloc (.cells #[.int .i64 0] 3))
  have HO4 := Lib.hid ((HO3.out.alloc (.cells (spots cb) 68)).alloc (.cells #[.int .i64 0] 3))
  change Code.wp _ _ _ _ ((w3.alloc (.cells (spots cb) 68)).alloc (.cells #[.int .i64 0] 3))
  generalize hW4 : (w3.alloc (.cells (spots cb) 68)).alloc (.cells #[.int .i64 0] 3) = W4 at *
  clear hW4
  generalize hmb : w3.heap.size + 1 = mb at *
  have Hmb := Lib.hid hmb
  clear hmb
  generalize hab : w3.heap.size = ab at *
  have Hab := Lib.hid hab
  clear hab
  obtain ⟨i0, hi, hz0, hz1, hz2⟩ := info_parts ptrInfo
  have Hi := Lib.hid (And.intro hi (And.intro hz0 (And.intro hz1 hz2)))
  clear hi hz0 hz1 hz2
  have HPr := Lib.hid (show ∀ b, some (⟨ab, 0, none⟩ : Addr) = some b → ∀ j u, (spots cb).toList[j]? = some u → (W4.alloc (.cells #[.pointer (some ⟨mb, 0, none⟩)] 64)).cell? (b.add j) = some u from fun b hb j u hj => by
    injection hb with hb
    subst hb
    rw [Addr.add_lit, Nat.zero_add]
    exact (HA4.out.alloc _).cellAt (by simpa using hj))
  have HPn := Lib.hid (show ∀ j u, [Value.pointer (some ⟨mb, 0, none⟩)][j]? = some u → (W4.alloc (.cells #[.pointer (some ⟨mb, 0, none⟩)] 64)).cell? ((⟨W4.heap.size, 0, none⟩ : Addr).add j) = some u from fun j u hj => by
    rw [Addr.add_lit, Nat.zero_add]
    exact (Box.fresh W4 _ _).cellAt (by simpa using hj))
  go_wp2_with (at_builtin; refine wpList_append_grows _ rfl (.tmp 15) (.tmp 16) 79 rfl 64 i0 (.pointer none) 1 8 Try.underlying79 Hi.out.1 Hi.out.2.1 Hi.out.2.2.1 Hi.out.2.2.2 rfl (by decide) (some ⟨ab, 0, none⟩) 16 16 (spots cb).toList rfl (by simp) rfl HPr.out ⟨W4.heap.size, 0, none⟩ 1 1 [.pointer (some ⟨mb, 0, none⟩)] rfl rfl HPn.out (by simp [Value.oneCell']) (by decide) (by decide) (by decide) ?_; intro v7 w7 hown7 hgrow7; have Hown7 := Lib.hid hown7; have Ho7 := Lib.hid (((Only.refl Non W4).alloc (.cells #[.pointer (some ⟨mb, 0, none⟩)] 64)).grown hgrow7 (by simp)); clear hown7 hgrow7)
  obtain ⟨g7, c7, e7, hg7, _, hc7, hm7, hp7⟩ := ptr_row Hown7.out
  have hbz : W4.heap.size < (W4.alloc (.cells #[.pointer (some ⟨mb, 0, none⟩)] 64)).heap.size := by rw [World.size_alloc]; omega
  have hmb4 := HM4.out.lt
  have hcb4 := HB4.out.lt
  have hg7c : ¬ (g7 = cb ∨ g7 = mb) := by omega
  have HP7 := Lib.hid hp7
  have Hg7 := Lib.hid hg7c
  have HBc7 := Lib.hid (Ho7.out.box HB4.out id)
  have HBm7 := Lib.hid (Ho7.out.box HM4.out id)
  have HBr7 := Lib.hid (Ho7.out.box HR4.out id)
  have HO7 := Lib.hid (HO4.out.trans Ho7.out)
  have hwcb : w.heap.size ≤ cb := by have := Hcb.out; omega
  have hwmb : w.heap.size ≤ mb := by have := Hmb.out; have := Hab.out; have := Hlt3.out.1; omega
  have hrcb : w.heap.size ≠ cb := by have := Hcb.out; omega
  have hrmb : w.heap.size ≠ mb := by have := Hmb.out; have := Hab.out; have := Hlt3.out.1; omega
  have hcmb : cb ≠ mb := by have := Hmb.out; have := Hab.out; have := Hlt3.out.2; omega
  unfold maxLen at hm7
  have HOx := Lib.hid (show ∀ wr, Only (fun b => b = cb ∨ b = mb) w7 wr → Only Non w wr from fun wr ho => HO7.out.trans' ho fun k hk => .inr (by rcases hk with rfl | rfl <;> assumption))
  have Hrng := Lib.hid (show ∀ k, k < (cNat c).length → (cNat c).getD k 0 < 2 ^ 63 from fun k hk => by
    by_cases h16 : k < 16
    · have hr := HC.out.range k h16
      have e : (cNat c).getD k 0 = (c.f k).toNat := by rcases (show k = 0 ∨ k = 1 ∨ k = 2 ∨ k = 3 ∨ k = 4 ∨ k = 5 ∨ k = 6 ∨ k = 7 ∨ k = 8 ∨ k = 9 ∨ k = 10 ∨ k = 11 ∨ k = 12 ∨ k = 13 ∨ k = 14 ∨ k = 15 from by omega) with rfl | rfl | rfl | rfl | rfl | rfl | rfl | rfl | rfl | rfl | rfl | rfl | rfl | rfl | rfl | rfl <;> rfl
      rw [e]; omega
    · obtain rfl : k = 16 := by have : k < 17 := hk; omega
      show c.h.length < 2 ^ 63
      omega)
  have HN := Lib.hid (numbers_any A (confB c).length cp (confB c) [] (hsB c.h c.h.length) (cNat c) (some ⟨g7, 0, none⟩) 17 c7 (cg cb mb) co (CgI c cb mb w7) w7 rfl (by decide) (by rw [cNat_cat]; rfl) Hrng.out ⟨HBc7.out, HBm7.out, Only.refl _ _⟩ (fun k wr hk hi => by
    have hk17 : k < 17 := hk
    refine ⟨Hby.out.only (HOx.out wr hi.2.2) fun _ _ => id, ⟨_, _, rfl, ?_⟩, ?_, ?_, ?_⟩
    · rw [Nat.zero_add]; exact hi.2.2.cell (HP7.out k hk17) Hg7.out
    · by_cases h16 : k < 16
      · obtain ⟨u, hu⟩ := cGot_some c h16 k
        exact ⟨u, by unfold cg co; rw [if_pos h16, if_pos h16]; exact hi.1.cellAt hu⟩
      · exact ⟨_, by unfold cg co; rw [if_neg h16, if_neg h16]; exact hi.2.1.cellAt rfl⟩
    · by_cases h16 : k < 16
      · unfold cg co; rw [if_pos h16, if_pos h16]; exact hi.1.free k
      · unfold cg co; rw [if_neg h16, if_neg h16]; exact hi.2.1.free 0
    · by_cases h16 : k < 16
      · unfold cg co; rw [if_pos h16, if_pos h16]
        refine ⟨by rw [← cGot_step c h16]; exact hi.1.store k _, ?_, hi.2.2.setCell (p := ⟨cb, k, none⟩) (.inl (.inl rfl)) _⟩
        have hb := hi.2.1.far (p := ⟨cb, k, none⟩) (fun e => hcmb e.symm) (.int .i64 ((cNat c).getD k 0 : Nat))
        rw [if_neg (by omega)] at hb
        rw [if_neg (by omega)]
        exact hb
      · obtain rfl : k = 16 := by omega
        refine ⟨hi.1.far (p := ⟨mb, 0, none⟩) hcmb _, hi.2.1.store 0 _, hi.2.2.setCell (p := ⟨mb, 0, none⟩) (.inl (.inr rfl)) _⟩))
  subst e7
  have Hoff := Lib.hid (show offN [] (cNat c) (cNat c).length = (confH c).length from by
    unfold offN; rw [List.take_length, cNat_cat]; exact Nat.zero_add _)
  rw [Hoff.out] at HN
  refine HN.out.mono ?_
  rintro e w8 ⟨rfl, hi8⟩
  have HO8 := Lib.hid (HOx.out w8 hi8.2.2)
  have HBc8 := Lib.hid (show Box w8 cb 25 (cfgCells c (.slice none 0 0)) from by have := hi8.1; rwa [cGot_all HC.out (show 16 ≤ (cNat c).length from by show 16 ≤ 17; decide)] at this)
  have HBm8 := Lib.hid (show Box w8 mb 3 #[.int .i64 c.h.length] from hi8.2.1)
  have HBr8 := Lib.hid (hi8.2.2.box HBr7.out (by omega))
  clear hi8 HN HOx HP7 Hg7 HBc7 HBm7 HBr7 hp7 hg7c HPr HPn Hown7 hbz hmb4 hcb4 HA4 HM4 HB4 HR4 HO4
  have y0 : w8.cell? ⟨mb, 0, none⟩ = some (.int .i64 c.h.length) := HBm8.out.cellAt rfl
  have h8 : ¬ (8 : Int) < c.h.length := by omega
  generalize hrb : w.heap.size = rb at *
  have Hrb := Lib.hid hrb
  clear hrb
  have HS := Lib.hid (show CgRel c cb rb w (.int .i64 (confH c).length) (.int .i64 0) w8 from ⟨0, .slice none 0 0, Nat.zero_le _, rfl, by rw [hsB_zero]; rfl, HBc8.out, HBr8.out, World.ownsRow_nil _ _ _ _, HO8.out⟩)
  have Hcl := Lib.hid (confH_len c)
  clear HO8 HBc8 HBr8
  go_wp2_with fail
  clear y0
  go_loopw [7, 31] (fun at_ i wr => CgRel c cb rb w at_ i wr) (fun _ i _ => c.h.length - (intOf i).toNat)
  case atStart => exact HS.out
  case round =>
    clear HS HBm8
    obtain ⟨k, hs, hk, rfl, rfl, hbc, hbr, hown, ho⟩ := hrel
    have HBc := Lib.hid hbc
    have HBr := Lib.hid hbr
    have Hown := Lib.hid hown
    have Ho := Lib.hid ho
    clear hbc hbr hown ho
    by_cases hlt : k < c.h.length
    · have hlti : (k : Int) < c.h.length := by omega
      have hsc := hsB_succ c.h hlt
      have hsp : confB c = (confH c ++ hsB c.h k) ++ (hintB (c.h.getD k default) ++ (c.h.drop (k + 1)).flatMap hintB) := by
        unfold confB hsB
        rw [List.take_length, List.append_assoc]
        congr 1
        have e1 : c.h.drop k = c.h.getD k default :: c.h.drop (k + 1) := by
          rw [List.drop_eq_getElem_cons hlt]
          congr 1
          simp [List.getD, hlt]
        have e : c.h = c.h.take k ++ (c.h.getD k default :: c.h.drop (k + 1)) := by rw [← e1, List.take_append_drop]
        conv => lhs; rw [e]
        rw [List.flatMap_append, List.flatMap_cons]
      have hnn := okH_nums HC.out.p2.2 (HC.out.hs.1 k hlt)
      have hok : (0 ≤ (c.h.getD k default).fr ∧ (c.h.getD k default).fr ≤ 2147483647) ∧ (0 ≤ (c.h.getD k default).size ∧ (c.h.getD k default).size ≤ 2147483647) ∧ (0 ≤ (c.h.getD k default).often ∧ (c.h.getD k default).often ≤ 2147483647) := ⟨hnn 0 (by decide), hnn 1 (by decide), hnn 2 (by decide)⟩
      have HH := Lib.hid (hint_any A (confB c).length cp (confB c) (confH c ++ hsB c.h k) _ (c.h.getD k default) wr (Hby.out.only Ho.out fun _ _ => id) hsp hok)
      rw [List.length_append] at HH
      have Hq := Lib.hid (show (confH c).length + (hsB c.h (k + 1)).length = (confH c).length + (hsB c.h k).length + (hintB (c.h.getD k default)).length from by rw [hsc, List.length_append]; omega)
      have Htk := Lib.hid (show (c.h.take (k + 1)).flatMap hCells = (c.h.take k).flatMap hCells ++ hCells (c.h.getD k default) from by
        rw [List.take_add_one, List.flatMap_append]
        simp [List.getD, hlt])
      have Hlt := Lib.hid hlt
      clear hsc hsp hnn hok
      generalize c.h.getD k default = hd at *
      generalize (confH c).length + (hsB c.h k).length + (hintB hd).length = q1 at *
      generalize (confH c).length + (hsB c.h k).length = q at *
      go_wp2_with fail
      refine HH.out.mono ?_
      rintro e wr5 ⟨rfl, ho5⟩
      have Ho5 := Lib.hid (Ho.out.transN ho5)
      have HBc5 := Lib.hid (ho5.box HBc.out id)
      have HBr5 := Lib.hid (ho5.box HBr.out id)
      have Hown5 := Lib.hid (ownsRow_only Hown.out ho5 fun _ _ => id)
      clear ho5 HH HBc HBr Hown Ho
      go_upto_region 12 with fail
      have HX := Lib.hid (Box.fresh wr5 66 #[.int .i64 hd.fr, .int .i64 hd.size, .int .i64 hd.often, .bool hd.loop])
      have HoX := Lib.hid (Ho5.out.alloc (.cells #[.int .i64 hd.fr, .int .i64 hd.size, .int .i64 hd.often, .bool hd.loop] 66))
      have HBcX := Lib.hid (HBc5.out.alloc (.cells #[.int .i64 hd.fr, .int .i64 hd.size, .int .i64 hd.often, .bool hd.loop] 66))
      have HBrX := Lib.hid (HBr5.out.alloc (.cells #[.int .i64 hd.fr, .int .i64 hd.size, .int .i64 hd.often, .bool hd.loop] 66))
      have HownX := Lib.hid (Hown5.out.alloc (.cells #[.int .i64 hd.fr, .int .i64 hd.size, .int .i64 hd.often, .bool hd.loop] 66))
      change Code.wp _ _ _ _ (wr5.alloc (.cells #[.int .i64 hd.fr, .int .i64 hd.size, .int .i64 hd.often, .bool hd.loop] 66))
      generalize wr5.alloc (.cells #[.int .i64 hd.fr, .int .i64 hd.size, .int .i64 hd.often, .bool hd.loop] 66) = X at *
      generalize hhb : wr5.heap.size = hb at *
      have Hhb := Lib.hid hhb
      clear hhb HBc5 HBr5 Hown5 Ho5
      have x0 : X.cell? ⟨hb, 0, none⟩ = some (.int .i64 hd.fr) := HX.out.cellAt rfl
      have x1 : X.cell? ⟨hb, 1, none⟩ = some (.int .i64 hd.size) := HX.out.cellAt rfl
      have x2 : X.cell? ⟨hb, 2, none⟩ = some (.int .i64 hd.often) := HX.out.cellAt rfl
      have x3 : X.cell? ⟨hb, 3, none⟩ = some (.bool hd.loop) := HX.out.cellAt rfl
      have y16 : X.cell? ⟨cb, 16, none⟩ = some hs := HBcX.out.cellAt (cfgCells_hs c _)
      have Hnc := Lib.hid (show ¬ ownB hs cb from fun h => by
        rcases HownX.out.2 with ⟨e, _⟩ | ⟨g, cap, cur, e, _, hg, _⟩
        · rw [e] at h; exact ownB_none h
        · rw [e] at h
          have : g = cb := ownB_slice.1 h
          subst this
          exact absurd (Box.same HBcX.out hg).1 (by decide))
      have Hnr := Lib.hid (show ¬ ownB hs rb from fun h => by
        rcases HownX.out.2 with ⟨e, _⟩ | ⟨g, cap, cur, e, _, hg, _⟩
        · rw [e] at h; exact ownB_none h
        · rw [e] at h
          have : g = rb := ownB_slice.1 h
          subst this
          exact absurd (Box.same HBrX.out hg).1 (by decide))
      have HcX := Lib.hid (show ∀ j u, (hCells hd)[j]? = some u → (X.alloc (.cells #[.int .i64 hd.fr, .int .i64 hd.size, .int .i64 hd.often, .bool hd.loop] 66)).cell? ((⟨X.heap.size, 0, none⟩ : Addr).add j) = some u from fun j u hj => by
        rw [Addr.add_lit, Nat.zero_add]
        exact (Box.fresh X 66 _).cellAt (by simpa [hCells] using hj))
      go_wp2_with (at_builtin; refine wpList_wide _ rfl (.tmp 45) (.tmp 47) 23 66 rfl hintInfo rfl (by decide) Try.underlying23 w.heap.size hs k _ (hCells hd) rfl (HownX.out.alloc _) ⟨X.heap.size, 0, none⟩ rfl rfl HcX.out (by simp [hCells, Value.oneCell']) (by unfold maxLen; omega) (by omega) (by rw [World.size_alloc]; have := HoX.out.size; omega) ?_; intro v9 w9 hown9 ho9 hob9; obtain ⟨A9, c9, e9, _, _⟩ := row_form hown9; subst e9; have Hown9 := Lib.hid hown9; have HBc9 := Lib.hid (ho9.box (HBcX.out.alloc _) Hnc.out); have HBr9 := Lib.hid (ho9.box (HBrX.out.alloc _) Hnr.out); have Ho9 := Lib.hid ((HoX.out.alloc _).trans' ho9 fun b hb => .inr ((HownX.out.lt b hb).1)); have y9 : w9.cell? ⟨cb, 16, none⟩ = some hs := HBc9.out.cellAt (cfgCells_hs c _); have f9 : w9.frozen? ⟨cb, 16, none⟩ = false := HBc9.out.free 16; clear hown9 ho9 hob9)
      have HRR := Lib.hid (show CgRel c cb rb w (.int .i64 (q1 : Nat)) (.int .i64 ((k : Int) + 1)) (w9.setCell ⟨cb, 16, none⟩ (.slice A9 (k + 1) c9)) from ⟨k + 1, .slice A9 (k + 1) c9, Hlt.out, by simp, by rw [Hq.out], HBc9.out.store 16 _, HBr9.out.far hrcb _, by
        rw [Htk.out]
        exact ownsRow_only Hown9.out ((Only.refl (Just cb) w9).setCell (p := ⟨cb, 16, none⟩) (.inl rfl) _) fun g hg hgc => by
          subst hgc
          rcases Hown9.out.2 with ⟨_, h0⟩ | ⟨g2, cap, cur, e, _, hg2, _⟩
          · omega
          · rw [e] at hg
            have : g2 = g := ownB_slice.1 hg
            subst this
            exact absurd (Box.same HBc9.out hg2).1 (by decide), Ho9.out.setCell (.inr (by rw [Hrb.out]; exact hwcb)) _⟩)
      refine ⟨?_, ?_⟩
      · (repeat first | exact ⟨HRR.out, rfl⟩ | exact HRR.out | apply Exists.intro)
      · simp [intOf]; omega
    · obtain rfl : k = c.h.length := by omega
      rw [List.take_length] at Hown
      obtain ⟨Ah, ch, ehs, hHA⟩ := hints_of_row Hown.out
      subst ehs
      have HHA := Lib.hid hHA
      have hnc := hHA.cap
      have hcm := hHA.max
      unfold maxLen at hcm
      have Hq := Lib.hid (show (confH c).length + (hsB c.h c.h.length).length = (confB c).length from by unfold confB; rw [List.length_append])
      rw [Hq.out]
      have HRt := Lib.hid (right_any Ah c.h.length ch c wr hHA)
      rw [cfgB_yes HC.out] at HRt
      clear hHA hlt hk
      have Hown' := Lib.hid Hown.out
      generalize (confB c).length = L at *
      go_wp2_with (refine wpList_load_row rfl 25 _ rfl cb rfl 25 (cfgCells c (.slice Ah c.h.length ch)) (0, 0) _ HBc.out Try.underlying25 rfl (by kernel_rfl) ?_)
      refine HRt.out.mono ?_
      rintro e wr5 ⟨rfl, ho5⟩
      have Ho5 := Lib.hid (Ho.out.transN ho5)
      have HBc5 := Lib.hid (ho5.box HBc.out id)
      have HBr5 := Lib.hid (ho5.box HBr.out id)
      have Hown5 := Lib.hid (ownsRow_only Hown'.out ho5 fun _ _ => id)
      clear ho5
      go_wp2_with (first
        | (refine wpList_load_row rfl 25 _ rfl cb rfl 25 (cfgCells c (.slice Ah c.h.length ch)) (0, 0) _ HBc5.out Try.underlying25 rfl (by kernel_rfl) ?_)
        | (refine wpList_store_row rfl 25 _ _ rfl rb (cfgCells c (.slice Ah c.h.length ch)) rfl rfl 25 _ HBr5.out (by kernel_rfl) rfl (cfg_one c Ah c.h.length ch) ?_))
      have ho9 := Ho5.out.setRow (g := rb) (.inr (by rw [Hrb.out]; exact Nat.le_refl _)) (cfgCells c (.slice Ah c.h.length ch))
      have hj9 := (Only.refl (Just rb) wr5).setRow (g := rb) (.inl rfl) (cfgCells c (.slice Ah c.h.length ch))
      obtain ⟨A', c', e', hh9⟩ := hints_of_row (ownsRow_only Hown5.out hj9 (fun g hg he => by
        have he : g = rb := he
        subst he
        rcases Hown5.out.2 with ⟨e, _⟩ | ⟨g2, cap, cur, e, _, hg2, _⟩
        · rw [e] at hg; exact ownB_none hg
        · rw [e] at hg
          have : g2 = g := ownB_slice.1 hg
          subst this
          exact absurd (Box.same HBr5.out hg2).1 (by decide)))
      injection e' with e1 e2 e3
      subst e1 e3
      (try simp only [Exit.inBlock, Exit.then])
      refine bodyPost_ret (results_row_tmp rfl _ _ rb _ _ _ rfl (HBr5.out.setRow _) Try.underlying25 rfl (by kernel_rfl)) rfl ?_
      exact ⟨Ah, c.h.length, ch, rfl, hh9, ho9, fun k hk => ⟨(World.ownsRow.lt Hown5.out k hk).1, Nat.lt_of_lt_of_le (World.ownsRow.lt Hown5.out k hk).2 hj9.size⟩⟩
end
end Go.Proofs.Ytaofjnpmnaohcaa
