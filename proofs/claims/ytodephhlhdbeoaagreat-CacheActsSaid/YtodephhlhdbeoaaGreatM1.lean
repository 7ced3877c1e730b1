/- Several texts, one behind the other: Lib Set Rws MapI Owa RetC. -/
import Derived.WalkKit
import Derived.Below
import Derived.Laws.OwnMore
import Derived.Deep.Draws
import Derived.Laws.Rows
import Derived.Lib.Hide
import Derived.ChangeKeysEq
import Derived.WalkSpells
import Derived.Maps.AppendAt
import Derived.Laws.Tables
import Derived.ArgAppend
import Derived.Maps.Keyed
import Derived.Maps.OwnOps
import Derived.MapKept
import Derived.Carry
namespace Go.Proofs.YtodephhlhdbeoaaGreat
open Go.RowKit

def Box (w : World) (g : Nat) (t : TypeId) (cs : Array Value) : Prop := w.heap[g]? = some (.cells cs t (0, 0))

section
variable {w w' : World} {g : Nat} {t : TypeId} {cs : Array Value}
theorem Box.lt (h : Box w g t cs) : g < w.heap.size := (Array.getElem?_eq_some_iff.1 h).1
theorem Box.cell (h : Box w g t cs) (i : Nat) : w.cell? ⟨g, i, none⟩ = cs[i]? := cell_of_row w g i cs t (0, 0) h
theorem Box.cellAt (h : Box w g t cs) {i : Nat} {v : Value} (hv : cs[i]? = some v) : w.cell? ⟨g, i, none⟩ = some v := (h.cell i).trans hv
theorem Box.free (h : Box w g t cs) (i : Nat) : w.frozen? ⟨g, i, none⟩ = false := by
  unfold Box at h; simp [World.frozen?, h]
theorem Box.fresh (w : World) (t : TypeId) (cs : Array Value) : Box (w.alloc (.cells cs t)) w.heap.size t cs := heap_alloc_new w _
theorem Box.drew (h : Box w g t cs) : Box w.drew g t cs := h
theorem Box.drewN (h : Box w g t cs) (n : Nat) : Box (w.drewN n) g t cs := h
theorem Box.alloc (h : Box w g t cs) (o : Obj) : Box (w.alloc o) g t cs := (Below.heap_alloc w o g h.lt).trans h
theorem Box.store (h : Box w g t cs) (i : Nat) (u : Value) : Box (w.setCell ⟨g, i, none⟩ u) g t (cs.setIfInBounds i u) := by
  unfold Box at h ⊢; simp [World.setCell, Array.getElem?_modify, h]
theorem Box.far (h : Box w g t cs) {p : Addr} (hp : g ≠ p.block) (u : Value) : Box (w.setCell p u) g t cs := (Below.heap_setCell w p u g hp).trans h
theorem Box.same {t' : TypeId} {cs' : Array Value} (h : Box w g t cs) (h' : Box w g t' cs') : t = t' ∧ cs = cs' := by
  unfold Box at h h'; rw [h] at h'; injection h' with h'; injection h' with a b; exact ⟨b, a⟩
theorem Box.off {t' g' : Nat} {cs' : Array Value} (h : Box w g t cs) (h' : Box w g' t' cs') (hne : t ≠ t') : g ≠ g' := by
  rintro rfl; exact hne (h.same h').1
end

theorem quiet_l {P : Program} {f : FuncId} {args : Array Value} {w : World} {n : Nat} {v : Value}
    (h : Calls P f args (w.drewN n) fun e w' => e = .returned v ∧ w.drewN n = w') : Calls P f args (w.drewN n) fun e w'' => e = .returned v ∧ ∃ m, w'' = w.drewN m :=
  h.mono fun _ _ ⟨he, hm⟩ => ⟨he, n, hm.symm⟩
theorem quiet_d {P : Program} {f : FuncId} {args : Array Value} {w : World} {n : Nat} {v : Value}
    (h : Calls P f args (w.drewN n) fun e w' => e = .returned v ∧ ∃ k, w' = (w.drewN n).drewN k) : Calls P f args (w.drewN n) fun e w'' => e = .returned v ∧ ∃ m, w'' = w.drewN m :=
  h.mono fun _ _ ⟨he, k, hm⟩ => ⟨he, n + k, by rw [hm, World.drewN_drewN]⟩

structure Only (S : Nat → Prop) (w w' : World) : Prop where
  os : w'.os = w.os
  tape : w'.tape = w.tape
  output : w'.output = w.output
  size : w.heap.size ≤ w'.heap.size
  block : ∀ k, k < w.heap.size → ¬ S k → w'.heap[k]? = w.heap[k]?

def Non : Nat → Prop := fun _ => False
def Just (b : Nat) : Nat → Prop := fun k => k = b

section
variable {S S' : Nat → Prop} {a w w' w'' : World}
theorem Only.refl (S : Nat → Prop) (w : World) : Only S w w := ⟨rfl, rfl, rfl, Nat.le_refl _, fun _ _ _ => rfl⟩
theorem Only.trans' (h : Only S a w) (k : Only S' w w') (hs : ∀ b, S' b → S b ∨ a.heap.size ≤ b) : Only S a w' :=
  ⟨k.os.trans h.os, k.tape.trans h.tape, k.output.trans h.output, Nat.le_trans h.size k.size, fun i hi hn =>
    (k.block i (Nat.lt_of_lt_of_le hi h.size) (fun hb => (hs i hb).elim hn (fun h => by omega))).trans (h.block i hi hn)⟩
theorem Only.trans (h : Only S a w) (k : Only S w w') : Only S a w' := h.trans' k fun _ h => .inl h
theorem Only.transN (h : Only S a w) (k : Only Non w w') : Only S a w' := h.trans' k fun _ h => h.elim
theorem Only.mono (h : Only S w w') (hs : ∀ b, S b → S' b ∨ w.heap.size ≤ b) : Only S' w w' :=
  ⟨h.os, h.tape, h.output, h.size, fun k hk hn => h.block k hk (fun hb => (hs k hb).elim hn (fun h => by omega))⟩
theorem Only.drew (h : Only S a w) : Only S a w.drew := ⟨h.os, h.tape, h.output, h.size, h.block⟩
theorem Only.drewN (h : Only S a w) (n : Nat) : Only S a (w.drewN n) := ⟨h.os, h.tape, h.output, h.size, h.block⟩
theorem Only.alloc (h : Only S a w) (o : Obj) : Only S a (w.alloc o) :=
  h.trans ⟨rfl, rfl, rfl, by simp, fun k hk _ => Below.heap_alloc _ _ _ hk⟩
theorem Only.setCell (h : Only S a w) {p : Addr} (hp : S p.block ∨ a.heap.size ≤ p.block) (u : Value) : Only S a (w.setCell p u) :=
  h.trans' (S' := Just p.block) ⟨rfl, rfl, rfl, by simp [World.setCell], fun k _ hk => Below.heap_setCell _ _ _ _ hk⟩ (by rintro _ rfl; exact hp)
theorem Only.grown (h : Only S a w) {row : Option Nat} (hg : w.grownBy w' row) (hr : ∀ k, row = some k → S k ∨ a.heap.size ≤ k) : Only S a w' :=
  h.trans' (S' := fun k => row = some k) ⟨hg.os, hg.tape, hg.output, hg.size, fun k hk hn => hg.block k hk (fun e => hn e.symm)⟩ hr
theorem Only.below (h : Only S a w) {B : Nat} (hs : ∀ k, S k → B ≤ k) (hB : B ≤ a.heap.size) : Below B a w :=
  ⟨h.os, h.tape, h.output, h.size, fun k hk => h.block k (by omega) (fun e => by have := hs k e; omega)⟩
theorem Only.of_below (h : Below a.heap.size a w) : Only S a w := ⟨h.os, h.tape, h.output, h.size, fun k hk _ => h.block k hk⟩
theorem Only.box {g : Nat} {t : TypeId} {cs : Array Value} (h : Only S a w) (hb : Box a g t cs) (hn : ¬ S g) : Box w g t cs := (h.block g hb.lt hn).trans hb
theorem Only.cell (h : Only S a w) {p : Addr} {v : Value} (hc : a.cell? p = some v) (hn : ¬ S p.block) : w.cell? p = some v :=
  (World.cell?_of_block (h.block p.block (World.block_lt_of_cell? a p hc) hn)).trans hc
end

def IntsAt (w : World) (v : Value) (l : List Int) : Prop :=
  ∃ A c, v = .slice A l.length c ∧ l.length ≤ c ∧ c ≤ maxLen ∧ ∀ i, i < l.length → ∃ g o, A = some ⟨g, o, none⟩ ∧ w.cell? ⟨g, o + i, none⟩ = some (.int .i64 (l.getD i 0))

def OwnInts (t : TypeId) (w : World) (base : Nat) (v : Value) (l : List Int) : Prop := w.ownsRow base t 1 v l.length (l.map (Value.int .i64))

theorem OwnInts.at {t : TypeId} {w : World} {base : Nat} {v : Value} {l : List Int} (h : OwnInts t w base v l) : IntsAt w v l := by
  obtain ⟨h1, h2⟩ := h
  rcases h2 with ⟨rfl, h0⟩ | ⟨g, cap, cur, rfl, hb, hg, hn, hm, hs, ht⟩
  · have hl : l = [] := List.eq_nil_of_length_eq_zero h0
    subst hl
    exact ⟨none, 0, rfl, Nat.le_refl _, Nat.zero_le _, by simp⟩
  · refine ⟨some ⟨g, 0, none⟩, cap, rfl, hn, hm, fun i hi => ⟨g, 0, rfl, ?_⟩⟩
    rw [Nat.zero_add, cell_of_row w g i cur t (0, 0) hg]
    have : (cur.toList.take (l.length * 1))[i]? = some (.int .i64 (l.getD i 0)) := by
      rw [ht]; simp [hi]
    rw [List.getElem?_take, if_pos (by omega)] at this
    simpa using this

theorem IntsAt.keep {S : Nat → Prop} {w w' : World} {v : Value} {l : List Int} (h : IntsAt w v l) (ho : Only S w w') (hn : ∀ g o n c, v = .slice (some ⟨g, o, none⟩) n c → ¬ S g) : IntsAt w' v l := by
  obtain ⟨A, c, rfl, h1, h2, h3⟩ := h
  refine ⟨A, c, rfl, h1, h2, fun i hi => ?_⟩
  obtain ⟨g, o, rfl, hc⟩ := h3 i hi
  exact ⟨g, o, rfl, ho.cell hc (hn g o _ _ rfl)⟩

def ownB (v : Value) : Nat → Prop := fun g => v.ownBlock = some g

theorem wpList_push {P : Program} (w : World) {ops : Array Oper} {rest : List Oper} {o : Oper} {a : Act} {Q : Exit → Act → World → Prop} (hgd : o.guard = none) (s x : Operand) (t e : TypeId)
    (ho : o.op = .call { callee := .builtin .append, args := #[s, x], argTypes := #[t, t] }) {z : Value} {bytes : Nat}
    (hinfo : (P.info? e).map (fun i => (i.zero, i.size, i.bytes)) = some (some z, 1, bytes)) (hzs : z.cells.size = 1) (ht : P.underlying t = some (.slice e))
    (base : Nat) (v : Value) (n : Nat) (xs : List Value) (u : Value) (hs : a.eval s = v) (hown : w.ownsRow base e 1 v n xs) (ad : Addr) (hx : a.eval x = .slice (some ad) 1 1)
    (hcell : w.cell? ad = some u) (h1 : u.oneCell' = true) (hlen : n + 1 ≤ maxLen) (hbytes : (n + 1) * bytes ≤ 140737488355328) (hbase : base ≤ w.heap.size)
    (h : ∀ v' w', w'.ownsRow base e 1 v' (n + 1) (xs ++ [u]) → Only (ownB v) w w' → (v'.ownBlock = v.ownBlock ∨ v'.ownBlock = some w.heap.size) → wpList P ops Q rest (a.put o.dst v') w') :
    wpList P ops Q (o :: rest) a w := by
  obtain ⟨i0, hi, hz0, hz1, hz2⟩ := info_parts hinfo
  refine wpList_append_own_at w hgd s x t ho base e i0 z 1 bytes ht hi hz0 hz1 hz2 hzs (by decide) v n xs hs hown ad 1 1 [u] hx rfl (fun j u' hj => ?_) (by simpa using h1) hlen hbytes hbase
    (fun v' w' h2 h3 _ h5 => h v' w' h2 ((Only.refl _ _).grown h3 fun k hk => .inl hk) h5)
  match j, hj with
  | 0, hj => simp only [List.getElem?_cons_zero, Option.some.injEq] at hj; subst hj; exact hcell

theorem wpList_pushInt {P : Program} (w : World) {ops : Array Oper} {rest : List Oper} {o : Oper} {a : Act} {Q : Exit → Act → World → Prop} (hgd : o.guard = none) (s x : Operand) (t e : TypeId)
    (ho : o.op = .call { callee := .builtin .append, args := #[s, x], argTypes := #[t, t] })
    (hinfo : (P.info? e).map (fun i => (i.zero, i.size, i.bytes)) = some (some (.int .i64 0), 1, 8)) (ht : P.underlying t = some (.slice e))
    (base : Nat) (v : Value) (l : List Int) (k : Int) (hs : a.eval s = v) (hown : OwnInts e w base v l) (ad : Addr) (hx : a.eval x = .slice (some ad) 1 1)
    (hcell : w.cell? ad = some (.int .i64 k)) (hlen : l.length ≤ 1000000) (hbase : base ≤ w.heap.size)
    (h : ∀ v' w', OwnInts e w' base v' (l ++ [k]) → Only (ownB v) w w' → wpList P ops Q rest (a.put o.dst v') w') :
    wpList P ops Q (o :: rest) a w :=
  wpList_push w hgd s x t e ho hinfo rfl ht base v l.length (l.map (Value.int .i64)) (.int .i64 k) hs hown ad hx hcell rfl (by unfold maxLen; omega) (by omega) hbase
    (fun v' w' h2 h3 _ => h v' w' (by unfold OwnInts; simpa using h2) h3)

theorem OwnInts.alloc {e : TypeId} {w : World} {base : Nat} {v : Value} {l : List Int} (h : OwnInts e w base v l) (o : Obj) : OwnInts e (w.alloc o) base v l := World.ownsRow.alloc h o
theorem OwnInts.lt {e : TypeId} {w : World} {base : Nat} {v : Value} {l : List Int} (h : OwnInts e w base v l) : ∀ k, ownB v k → base ≤ k ∧ k < w.heap.size := World.ownsRow.lt h
theorem ownsRow_only {w w' : World} {base : Nat} {e : TypeId} {size : Nat} {v : Value} {n : Nat} {xs : List Value} {S : Nat → Prop} (h : w.ownsRow base e size v n xs) (ho : Only S w w') (hn : ∀ g, ownB v g → ¬ S g) : w'.ownsRow base e size v n xs := by
  refine ⟨h.1, ?_⟩
  rcases h.2 with h2 | ⟨g, cap, cur, hv, hg, hh, r⟩
  · exact .inl h2
  · exact .inr ⟨g, cap, cur, hv, hg, (ho.block g (Array.getElem?_eq_some_iff.1 hh).1 (hn g (by rw [hv]; rfl))).trans hh, r⟩
theorem OwnInts.only {w w' : World} {base : Nat} {e : TypeId} {v : Value} {l : List Int} {S : Nat → Prop} (h : OwnInts e w base v l) (ho : Only S w w') (hn : ∀ g, ownB v g → ¬ S g) : OwnInts e w' base v l := ownsRow_only h ho hn
theorem OwnInts.nil (e : TypeId) (w : World) (base : Nat) : OwnInts e w base (.slice none 0 0) [] := World.ownsRow_nil _ _ _ _
theorem run_loadVar_list {P : Program} (w : World) (a : Addr) (ty : TypeId) (cs : List Value) (d : TypeDesc) (hcell : ∀ j v, cs[j]? = some v → w.cell? (a.add j) = some v)
    (hu : P.underlying ty = some d) (hd : (match d with | .struct _ | .array _ _ => true | _ => false) = true) (hi : (P.info? ty).map (·.size) = some cs.length) :
    (loadVar ty a).run P w = .ok (.agg cs.toArray) w := by
  have hl := run_loadCells_list (P := P) w a cs hcell
  cases hq : P.info? ty with
  | none => simp [hq] at hi
  | some i =>
    have hs : i.size = cs.length := by simpa [hq] using hi
    have hagg : (isAgg ty).run P w = .ok true w := by
      unfold isAgg
      rw [Sem.run_bind, run_underlying hu w]
      cases d <;> simp_all
    simp [loadVar, Sem.run_bind, hagg, sizeOf, typeInfo, hq, hs, hl]
theorem wpList_load_list {P : Program} {ops : Array Oper} {rest : List Oper} {o : Oper} {a : Act} {w : World} {Q : Exit → Act → World → Prop} (hgd : o.guard = none) (ty : TypeId) (x : Operand) (ho : o.op = .load ty x)
    (g : Addr) (hx : a.eval x = .pointer (some g)) (cs : List Value) (d : TypeDesc) (hcell : ∀ j v, cs[j]? = some v → w.cell? (g.add j) = some v)
    (hu : P.underlying ty = some d) (hd : (match d with | .struct _ | .array _ _ => true | _ => false) = true) (hi : (P.info? ty).map (·.size) = some cs.length)
    (h : wpList P ops Q rest (a.put o.dst (.agg cs.toArray)) w) : wpList P ops Q (o :: rest) a w :=
  wpList_plain hgd fun K hK => by
    have hr := run_loadVar_list (P := P) w g ty cs d hcell hu hd hi
    unfold Oper.wp execOp
    simp only [ho, hx, Instr.loadAt, Instr.sureAddr, Sem.run_bind, Sem.run_pure, Result.andThen_ok, hr]
    exact hK _ _ h
theorem run_index_agg {P : Program} (w : World) (t e : TypeId) (n : Nat) (cs : Array Value) (k : IntKind) (i : Int) (v : Value) (ht : P.underlying t = some (.array n e))
    (hp : P.plainKey e = true) (hs : (P.info? e).map (·.size) = some 1) (h0 : 0 ≤ i) (h1 : i < n) (hv : cs[i.toNat]? = some v) : (Instr.index t (.agg cs) (.int k i)).run P w = .ok v w := by
  cases hq : P.info? e with
  | none => simp [hq] at hs
  | some d =>
    have hsz : d.size = 1 := by simpa [hq] using hs
    have hpt := run_part_plain (w := w) hp hv
    simp [Instr.index, asIntOf, run_underlying ht, h0, h1, sizeOf, typeInfo, hq, hsz, hpt]
theorem OwnInts.shape {t : TypeId} {w : World} {base : Nat} {v : Value} {l : List Int} (h : OwnInts t w base v l) : ∃ A c, v = .slice A l.length c ∧ l.length ≤ c ∧ c ≤ maxLen := by
  obtain ⟨A, c, h1, h2, h3, _⟩ := h.at
  exact ⟨A, c, h1, h2, h3⟩
theorem IntsAt.cellAt {w : World} {A : Option Addr} {n c : Nat} {l : List Int} (h : IntsAt w (.slice A n c) l) {i : Nat} (hi : i < l.length) :
    ∃ g o, A = some ⟨g, o, none⟩ ∧ w.cell? ⟨g, o + i, none⟩ = some (.int .i64 (l.getD i 0)) := by
  obtain ⟨A', c', e, _, _, h3⟩ := h
  injection e with e1 e2 e3
  subst e1
  exact h3 i hi
theorem IntsAt.len {w : World} {A : Option Addr} {n c : Nat} {l : List Int} (h : IntsAt w (.slice A n c) l) : n = l.length := by
  obtain ⟨A', c', e, _, _, h3⟩ := h
  injection e
theorem Box.setRow' {w : World} {g : Nat} {t : TypeId} {cs : Array Value} (h : Box w g t cs) (cs' : Array Value) : Box (w.setRow g cs') g t cs' := setRow_heap w g cs cs' t (0, 0) h
theorem Only.setRow' {S : Nat → Prop} {a w : World} (h : Only S a w) {g : Nat} (hg : S g ∨ a.heap.size ≤ g) (cs : Array Value) : Only S a (w.setRow g cs) :=
  ⟨h.os, h.tape, h.output, by simpa [World.setRow] using h.size, fun k hk hn => by
    rw [setRow_other w g k cs (fun e => by subst e; exact hg.elim hn fun h => by omega)]
    exact h.block k hk hn⟩
end Go.Proofs.YtodephhlhdbeoaaGreat
namespace Go.Proofs.YtodephhlhdbeoaaGreat
open Go.RowKit
set_option linter.unusedVariables false
set_option linter.unusedSimpArgs false
theorem wpList_wide {P : Program} (w : World) {ops : Array Oper} {rest : List Oper} {o : Oper} {a : Act} {Q : Exit → Act → World → Prop} (hgd : o.guard = none) (s x : Operand) (t e : TypeId)
    (ho : o.op = .call { callee := .builtin .append, args := #[s, x], argTypes := #[t, t] }) {z : Value} {size bytes : Nat}
    (hinfo : (P.info? e).map (fun i => (i.zero, i.size, i.bytes)) = some (some z, size, bytes)) (hzs : z.cells.size = size) (hsz : 0 < size) (ht : P.underlying t = some (.slice e))
    (base : Nat) (v : Value) (n : Nat) (xs : List Value) (cs : List Value) (hs : a.eval s = v) (hown : w.ownsRow base e size v n xs) (ad : Addr) (hx : a.eval x = .slice (some ad) 1 1)
    (hcl : cs.length = size) (hcell : ∀ j u, cs[j]? = some u → w.cell? (ad.add j) = some u) (h1 : ∀ u ∈ cs, u.oneCell' = true) (hlen : n + 1 ≤ maxLen) (hbytes : (n + 1) * bytes ≤ 140737488355328) (hbase : base ≤ w.heap.size)
    (h : ∀ v' w', w'.ownsRow base e size v' (n + 1) (xs ++ cs) → Only (ownB v) w w' → (v'.ownBlock = v.ownBlock ∨ v'.ownBlock = some w.heap.size) → wpList P ops Q rest (a.put o.dst v') w') :
    wpList P ops Q (o :: rest) a w := by
  obtain ⟨i0, hi, hz0, hz1, hz2⟩ := info_parts hinfo
  exact wpList_append_own_at w hgd s x t ho base e i0 z size bytes ht hi hz0 hz1 hz2 hzs hsz v n xs hs hown ad 1 1 cs hx (by omega) hcell h1 hlen hbytes hbase
    (fun v' w' h2 h3 _ h5 => h v' w' h2 ((Only.refl _ _).grown h3 fun k hk => .inl hk) h5)
theorem step_wide {P : Program} (w : World) {ops : Array Oper} {o : Oper} {a : Act} {K : Act → World → Prop} {Q : Exit → Act → World → Prop} {E : Prop} (hgd : o.guard = none) (s x : Operand) (t e : TypeId)
    (ho : o.op = .call { callee := .builtin .append, args := #[s, x], argTypes := #[t, t] }) {z : Value} {size bytes : Nat}
    (hinfo : (P.info? e).map (fun i => (i.zero, i.size, i.bytes)) = some (some z, size, bytes)) (hzs : z.cells.size = size) (hsz : 0 < size) (ht : P.underlying t = some (.slice e))
    (base : Nat) (v : Value) (n : Nat) (xs : List Value) (cs : List Value) (hs : a.eval s = v) (hown : w.ownsRow base e size v n xs) (ad : Addr) (hx : a.eval x = .slice (some ad) 1 1)
    (hcl : cs.length = size) (hcell : ∀ j u, cs[j]? = some u → w.cell? (ad.add j) = some u) (h1 : ∀ u ∈ cs, u.oneCell' = true) (hlen : n + 1 ≤ maxLen) (hbytes : (n + 1) * bytes ≤ 140737488355328) (hbase : base ≤ w.heap.size)
    (h : ∀ v' w', w'.ownsRow base e size v' (n + 1) (xs ++ cs) → Only (ownB v) w w' → (v'.ownBlock = v.ownBlock ∨ v'.ownBlock = some w.heap.size) → K (a.put o.dst v') w') :
    if Region.wanted o (yielded ops a.tmps) = true then Oper.wp P o a w K Q else E := by
  have hw : Region.wanted o (yielded ops a.tmps) = true := by simp [Region.wanted, hgd]
  rw [if_pos hw]
  obtain ⟨i0, hi, hz0, hz1, hz2⟩ := info_parts hinfo
  obtain ⟨v', w', hr, h2, h3, h4, h5⟩ := run_append_own_at (P := P) w base t o.type e i0 z size bytes ht hi hz0 hz1 hz2 hzs hsz v n xs hown ad 1 1 cs (by omega) hcell h1 hlen hbytes hbase
  unfold Oper.wp execOp
  simp only [ho, resolve, invoke, builtin, Sem.run_bind, Sem.run_pure, Result.andThen_ok, List.map_toArray, List.map_cons, List.map_nil, hs, hx, hr]
  exact h v' w' h2 ((Only.refl _ _).grown h3 fun k hk => .inl hk) h5
theorem row_form {w : World} {base : Nat} {e : TypeId} {size : Nat} {v : Value} {n : Nat} {xs : List Value} (h : w.ownsRow base e size v n xs) : ∃ A c, v = .slice A n c ∧ n ≤ c ∧ c ≤ maxLen := by
  rcases h.2 with ⟨rfl, rfl⟩ | ⟨g, cap, cur, rfl, _, _, hn, hm, _⟩
  · exact ⟨none, 0, rfl, Nat.le_refl _, Nat.zero_le _⟩
  · exact ⟨_, cap, rfl, hn, hm⟩
theorem ownsRow_cell {w : World} {base : Nat} {e : TypeId} {size : Nat} {v : Value} {n : Nat} {xs : List Value} (h : w.ownsRow base e size v n xs) (hn : 0 < n) : ∃ g c, v = .slice (some ⟨g, 0, none⟩) n c ∧ base ≤ g ∧ g < w.heap.size ∧ ∀ j u, xs[j]? = some u → w.cell? ⟨g, j, none⟩ = some u := by
  rcases h.2 with ⟨rfl, h0⟩ | ⟨g, cap, cur, rfl, hb, hg, hn2, hm, hs, ht⟩
  · omega
  · refine ⟨g, cap, rfl, hb, (Array.getElem?_eq_some_iff.1 hg).1, fun j u hj => ?_⟩
    have := h.cells (g := g) rfl j u hj
    rw [Addr.add_lit, Nat.zero_add] at this
    exact this
theorem cells_new (w : World) (cs : List Value) (t : TypeId) : ∀ j u, cs[j]? = some u → (w.alloc (.cells cs.toArray t)).cell? ((⟨w.heap.size, 0, none⟩ : Addr).add j) = some u := by
  intro j u hj
  rw [Addr.add_lit, Nat.zero_add]
  exact (Box.fresh w t cs.toArray).cellAt (by simpa using hj)
end Go.Proofs.YtodephhlhdbeoaaGreat
namespace Go.Proofs.YtodephhlhdbeoaaGreat
open Go.RowKit Go.MapKept Go.Maps
set_option linter.unusedVariables false
set_option linter.unusedSimpArgs false
def I64 (k : Int) : Prop := -9223372036854775808 ≤ k ∧ k ≤ 9223372036854775807
theorem I64.wf {k : Int} (h : I64 k) : (Lit.int .i64 k).wf = true := by
  obtain ⟨h1, h2⟩ := h
  simp [Lit.wf, IntKind.min, IntKind.max, IntKind.signed, IntKind.bits]
  omega
theorem I64.of {k : Int} (h : (Lit.int .i64 k).wf = true) : I64 k := by
  simp [Lit.wf, IntKind.min, IntKind.max, IntKind.signed, IntKind.bits] at h
  exact ⟨by omega, by omega⟩
def MapI (w : World) (mb : Nat) (F : Int → Option Value) : Prop :=
  ∃ es clock, w.heap[mb]? = some (.map es clock) ∧ Stamped es clock ∧ (∀ e ∈ es.toList, ∃ k, I64 k ∧ e.key = .int .i64 k ∧ F k = some e.val) ∧ ∀ k v, F k = some v → ∃ e ∈ es.toList, e.key = .int .i64 k
def fSet (F : Int → Option Value) (k : Int) (v : Value) : Int → Option Value := fun x => if x = k then some v else F x
def fDel (F : Int → Option Value) (k : Int) : Int → Option Value := fun x => if x = k then none else F x
theorem fSet_self (F : Int → Option Value) (k : Int) (v : Value) : fSet F k v k = some v := by simp [fSet]
theorem fSet_ne (F : Int → Option Value) {k x : Int} (v : Value) (h : x ≠ k) : fSet F k v x = F x := by simp [fSet, h]
section
variable {P : Program} {w w' : World} {mb : Nat} {F : Int → Option Value} {mt kt et : TypeId}
theorem MapI.lt (h : MapI w mb F) : mb < w.heap.size := by
  obtain ⟨es, clock, hb, _⟩ := h
  exact (Array.getElem?_eq_some_iff.1 hb).1
theorem MapI.only {S : Nat → Prop} (h : MapI w mb F) (ho : Only S w w') (hn : ¬ S mb) : MapI w' mb F := by
  obtain ⟨es, clock, hb, h1⟩ := h
  exact ⟨es, clock, (ho.block mb (Array.getElem?_eq_some_iff.1 hb).1 hn).trans hb, h1⟩
theorem MapI.keep (h : MapI w mb F) (ho : Only Non w w') : MapI w' mb F := h.only ho id
theorem MapI.ne {g : Nat} {t : TypeId} {cs : Array Value} (h : MapI w mb F) (hb : Box w g t cs) : g ≠ mb := by
  rintro rfl
  obtain ⟨es, clock, h1, _⟩ := h
  unfold Box at hb
  rw [h1] at hb
  cases hb
theorem MapI.made (w : World) : MapI (w.alloc (.map #[] 0)) w.heap.size (fun _ => none) :=
  ⟨#[], 0, heap_alloc_new w _, stamped_empty 0, fun e he => by simp at he, fun k v h => by cases h⟩
theorem MapI.found (h : MapI w mb F) (hk : P.underlying kt = some (.int .i64)) {k : Int} (hi : I64 k) :
    ∃ es clock, w.heap[mb]? = some (.map es clock) ∧ Stamped es clock ∧ (∀ e ∈ es.toList, ∃ k, I64 k ∧ e.key = .int .i64 k ∧ F k = some e.val) ∧ (∀ k v, F k = some v → ∃ e ∈ es.toList, e.key = .int .i64 k) ∧
      (∀ em, (Instr.checkKey em 10000 kt (.int .i64 k)).run P w = .ok () w) ∧
      (((Instr.findKey kt (.int .i64 k) es.toList).run P w = .ok none w ∧ F k = none ∧ ∀ e ∈ es.toList, e.key ≠ .int .i64 k) ∨
       ∃ j e, (Instr.findKey kt (.int .i64 k) es.toList).run P w = .ok (some (j, e.val)) w ∧ es[j]? = some e ∧ e.key = .int .i64 k ∧ F k = some e.val) := by
  obtain ⟨es, clock, hb, hs, h1, h2⟩ := h
  have K : Keyed P kt := int_keyed hk
  have hkey := keyOf_int_mk hk hi.wf
  refine ⟨es, clock, hb, hs, h1, h2, fun em => K.check w em hkey, ?_⟩
  rcases K.find w hkey es.toList (fun e he => by obtain ⟨x, hx, e1, _⟩ := h1 e he; rw [e1]; exact ⟨_, keyOf_int_mk hk hx.wf⟩) with ⟨hf, hno⟩ | ⟨j, e, hf, hj, he⟩
  · refine .inl ⟨hf, ?_, hno⟩
    cases hF : F k with
    | none => rfl
    | some v =>
      obtain ⟨e, he, e1⟩ := h2 k v hF
      exact absurd e1 (hno e he)
  · refine .inr ⟨j, e, hf, by simpa using hj, he, ?_⟩
    obtain ⟨x, _, e1, e2⟩ := h1 e (List.mem_of_getElem? hj)
    rw [he] at e1
    injection e1 with _ e1
    rw [e1]; exact e2
theorem run_look_i (h : MapI w mb F) (hm : P.underlying mt = some (.map kt et)) (hk : P.underlying kt = some (.int .i64)) {z : Value} (hz : (zeroValue et).run P w = .ok z w) {k : Int} (hi : I64 k) :
    (Instr.lookup mt (.map (some mb)) (.int .i64 k) false).run P w = .ok ((F k).getD z) w := by
  obtain ⟨es, clock, hb, hs, h1, h2, hck, ⟨hf, hn, _⟩ | ⟨j, e, hf, hj, he, hn⟩⟩ := h.found hk hi
  · simp [Instr.lookup, run_underlying hm, MapKept.run_getObj_map hb, hck, hf, hz, Result.andThen, hn]
  · simp [Instr.lookup, run_underlying hm, MapKept.run_getObj_map hb, hck, hf, Result.andThen, hn]
theorem run_look2_i (h : MapI w mb F) (hm : P.underlying mt = some (.map kt et)) (hk : P.underlying kt = some (.int .i64)) {z : Value} (hz : (zeroValue et).run P w = .ok z w) {k : Int} (hi : I64 k) :
    (Instr.lookup mt (.map (some mb)) (.int .i64 k) true).run P w = .ok (.tuple #[(F k).getD z, .bool (F k).isSome]) w := by
  obtain ⟨es, clock, hb, hs, h1, h2, hck, ⟨hf, hn, _⟩ | ⟨j, e, hf, hj, he, hn⟩⟩ := h.found hk hi
  · simp [Instr.lookup, run_underlying hm, MapKept.run_getObj_map hb, hck, hf, hz, Result.andThen, hn]
  · simp [Instr.lookup, run_underlying hm, MapKept.run_getObj_map hb, hck, hf, Result.andThen, hn]
theorem set_only (w : World) (mb : Nat) (o : Obj) : Only (Just mb) w { w with heap := w.heap.setIfInBounds mb o } :=
  ⟨rfl, rfl, rfl, by simp, fun k hk hne => by
    have : mb ≠ k := fun e => hne (show k = mb from e.symm)
    simp [this]⟩
theorem run_put_i (h : MapI w mb F) (hm : P.underlying mt = some (.map kt et)) (hk : P.underlying kt = some (.int .i64)) {k : Int} (hi : I64 k) (v : Value) :
    ∃ w', (Instr.mapUpdate mt (.map (some mb)) (.int .i64 k) v).run P w = .ok () w' ∧ MapI w' mb (fSet F k v) ∧ Only (Just mb) w w' := by
  obtain ⟨es, clock, hb, hs, h1, h2, hck, ⟨hf, hn, hno⟩ | ⟨j, e, hf, hj, he, hn⟩⟩ := h.found hk hi
  · refine ⟨{ w with heap := w.heap.setIfInBounds mb (.map (es.push { key := .int .i64 k, val := v, born := clock }) (clock + 1)) }, ?_, ?_, set_only _ _ _⟩
    · simp [Instr.mapUpdate, run_underlying hm, MapKept.run_getObj_map hb, hck, hf, MapKept.run_setObj_map _ hb, Result.andThen]
    · refine ⟨_, _, (heap_set hb).1, stamped_push hs hno, fun x hx => ?_, fun k' v' hF => ?_⟩
      · simp only [Array.toList_push, List.mem_append, List.mem_singleton] at hx
        rcases hx with hx | rfl
        · obtain ⟨y, hy, e1, e2⟩ := h1 x hx
          refine ⟨y, hy, e1, ?_⟩
          rw [fSet_ne _ _ (fun e => hno x hx (by rw [e1, e]))]; exact e2
        · exact ⟨k, hi, rfl, fSet_self _ _ _⟩
      · simp only [Array.toList_push, List.mem_append, List.mem_singleton]
        by_cases e : k' = k
        · exact ⟨_, .inr rfl, by rw [e]⟩
        · rw [fSet_ne _ _ e] at hF
          obtain ⟨x, hx, e1⟩ := h2 k' v' hF
          exact ⟨x, .inl hx, e1⟩
  · have hst : (Instr.keyThatStays (.int .i64 k) (.int .i64 k)).run P w = .ok (.int .i64 k) w := run_keyThatStays (d := .int .i64) rfl
    refine ⟨{ w with heap := w.heap.setIfInBounds mb (.map (es.modify j fun e => { e with key := .int .i64 k, val := v }) clock) }, ?_, ?_, set_only _ _ _⟩
    · simp [Instr.mapUpdate, run_underlying hm, MapKept.run_getObj_map hb, hck, hf, hj, he, hst, MapKept.run_setObj_map _ hb, Result.andThen]
    · have hkey : ∀ e', es[j]? = some e' → ({ e' with key := .int .i64 k, val := v } : MapEntry).key = e'.key := fun e' he' => by rw [hj] at he'; cases he'; exact he.symm
      refine ⟨_, _, (heap_set hb).1, stamped_modify hs _ _ (fun _ _ => rfl) (fun e' _ he' => hkey e' he'), fun x hx => ?_, fun k' v' hF => ?_⟩
      · obtain ⟨i, hil, rfl⟩ := Array.mem_iff_getElem.1 (Array.mem_toList_iff.1 hx)
        have hil' : i < es.size := by simpa using hil
        by_cases hij : j = i
        · subst hij
          rw [Array.getElem_modify]
          exact ⟨k, hi, by simp, by simp [fSet_self]⟩
        · have e0 : (es.modify j fun e => { e with key := .int .i64 k, val := v })[i] = es[i] := by rw [Array.getElem_modify]; simp [hij]
          rw [e0]
          obtain ⟨y, hy, e1, e2⟩ := h1 es[i] (Array.mem_toList_iff.2 (Array.getElem_mem hil'))
          refine ⟨y, hy, e1, ?_⟩
          rw [fSet_ne _ _ ?_]; exact e2
          rintro rfl
          have hjl : j < es.size := (Array.getElem?_eq_some_iff.1 hj).1
          have hje : es[j] = e := (Array.getElem?_eq_some_iff.1 hj).2
          have hnd := List.pairwise_iff_getElem.1 hs.2.2
          have hL : (es.toList.map (·.key)).length = es.size := by simp
          rcases Nat.lt_or_gt_of_ne hij with h | h
          · have := hnd j i (by omega) (by omega) h
            simp only [List.getElem_map, Array.getElem_toList] at this
            exact this (by rw [hje, he, e1])
          · have := hnd i j (by omega) (by omega) h
            simp only [List.getElem_map, Array.getElem_toList] at this
            exact this (by rw [hje, he, e1])
      · have hkeys := modify_keys (es := es) j (fun e => { e with key := .int .i64 k, val := v }) hkey
        have hmem : Value.int .i64 k' ∈ es.toList.map (·.key) := by
          by_cases e' : k' = k
          · rw [e', ← he]; exact List.mem_map.2 ⟨e, Array.mem_toList_iff.2 (Array.mem_of_getElem? hj), rfl⟩
          · rw [fSet_ne _ _ e'] at hF
            obtain ⟨x, hx, e1⟩ := h2 k' v' hF
            exact List.mem_map.2 ⟨x, hx, e1⟩
        rw [← hkeys] at hmem
        obtain ⟨x, hx, e1⟩ := List.mem_map.1 hmem
        exact ⟨x, hx, e1⟩
theorem wpList_put_i {ops : Array Oper} {rest : List Oper} {o : Oper} {a : Act} {Q : Exit → Act → World → Prop} (w : World) (hg : o.guard = none) (m x v : Operand) (hop : o.op = Op.mapUpdate mt m x v)
    (hmt : P.underlying mt = some (.map kt et)) (hkt : P.underlying kt = some (.int .i64))
    (mb : Nat) (F : Int → Option Value) (k : Int) (u : Value) (hm : a.eval m = .map (some mb)) (hx : a.eval x = .int .i64 k) (hv : a.eval v = u) (h : MapI w mb F) (hk : I64 k)
    (hK : ∀ w', MapI w' mb (fSet F k u) → Only (Just mb) w w' → wpList P ops Q rest (a.put o.dst undef) w') : wpList P ops Q (o :: rest) a w := by
  refine wpList_plain hg fun K' hK' => ?_
  obtain ⟨w', hrun, r1, r2⟩ := run_put_i (P := P) h hmt hkt hk u
  unfold Oper.wp
  simp [execOp, hop, hm, hx, hv, hrun, Result.andThen]
  exact hK' _ _ (hK w' r1 r2)
theorem wpList_look_i {ops : Array Oper} {rest : List Oper} {o : Oper} {a : Act} {Q : Exit → Act → World → Prop} (w : World) (hg : o.guard = none) (m x : Operand) (hop : o.op = Op.lookup mt m x false)
    (hmt : P.underlying mt = some (.map kt et)) (hkt : P.underlying kt = some (.int .i64)) (z : Value) (hz : (zeroValue et).run P w = .ok z w)
    (mb : Nat) (F : Int → Option Value) (k : Int) (hm : a.eval m = .map (some mb)) (hx : a.eval x = .int .i64 k) (h : MapI w mb F) (hk : I64 k)
    (hK : wpList P ops Q rest (a.put o.dst ((F k).getD z)) w) : wpList P ops Q (o :: rest) a w := by
  refine wpList_plain hg fun K' hK' => ?_
  have hrun := run_look_i (P := P) h hmt hkt hz hk
  unfold Oper.wp
  simp [execOp, hop, hm, hx, hrun, Result.andThen]
  exact hK' _ _ hK
theorem run_delete_i (h : MapI w mb F) (hm : P.underlying mt = some (.map kt et)) (hk : P.underlying kt = some (.int .i64)) {k : Int} (hi : I64 k) (ty : TypeId) :
    ∃ v w', (Builtin.delete_ #[mt, kt] ty #[.map (some mb), .int .i64 k]).run P w = .ok v w' ∧ MapI w' mb (fDel F k) ∧ Only (Just mb) w w' := by
  obtain ⟨es, clock, hb, hs, h1, h2, hck, ⟨hf, hn, hno⟩ | ⟨j, e, hf, hj, he, hn⟩⟩ := h.found hk hi
  · refine ⟨_, { w with heap := w.heap.setIfInBounds mb (.map es clock) }, by simp [Builtin.delete_, run_underlying hm, MapKept.run_getObj_map hb, hck, hf, MapKept.run_setObj_map _ hb, Result.andThen]; rfl, ?_, set_only _ _ _⟩
    refine ⟨_, _, (heap_set hb).1, hs, fun x hx => ?_, fun k' v' hF => ?_⟩
    · obtain ⟨y, hy, e1, e2⟩ := h1 x hx
      refine ⟨y, hy, e1, ?_⟩
      have : y ≠ k := fun e => hno x hx (by rw [e1, e])
      simp [fDel, this, e2]
    · unfold fDel at hF
      split at hF
      · cases hF
      · exact h2 k' v' hF
  · refine ⟨_, { w with heap := w.heap.setIfInBounds mb (.map (es.eraseIdxIfInBounds j) clock) }, by simp [Builtin.delete_, run_underlying hm, MapKept.run_getObj_map hb, hck, hf, MapKept.run_setObj_map _ hb, Result.andThen]; rfl, ?_, set_only _ _ _⟩
    have hjl : j < es.size := (Array.getElem?_eq_some_iff.1 hj).1
    have hje : es[j] = e := (Array.getElem?_eq_some_iff.1 hj).2
    have hl : (es.eraseIdxIfInBounds j).toList = es.toList.eraseIdx j := by
      unfold Array.eraseIdxIfInBounds
      rw [dif_pos hjl, Array.toList_eraseIdx]
    have hnd := List.pairwise_iff_getElem.1 hs.2.2
    have hL : (es.toList.map (·.key)).length = es.size := by simp
    have hone : ∀ i (hil : i < es.size), es[i].key = .int .i64 k → i = j := fun i hil hki => by
      rcases Nat.lt_trichotomy i j with h | h | h
      · have := hnd i j (by omega) (by omega) h
        simp only [List.getElem_map, Array.getElem_toList] at this
        exact absurd (by rw [hje, he, hki]) this
      · exact h
      · have := hnd j i (by omega) (by omega) h
        simp only [List.getElem_map, Array.getElem_toList] at this
        exact absurd (by rw [hje, he, hki]) this
    refine ⟨_, _, (heap_set hb).1, stamped_erase hs _, fun x hx => ?_, fun k' v' hF => ?_⟩
    · rw [hl] at hx
      obtain ⟨i, hij, hgi⟩ := List.mem_eraseIdx_iff_getElem?.1 hx
      have hil : i < es.size := by have := (List.getElem?_eq_some_iff.1 hgi).1; simpa using this
      obtain ⟨y, hy, e1, e2⟩ := h1 x (List.mem_of_getElem? hgi)
      refine ⟨y, hy, e1, ?_⟩
      have : y ≠ k := fun e => hij (hone i hil (by
        have : es[i] = x := by have := (List.getElem?_eq_some_iff.1 hgi).2; simpa using this
        rw [this, e1, e]))
      simp [fDel, this, e2]
    · unfold fDel at hF
      split at hF
      · cases hF
      · rename_i hne
        obtain ⟨x, hx, e1⟩ := h2 k' v' hF
        refine ⟨x, ?_, e1⟩
        rw [hl]
        obtain ⟨i, hil, rfl⟩ := List.mem_iff_getElem.1 hx
        refine List.mem_eraseIdx_iff_getElem?.2 ⟨i, ?_, List.getElem?_eq_getElem hil⟩
        rintro rfl
        simp only [Array.getElem_toList] at e1
        rw [hje, he] at e1
        injection e1 with _ e1
        exact hne e1.symm
theorem run_clear_i (h : MapI w mb F) (hm : P.underlying mt = some (.map kt et)) (ty : TypeId) :
    ∃ v w', (Builtin.clear_ #[mt] ty #[.map (some mb)]).run P w = .ok v w' ∧ MapI w' mb (fun _ => none) ∧ Only (Just mb) w w' := by
  obtain ⟨es, clock, hb, hs, h1, h2⟩ := h
  exact ⟨_, { w with heap := w.heap.setIfInBounds mb (.map #[] clock) }, by simp [Builtin.clear_, run_underlying hm, MapKept.run_getObj_map hb, MapKept.run_setObj_map _ hb, Result.andThen]; rfl,
    ⟨#[], clock, (heap_set hb).1, stamped_empty _, fun e he => by simp at he, fun k v h => by cases h⟩, set_only _ _ _⟩
end
end Go.Proofs.YtodephhlhdbeoaaGreat
namespace Go.Proofs.YtodephhlhdbeoaaGreat
open Go.RowKit
set_option linter.unusedVariables false
set_option linter.unusedSimpArgs false
theorem run_append_none {P : Program} (w : World) (t ty e : TypeId) {z : Value} {bytes : Nat} (hinfo : (P.info? e).map (fun i => (i.zero, i.size, i.bytes)) = some (some z, 1, bytes)) (ht : P.underlying t = some (.slice e))
    {base : Nat} {v : Value} {n : Nat} {xs : List Value} (h : w.ownsRow base e 1 v n xs) : (Builtin.append_ #[t, t] ty #[v, .slice none 0 0]).run P w = .ok v w := by
  obtain ⟨i, hi, hz, hs, hby⟩ := info_parts hinfo
  rcases h.2 with ⟨rfl, rfl⟩ | ⟨g, cap, cur, rfl, hb, hg, hn, hm, hsz, htk⟩
  · simp [Builtin.append_, run_underlying ht, sizeOf, typeInfo, hi, Builtin.lenOf, Builtin.firstCells, loadCells, loadCellsFrom]
  · simp [Builtin.append_, run_underlying ht, sizeOf, typeInfo, hi, Builtin.lenOf, Builtin.firstCells, hn, storeCells]
theorem wpList_ownapp {P : Program} (w : World) {ops : Array Oper} {rest : List Oper} {o : Oper} {a : Act} {Q : Exit → Act → World → Prop} (hgd : o.guard = none) (s x : Operand) (t e : TypeId)
    (ho : o.op = .call { callee := .builtin .append, args := #[s, x], argTypes := #[t, t] })
    (hinfo : (P.info? e).map (fun i => (i.zero, i.size, i.bytes)) = some (some (.int .i64 0), 1, 8)) (ht : P.underlying t = some (.slice e))
    (base : Nat) (v : Value) (l : List Int) (hs : a.eval s = v) (hown : OwnInts e w base v l) (base' : Nat) (u : Value) (l' : List Int) (hx : a.eval x = u) (hu : OwnInts e w base' u l') (hlen : l.length + l'.length ≤ 1000000) (hbase : base ≤ w.heap.size)
    (h : ∀ v' w', OwnInts e w' base v' (l ++ l') → Only (ownB v) w w' → wpList P ops Q rest (a.put o.dst v') w') :
    wpList P ops Q (o :: rest) a w := by
  rcases hu.2 with ⟨rfl, h0⟩ | ⟨g, cap, cur, rfl, hb, hg, hn, hm, hsz, htk⟩
  · obtain rfl : l' = [] := List.eq_nil_of_length_eq_zero h0
    have hr := run_append_none (P := P) w t o.type e hinfo ht hown
    refine wpList_plain hgd fun K hK => ?_
    unfold Oper.wp execOp
    simp only [ho, resolve, invoke, builtin, Sem.run_bind, Sem.run_pure, Result.andThen_ok, List.map_toArray, List.map_cons, List.map_nil, hs, hx, hr]
    refine hK _ _ (h v w (by rw [List.append_nil]; exact hown) (Only.refl _ _))
  · obtain ⟨i0, hi, hz0, hz1, hz2⟩ := info_parts hinfo
    have hcl := fun j u hj => World.ownsRow.cells hu (g := g) rfl j u hj
    refine wpList_append_own_at w hgd s x t ho base e i0 _ 1 8 ht hi hz0 hz1 hz2 rfl (by decide) v l.length (l.map (Value.int .i64)) hs hown ⟨g, 0, none⟩ l'.length cap (l'.map (Value.int .i64)) hx (by simp) (fun j u hj => hcl j u hj) (fun u hu => by obtain ⟨z, _, rfl⟩ := List.mem_map.1 hu; rfl) (by unfold maxLen; omega) (by omega) hbase
      (fun v' w' h2 h3 _ h5 => h v' w' ?_ ((Only.refl _ _).grown h3 fun k hk => .inl hk))
    unfold OwnInts
    rw [List.map_append, List.length_append]
    exact h2
end Go.Proofs.YtodephhlhdbeoaaGreat
namespace Go.Proofs.YtodephhlhdbeoaaGreat
def Ret (v : Value) (S : Nat → Prop) (w : World) (e : Ending) (w' : World) : Prop := e = .returned v ∧ Only S w w'
end Go.Proofs.YtodephhlhdbeoaaGreat
