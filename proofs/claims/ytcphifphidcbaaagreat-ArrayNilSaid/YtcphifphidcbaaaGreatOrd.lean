/- What keeps blocks in order, behind an interface: its methods' contracts; lru is one. -/
import Derived.Test.YtcphifphidcbaaaGreatLrb
namespace Go.Proofs.YtcphifphidcbaaaGreat
open Go.RowKit Go.ChangeShapes Go.WideShapes
set_option linter.unusedVariables false
set_option linter.unusedSimpArgs false
/-- the dynamic type t finds the method, for the receiver x, in function f -/
structure Disp (t : TypeId) (x : Value) (name : String) (f : Nat) : Prop where
  m : ∀ w, (method 409 t x name).run Tryz.prog w = .ok (f, x) w
  e : ∀ args w, (callFunc f args).run Tryz.prog w = .ok (.enter f args) w
structure OFn where
  has : Nat
  use : Nat
  add : Nat
  rem : Nat
  all : Nat
  len : Nat
structure OSpec (σ : Type) where
  all : σ → List Int
  use : σ → Int → σ
  add : σ → Int → σ × Int × Bool
  rem : σ → Int → σ
  age : σ → Nat
  takes : Int → Prop
/-- the greatest age that a contract is asked at -/
def maxAge : Nat := 1000000000
structure OrdC {σ : Type} (sp : OSpec σ) (t : TypeId) (x : Value) (fn : OFn) (F : Nat → Prop) (R : σ → World → Prop) : Prop where
  dhas : Disp t x "Has" fn.has
  duse : Disp t x "Use" fn.use
  dadd : Disp t x "Add" fn.add
  drem : Disp t x "Remove" fn.rem
  dall : Disp t x "All" fn.all
  dlen : Disp t x "Len" fn.len
  ptr : ∃ p, x = .pointer (some ⟨p, 0, none⟩) ∧ F p
  only : ∀ {s w w'} {S : Nat → Prop}, R s w → Only S w w' → (∀ k, F k → ¬ S k) → R s w'
  lt : ∀ {s w}, R s w → ∀ k, F k → k < w.heap.size
  has : ∀ {s w} (b : Int), R s w → Calls Tryz.prog fn.has #[x, .int .i64 b] w fun e w' => e = .returned (.bool (decide (b ∈ sp.all s))) ∧ Only Non w w'
  len : ∀ {s w}, R s w → Calls Tryz.prog fn.len #[x] w fun e w' => e = .returned (.int .i64 (sp.all s).length) ∧ Only Non w w'
  all : ∀ {s w}, R s w → Calls Tryz.prog fn.all #[x] w fun e w' => ∃ v, e = .returned v ∧ OwnInts 3 w' w.heap.size v (sp.all s) ∧ Only Non w w'
  use : ∀ {s w} {b : Int}, R s w → b ∈ sp.all s → sp.age s < maxAge → Calls Tryz.prog fn.use #[x, .int .i64 b] w fun e w' => e = .returned (.bool true) ∧ R (sp.use s b) w' ∧ Only F w w'
  add : ∀ {s w} {b : Int}, R s w → 0 ≤ b → b < 64 → sp.takes b → sp.age s < maxAge →
    Calls Tryz.prog fn.add #[x, .int .i64 b] w fun e w' => e = .returned (.tuple #[.int .i64 (sp.add s b).2.1, .bool (sp.add s b).2.2, .int .i64 0]) ∧ R (sp.add s b).1 w' ∧ Only F w w'
  rem : ∀ {s w} {b : Int}, R s w → b ∈ sp.all s → Calls Tryz.prog fn.rem #[x, .int .i64 b] w fun e w' => e = .returned (.bool true) ∧ R (sp.rem s b) w' ∧ Only F w w'
  rng : ∀ {s w} {b : Int}, R s w → b ∈ sp.all s → 0 ≤ b ∧ b < 64
  nodup : ∀ {s w}, R s w → (sp.all s).Nodup
  addL : ∀ {s w} {b : Int}, R s w → 0 ≤ b → b < 64 → sp.takes b →
    ((sp.add s b).2.2 = false ∧ (sp.add s b).2.1 = 0 ∧ ∀ y, y ∈ sp.all (sp.add s b).1 ↔ y = b ∨ y ∈ sp.all s) ∨
    ((sp.add s b).2.2 = true ∧ (sp.add s b).2.1 ∈ sp.all s ∧ b ∉ sp.all s ∧ ∀ y, y ∈ sp.all (sp.add s b).1 ↔ y = b ∨ (y ∈ sp.all s ∧ y ≠ (sp.add s b).2.1))
  useL : ∀ {s w} {b : Int}, R s w → b ∈ sp.all s → ∀ y, y ∈ sp.all (sp.use s b) ↔ y ∈ sp.all s
  remL : ∀ {s w} {b : Int}, R s w → b ∈ sp.all s → ∀ y, y ∈ sp.all (sp.rem s b) ↔ y ∈ sp.all s ∧ y ≠ b
  ageU : ∀ s b, sp.age (sp.use s b) ≤ sp.age s + 1
  ageA : ∀ s b, sp.age (sp.add s b).1 ≤ sp.age s + 1
  ageR : ∀ s b, sp.age (sp.rem s b) ≤ sp.age s
def lruSp (cap : Nat) : OSpec (List Int) := ⟨fun L => L, fun L b => b :: L.erase b, lruAdd cap, fun L b => L.erase b, fun _ => 0, fun _ => True⟩
def lruFn : OFn := ⟨242, 245, 240, 244, 241, 243⟩
def Tri (p g eb : Nat) : Nat → Prop := fun k => k = p ∨ k = g ∨ k = eb
def lruR (p g eb cap : Nat) (L : List Int) (w : World) : Prop := LruB w p g eb cap L ∧ L.length ≤ cap
theorem lst_mem' {L : List Int} (h : L ≠ []) : lst L ∈ L := by
  cases L with
  | nil => exact absurd rfl h
  | cons a L =>
    clear h
    induction L generalizing a with
    | nil => exact List.mem_cons_self ..
    | cons c L ih =>
      rw [lst_cons, if_neg (by simp)]
      exact List.mem_cons_of_mem _ (ih c)
theorem lruAdd_mem {cap : Nat} {L : List Int} {b : Int} (hn : L.Nodup) (h1 : 1 ≤ cap) :
    ((lruAdd cap L b).2.2 = false ∧ (lruAdd cap L b).2.1 = 0 ∧ ∀ y, y ∈ (lruAdd cap L b).1 ↔ y = b ∨ y ∈ L) ∨
    ((lruAdd cap L b).2.2 = true ∧ (lruAdd cap L b).2.1 ∈ L ∧ b ∉ L ∧ ∀ y, y ∈ (lruAdd cap L b).1 ↔ y = b ∨ (y ∈ L ∧ y ≠ (lruAdd cap L b).2.1)) := by
  unfold lruAdd
  by_cases hb : b ∈ L
  · rw [if_pos hb]
    refine .inl ⟨rfl, rfl, fun y => ?_⟩
    rw [List.mem_cons, hn.mem_erase_iff]
    exact ⟨fun h => h.imp id fun h => h.2, fun h => by
      by_cases e : y = b
      · exact .inl e
      · exact .inr ⟨e, h.resolve_left e⟩⟩
  · rw [if_neg hb]
    split
    · exact .inl ⟨rfl, rfl, fun y => List.mem_cons⟩
    · rename_i h2
      have hne : L ≠ [] := by rintro rfl; simp at h2; omega
      refine .inr ⟨rfl, lst_mem' hne, hb, fun y => ?_⟩
      rw [List.mem_cons, hn.mem_erase_iff]
      exact ⟨fun h => h.imp id fun h => ⟨h.2, h.1⟩, fun h => h.imp id fun h => ⟨h.2, h.1⟩⟩
theorem lruAdd_len {cap : Nat} {L : List Int} {b : Int} (h1 : 1 ≤ cap) (h : L.length ≤ cap) : (lruAdd cap L b).1.length ≤ cap := by
  unfold lruAdd
  split
  · rename_i hb
    have := List.length_pos_of_mem hb
    show (b :: L.erase b).length ≤ cap
    rw [List.length_cons, List.length_erase_of_mem hb]; omega
  · split
    · rename_i h2
      show (b :: L).length ≤ cap
      rw [List.length_cons]; omega
    · rename_i h2
      show (b :: L.erase (lst L)).length ≤ cap
      rw [List.length_cons, List.length_erase]
      split
      · omega
      · rename_i h3
        exfalso
        apply h3
        have h4 : L ≠ [] := by rintro rfl; simp at h2; omega
        cases L with
        | nil => exact absurd rfl h4
        | cons a L =>
          have : ∀ (L : List Int) (a : Int), lst (a :: L) ∈ a :: L := fun L => by
            induction L with
            | nil => intro a; exact List.mem_cons_self ..
            | cons c L ih =>
              intro a
              rw [lst_cons, if_neg (by simp)]
              exact List.mem_cons_of_mem _ (ih c)
          simpa using this L a
theorem Two.tri {p g eb k : Nat} (h : Two g eb k) : Tri p g eb k := .inr h
theorem lru_disp (p : Nat) : Disp 192 (.pointer (some ⟨p, 0, none⟩)) "Has" lruFn.has ∧ Disp 192 (.pointer (some ⟨p, 0, none⟩)) "Use" lruFn.use ∧ Disp 192 (.pointer (some ⟨p, 0, none⟩)) "Add" lruFn.add ∧
    Disp 192 (.pointer (some ⟨p, 0, none⟩)) "Remove" lruFn.rem ∧ Disp 192 (.pointer (some ⟨p, 0, none⟩)) "All" lruFn.all ∧ Disp 192 (.pointer (some ⟨p, 0, none⟩)) "Len" lruFn.len :=
  ⟨⟨fun w => by kernel_rfl, fun a w => by kernel_rfl⟩, ⟨fun w => by kernel_rfl, fun a w => by kernel_rfl⟩, ⟨fun w => by kernel_rfl, fun a w => by kernel_rfl⟩,
   ⟨fun w => by kernel_rfl, fun a w => by kernel_rfl⟩, ⟨fun w => by kernel_rfl, fun a w => by kernel_rfl⟩, ⟨fun w => by kernel_rfl, fun a w => by kernel_rfl⟩⟩
theorem lru_ord (p g eb cap : Nat) : OrdC (lruSp cap) 192 (.pointer (some ⟨p, 0, none⟩)) lruFn (Tri p g eb) (lruR p g eb cap) where
  dhas := (lru_disp p).1
  duse := (lru_disp p).2.1
  dadd := (lru_disp p).2.2.1
  drem := (lru_disp p).2.2.2.1
  dall := (lru_disp p).2.2.2.2.1
  dlen := (lru_disp p).2.2.2.2.2
  ptr := ⟨p, rfl, .inl rfl⟩
  only := fun h ho hF => ⟨h.1.only ho (hF p (.inl rfl)) (hF g (.inr (.inl rfl))) (hF eb (.inr (.inr rfl))), h.2⟩
  lt := fun h k hk => by
    rcases hk with rfl | rfl | rfl
    · exact h.1.box.lt
    · exact h.1.sp.lt1.1
    · exact h.1.sp.lt1.2
  has := fun b h => (lru_has b _ h.1).mono fun e w' ⟨h1, h2⟩ => ⟨h1, h2 ▸ Only.refl _ _⟩
  len := fun h => (lru_len _ h.1).mono fun e w' ⟨h1, h2⟩ => ⟨h1, h2 ▸ Only.refl _ _⟩
  all := fun h => lru_all _ h.1
  use := fun {s w b} h hb _ => by
    obtain ⟨n, rfl⟩ := Int.eq_ofNat_of_zero_le (h.1.sp.rng (i := 0) hb).1
    refine (lru_use w h.1 hb).mono fun e w' ⟨h1, h2, h3⟩ => ⟨h1, ⟨h2, ?_⟩, h3.mono fun k hk => .inl hk.tri⟩
    have hb : (n : Int) ∈ s := hb
    have := List.length_pos_of_mem hb
    have := h.2
    show ((n : Int) :: s.erase n).length ≤ cap
    rw [List.length_cons, List.length_erase_of_mem hb]; omega
  add := fun {s w b} h h0 h1 _ _ => by
    obtain ⟨n, rfl⟩ := Int.eq_ofNat_of_zero_le h0
    have hl := lruAdd_len (b := (n : Int)) h.1.c1 h.2
    by_cases hb : (n : Int) ∈ s
    · exact (lru_add_in w h.1 hb).mono fun e w' ⟨h2, h3, h4⟩ => ⟨h2, ⟨h3, hl⟩, h4.mono fun k hk => .inl hk.tri⟩
    · exact (lru_add_new w h.1 (by omega) h.2 hb).mono fun e w' ⟨h2, h3, h4⟩ => ⟨h2, ⟨h3, hl⟩, h4.mono fun k hk => .inl hk.tri⟩
  rem := fun {s w b} h hb => by
    obtain ⟨n, rfl⟩ := Int.eq_ofNat_of_zero_le (h.1.sp.rng (i := 0) hb).1
    refine (lru_rem w h.1 hb).mono fun e w' ⟨h1, h2, h3⟩ => ⟨h1, ⟨h2, ?_⟩, h3.mono fun k hk => .inl hk.tri⟩
    have hb : (n : Int) ∈ s := hb
    have := h.2
    show (s.erase n).length ≤ cap
    rw [List.length_erase_of_mem hb]; omega
  rng := fun h hb => h.1.sp.rng (i := 0) hb
  nodup := fun h => h.1.sp.nodup 0
  addL := fun h _ _ _ => lruAdd_mem (h.1.sp.nodup 0) h.1.c1
  useL := fun {s w b} h hb y => by
    have hb : b ∈ s := hb
    show y ∈ b :: s.erase b ↔ y ∈ s
    rw [List.mem_cons, (show s.Nodup from h.1.sp.nodup 0).mem_erase_iff]
    exact ⟨fun h => h.elim (fun e => e ▸ hb) fun h => h.2, fun h => by
      by_cases e : y = b
      · exact .inl e
      · exact .inr ⟨e, h⟩⟩
  remL := fun {s w b} h hb y => by
    show y ∈ s.erase b ↔ y ∈ s ∧ y ≠ b
    rw [(show s.Nodup from h.1.sp.nodup 0).mem_erase_iff]
    exact ⟨fun h => ⟨h.2, h.1⟩, fun h => ⟨h.2, h.1⟩⟩
  ageU := fun _ _ => Nat.le_succ _
  ageA := fun _ _ => Nat.le_succ _
  ageR := fun _ _ => Nat.le_refl _
/-- a kind of order: where one lies (ι), its states, a new one's -/
structure OKind where
  σ : Type
  ι : Type
  sp : OSpec σ
  t : TypeId
  fn : OFn
  x : ι → Value
  F : ι → Nat → Prop
  R : ι → σ → World → Prop
  s0 : σ
  oc : ∀ i, OrdC sp t (x i) fn (F i) (R i)
  nil : sp.all s0 = []
def lruK (cap : Nat) : OKind := ⟨List Int, Nat × Nat × Nat, lruSp cap, 192, lruFn, fun i => .pointer (some ⟨i.1, 0, none⟩), fun i => Tri i.1 i.2.1 i.2.2, fun i => lruR i.1 i.2.1 i.2.2 cap, [], fun i => lru_ord i.1 i.2.1 i.2.2 cap, rfl⟩
end Go.Proofs.YtcphifphidcbaaaGreat
