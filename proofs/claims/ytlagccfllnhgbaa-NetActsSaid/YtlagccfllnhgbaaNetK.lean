/- An act on a net that is there; long. -/
import Derived.Test.YtlagccfllnhgbaaNetTurns
namespace Go.Proofs.Ytlagccfllnhgbaa
open Go.RowKit
set_option linter.unusedVariables false
set_option linter.unusedSimpArgs false
structure Done where
  c : Cont
  sent : Nat
  frame : List Int
  err : Int
def doC (c : Cont) (kind way i k : Int) (ls : List (List Int)) : Done :=
  if kind = 0 then (if thereC c way then ⟨sendK c way.toNat ls (min ls.length (400 - (c.row way.toNat).length)), min ls.length (400 - (c.row way.toNat).length), [], 0⟩ else ⟨c, 0, [], 0⟩)
  else if kind = 1 then (if hasC c way i then ⟨c.set way.toNat ((c.row way.toNat).eraseIdx i.toNat), 0, (c.row way.toNat).getD i.toNat [], 0⟩ else ⟨c, 0, [], 5⟩)
  else if kind = 2 then (if hasC c way i then (if (c.row way.toNat).length < 400 then ⟨c.set way.toNat (c.row way.toNat ++ [(c.row way.toNat).getD i.toNat []]), 0, [], 0⟩ else ⟨c, 0, [], 4⟩) else ⟨c, 0, [], 5⟩)
  else if kind = 3 then (if hasC c way i then ⟨c.set way.toNat ((c.row way.toNat).eraseIdx i.toNat), 0, [], 0⟩ else ⟨c, 0, [], 5⟩)
  else if kind = 4 then (if hasC c way i && hasC c way k then ⟨c.set way.toNat (swapL (c.row way.toNat) i.toNat k.toNat), 0, [], 0⟩ else ⟨c, 0, [], 5⟩)
  else ⟨clearC c way, 0, [], 0⟩
def DoPost (base nb : Nat) (F H : Nat → Prop) (d : Done) (w : World) (e : Ending) (w' : World) : Prop :=
  ∃ v, e = .returned (.tuple #[.int .i64 d.sent, v, .int .i64 d.err]) ∧ Byt w' v d.frame ∧ (∀ k, ownB v k → H k ∧ ¬ F k) ∧ NetPost 75 base nb F H d.c w w'
theorem byt_nil (w : World) : Byt w (.slice none 0 0) [] := ⟨none, 0, rfl, Nat.le_refl _, by simp, Src.nil_ _ _⟩
section
variable {base nb : Nat} {F H : Nat → Prop} {c c' : Cont} {w wb w' : World}
theorem NetPost.unbox (kind way i k : Int) (A : Option Addr) (n cp : Nat) (h : NetPost 75 base nb F H c' (boxed w kind way i k A n cp) w') : NetPost 75 base nb F H c' w w' :=
  NetPost.step (fun _ h => .inl h) (fun _ h => .inl h) ((Only.refl F w).alloc _) h
theorem boxed_only (w : World) (kind way i k : Int) (A : Option Addr) (n cp : Nat) : Only Non w (boxed w kind way i k A n cp) := (Only.refl _ _).alloc _
theorem NetPost.keep (h : NetIs 75 w base nb F H c) (kind way i k : Int) (A : Option Addr) (n cp : Nat) : NetPost 75 base nb F H c w (boxed w kind way i k A n cp) :=
  NetPost.same h (boxed_only w kind way i k A n cp)
theorem DoPost.no {e : Ending} {s : Nat} {x : Int} (hn : NetPost 75 base nb F H c' w w') : DoPost base nb F H ⟨c', s, [], x⟩ w (.returned (.tuple #[.int .i64 s, .slice none 0 0, .int .i64 x])) w' :=
  ⟨_, rfl, byt_nil _, fun k hk => (ownB_none hk).elim, hn⟩
theorem hasC_there {i way : Int} (h : hasC c way i = true) : thereC c way = true := by simp only [hasC, Bool.and_eq_true] at h; exact h.1.1
theorem thereC_bd {way : Int} (h : thereC c way = true) : 0 ≤ way ∧ way < c.length := by simpa only [thereC, Bool.and_eq_true, decide_eq_true_eq] using h
end
theorem ndo_any (base nb : Nat) (F H : Nat → Prop) (c : Cont) (kind way i k : Int) (A : Option Addr) (cp : Nat) (fs : List Value) (ls : List (List Int)) (w : World) (h : NetIs 75 w base nb F H c) (hbase : base ≤ w.heap.size)
    (hfin : Fin w base A fs ls) (hlen : ls.length ≤ 1000000) (hcp : ls.length ≤ cp) (hcm : cp ≤ maxLen) :
    Calls Try.prog 21 #[.pointer (some ⟨nb, 0, none⟩), actV kind way i k (.slice A ls.length cp)] w (DoPost base nb F H (doC c kind way i k ls) w) := by
  have hbo := boxed_only w kind way i k A ls.length cp
  have hb2 : base ≤ (boxed w kind way i k A ls.length cp).heap.size := Nat.le_trans hbase hbo.size
  have hn2 := h.keep hbo
  have hfr := (hfin.only hbo fun _ h => h.elim).frs (F := F) fun x hx => h.hi hx
  have hkp := NetPost.keep h kind way i k A ls.length cp
  unfold doC
  by_cases h0 : kind = 0
  · subst h0
    rw [if_pos rfl]
    cases hb : thereC c way
    · rw [if_neg (by decide)]
      have ht := nthere_any nb base F H c way _ hn2
      rw [hb] at ht
      refine (ndo_0 _ way i k A ls.length cp w (fun s w' => s = 0 ∧ boxed w 0 way i k A ls.length cp = w') ((nsend_no _ _ _ _ ht).mono ?_)).mono ?_
      · rintro e w' ⟨rfl, rfl⟩; exact ⟨0, rfl, rfl, rfl⟩
      · rintro e w' ⟨s, rfl, rfl, rfl⟩; exact DoPost.no (e := .outgrown) hkp
    · rw [if_pos rfl]
      have hw := thereC_bd hb
      refine (ndo_0 _ way i k A ls.length cp w (fun s w' => s = (min ls.length (400 - (c.row way.toNat).length) : Nat) ∧ NetPost 75 base nb F H (sendK c way.toNat ls (min ls.length (400 - (c.row way.toNat).length))) (boxed w 0 way i k A ls.length cp) w')
        ((nsend_yes base nb F H c way A cp fs ls _ hn2 hb2 hfr hlen hcp hcm hw.1 hw.2).mono ?_)).mono ?_
      · rintro e w' ⟨rfl, hp⟩; exact ⟨_, rfl, rfl, hp⟩
      · rintro e w' ⟨s, rfl, rfl, hp⟩; exact DoPost.no (e := .outgrown) (hp.unbox)
  rw [if_neg h0]
  have hwr := nwrong_any nb base F H c way i _ hn2
  by_cases h1 : kind = 1
  · subst h1
    rw [if_pos rfl]
    cases hb : hasC c way i
    · rw [if_neg (by decide)]
      rw [hb] at hwr
      refine (ndo_1 _ way i k A ls.length cp w (fun v s w' => v = .slice none 0 0 ∧ s = 5 ∧ boxed w 1 way i k A ls.length cp = w') ((ntake_no _ _ _ 5 _ (by decide) hwr).mono ?_)).mono ?_
      · rintro e w' ⟨rfl, rfl⟩; exact ⟨_, 5, rfl, rfl, rfl, rfl⟩
      · rintro e w' ⟨v, s, rfl, rfl, rfl, rfl⟩; exact DoPost.no (e := .outgrown) hkp
    · rw [if_pos rfl]
      refine (ndo_1 _ way i k A ls.length cp w (fun v s w' => s = 0 ∧ Byt w' v ((c.row way.toNat).getD i.toNat []) ∧ (∀ k, ownB v k → H k ∧ ¬ F k) ∧ NetPost 75 base nb F H (c.set way.toNat ((c.row way.toNat).eraseIdx i.toNat)) (boxed w 1 way i k A ls.length cp) w')
        ((ntake_yes base nb F H c way i _ hn2 hb2 hb).mono ?_)).mono ?_
      · rintro e w' ⟨v, rfl, hv, hvk, hp⟩; exact ⟨v, 0, rfl, rfl, hv, fun k hk => ⟨(hvk k hk).2.2, (hvk k hk).2.1⟩, hp⟩
      · rintro e w' ⟨v, s, rfl, rfl, hv, hvk, hp⟩; exact ⟨v, rfl, hv, hvk, hp.unbox⟩
  rw [if_neg h1]
  by_cases h2 : kind = 2
  · subst h2
    rw [if_pos rfl]
    cases hb : hasC c way i
    · rw [if_neg (by decide)]
      rw [hb] at hwr
      refine (ndo_2 _ way i k A ls.length cp w (fun s w' => s = 5 ∧ boxed w 2 way i k A ls.length cp = w') ((ntwice_no _ _ _ 5 _ (by decide) hwr).mono ?_)).mono ?_
      · rintro e w' ⟨rfl, rfl⟩; exact ⟨5, rfl, rfl, rfl⟩
      · rintro e w' ⟨s, rfl, rfl, rfl⟩; exact DoPost.no (e := .outgrown) hkp
    · rw [if_pos rfl]
      by_cases h4 : (c.row way.toNat).length < 400
      · rw [if_pos h4]
        refine (ndo_2 _ way i k A ls.length cp w (fun s w' => s = 0 ∧ NetPost 75 base nb F H (c.set way.toNat (c.row way.toNat ++ [(c.row way.toNat).getD i.toNat []])) (boxed w 2 way i k A ls.length cp) w')
          ((ntwice_yes base nb F H c way i _ hn2 hb2 hb h4).mono ?_)).mono ?_
        · rintro e w' ⟨rfl, hp⟩; exact ⟨_, rfl, rfl, hp⟩
        · rintro e w' ⟨s, rfl, rfl, hp⟩; exact DoPost.no (e := .outgrown) (hp.unbox)
      · rw [if_neg h4]
        have hw := thereC_bd (hasC_there hb)
        have hn2' := hn2
        obtain ⟨hv, vs, rows, hA⟩ := hn2'
        have hj : way.toNat < vs.length := by rw [← hA.nc]; omega
        obtain ⟨wb, cpw, A0, cq0, _, n0, _, n1, _, _, _⟩ := hA.way hj
        rw [hb] at hwr
        refine (ndo_2 _ way i k A ls.length cp w (fun s w' => s = 4 ∧ boxed w 2 way i k A ls.length cp = w') ((ntwice_full nb wb vs.length cpw _ cq0 A0 way i _ hw.1 (by rw [← hA.nc]; exact hw.2) (by rw [← hA.nc]; exact hA.c32) (by omega) (hA.c400 _ hj) n0 n1 hwr).mono ?_)).mono ?_
        · rintro e w' ⟨rfl, rfl⟩; exact ⟨4, rfl, rfl, rfl⟩
        · rintro e w' ⟨s, rfl, rfl, rfl⟩; exact DoPost.no (e := .outgrown) hkp
  rw [if_neg h2]
  by_cases h3 : kind = 3
  · subst h3
    rw [if_pos rfl]
    cases hb : hasC c way i
    · rw [if_neg (by decide)]
      rw [hb] at hwr
      refine (ndo_3 _ way i k A ls.length cp w (fun s w' => s = 5 ∧ boxed w 3 way i k A ls.length cp = w') ((nlose_no _ _ _ 5 _ _ (ntake_no _ _ _ 5 _ (by decide) hwr)).mono ?_)).mono ?_
      · rintro e w' ⟨rfl, rfl⟩; exact ⟨5, rfl, rfl, rfl⟩
      · rintro e w' ⟨s, rfl, rfl, rfl⟩; exact DoPost.no (e := .outgrown) hkp
    · rw [if_pos rfl]
      refine (ndo_3 _ way i k A ls.length cp w (fun s w' => s = 0 ∧ NetPost 75 base nb F H (c.set way.toNat ((c.row way.toNat).eraseIdx i.toNat)) (boxed w 3 way i k A ls.length cp) w')
        ((nlose_yes base nb F H c way i _ hn2 hb2 hb).mono ?_)).mono ?_
      · rintro e w' ⟨rfl, hp⟩; exact ⟨_, rfl, rfl, hp⟩
      · rintro e w' ⟨s, rfl, rfl, hp⟩; exact DoPost.no (e := .outgrown) (hp.unbox)
  rw [if_neg h3]
  by_cases h4 : kind = 4
  · subst h4
    rw [if_pos rfl]
    cases hb : hasC c way i
    · rw [if_neg (by simp)]
      rw [hb] at hwr
      refine (ndo_4 _ way i k A ls.length cp w (fun s w' => s = 5 ∧ boxed w 4 way i k A ls.length cp = w') ((nturn_no1 _ _ _ _ 5 _ (by decide) hwr).mono ?_)).mono ?_
      · rintro e w' ⟨rfl, rfl⟩; exact ⟨5, rfl, rfl, rfl⟩
      · rintro e w' ⟨s, rfl, rfl, rfl⟩; exact DoPost.no (e := .outgrown) hkp
    · cases hbk : hasC c way k
      · rw [if_neg (by decide)]
        have hwk := nwrong_any nb base F H c way k _ hn2
        rw [hb] at hwr
        rw [hbk] at hwk
        refine (ndo_4 _ way i k A ls.length cp w (fun s w' => s = 5 ∧ boxed w 4 way i k A ls.length cp = w') ((nturn_no2 _ _ _ _ 5 _ (by decide) hwr hwk).mono ?_)).mono ?_
        · rintro e w' ⟨rfl, rfl⟩; exact ⟨5, rfl, rfl, rfl⟩
        · rintro e w' ⟨s, rfl, rfl, rfl⟩; exact DoPost.no (e := .outgrown) hkp
      · rw [if_pos (by decide)]
        refine (ndo_4 _ way i k A ls.length cp w (fun s w' => s = 0 ∧ NetPost 75 base nb F H (c.set way.toNat (swapL (c.row way.toNat) i.toNat k.toNat)) (boxed w 4 way i k A ls.length cp) w')
          ((nturn_yes base nb F H c way i k _ hn2 hb2 hb hbk).mono ?_)).mono ?_
        · rintro e w' ⟨rfl, hp⟩; exact ⟨_, rfl, rfl, hp⟩
        · rintro e w' ⟨s, rfl, rfl, hp⟩; exact DoPost.no (e := .outgrown) (hp.unbox)
  rw [if_neg h4]
  refine (ndo_5 _ kind way i k A ls.length cp w (fun w' => NetPost 75 base nb F H (clearC c way) (boxed w kind way i k A ls.length cp) w') (by omega) ((nclear_any base nb F H c way _ hn2 hb2).mono ?_)).mono ?_
  · rintro e w' ⟨rfl, hp⟩; exact ⟨rfl, hp⟩
  · rintro e w' ⟨rfl, hp⟩; exact DoPost.no (e := .outgrown) (hp.unbox)
end Go.Proofs.Ytlagccfllnhgbaa
