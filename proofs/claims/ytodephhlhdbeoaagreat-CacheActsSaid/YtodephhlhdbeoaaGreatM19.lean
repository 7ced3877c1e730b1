/- Several texts, one behind the other: MqL MqM. -/
import Derived.Test.YtodephhlhdbeoaaGreatM11
import Derived.Lib.BitFns
namespace Go.Proofs.YtodephhlhdbeoaaGreat
set_option linter.unusedVariables false
structure Djl (m : Nat) (S : Nat → List Int) : Prop where
  nodup : ∀ i, (S i).Nodup
  dj : ∀ {i j : Nat} {b : Int}, b ∈ S i → b ∈ S j → i = j
  rng : ∀ {i : Nat} {b : Int}, b ∈ S i → 0 ≤ b ∧ b < 64
  out : ∀ i, m ≤ i → S i = []
def eraS (S : Nat → List Int) (b : Int) : Nat → List Int := fun j => (S j).erase b
def toF (S : Nat → List Int) (i : Nat) (b : Int) : Nat → List Int := frontS (eraS S b) i b
theorem mem_eraS {m : Nat} {S : Nat → List Int} (h : Djl m S) {b y : Int} {j : Nat} : y ∈ eraS S b j ↔ y ≠ b ∧ y ∈ S j := (h.nodup j).mem_erase_iff
theorem mem_toF {m : Nat} {S : Nat → List Int} (h : Djl m S) {b y : Int} {i j : Nat} : y ∈ toF S i b j ↔ (y = b ∧ j = i) ∨ (y ≠ b ∧ y ∈ S j) := by
  unfold toF frontS updN
  split
  · rename_i e; subst e
    rw [List.mem_cons, mem_eraS h]
    simp
  · rename_i e
    rw [mem_eraS h]
    exact ⟨.inr, fun h => h.resolve_left fun h => e h.2⟩
theorem Djl.era {m : Nat} {S : Nat → List Int} (h : Djl m S) (b : Int) : Djl m (eraS S b) :=
  ⟨fun i => (h.nodup i).erase b, fun h1 h2 => h.dj ((mem_eraS h).1 h1).2 ((mem_eraS h).1 h2).2, fun h1 => h.rng ((mem_eraS h).1 h1).2, fun i hi => by unfold eraS; rw [h.out i hi]; rfl⟩
theorem Djl.toF {m : Nat} {S : Nat → List Int} (h : Djl m S) {b : Int} {i : Nat} (hi : i < m) (h0 : 0 ≤ b) (h1 : b < 64) : Djl m (toF S i b) := by
  refine ⟨fun j => ?_, fun {j k y} hj hk => ?_, fun {j y} hj => ?_, fun j hj => ?_⟩
  · unfold Go.Proofs.YtodephhlhdbeoaaGreat.toF frontS updN
    split
    · exact List.nodup_cons.2 ⟨List.Nodup.not_mem_erase (h.nodup i), (h.era b).nodup i⟩
    · exact (h.era b).nodup j
  · rcases (mem_toF h).1 hj with ⟨e1, e2⟩ | ⟨e1, e2⟩ <;> rcases (mem_toF h).1 hk with ⟨e3, e4⟩ | ⟨e3, e4⟩
    · omega
    · exact absurd e1 e3
    · exact absurd e3 e1
    · exact h.dj e2 e4
  · rcases (mem_toF h).1 hj with ⟨e1, e2⟩ | ⟨e1, e2⟩
    · omega
    · exact h.rng e2
  · unfold Go.Proofs.YtodephhlhdbeoaaGreat.toF frontS updN
    rw [if_neg (by omega)]
    exact (h.era b).out j hj
structure MqP where
  cap : Nat
  q : Nat
  life : Nat
  ghost : Nat
structure MqP.Ok (P : MqP) : Prop where
  c1 : 1 ≤ P.cap
  c16 : P.cap ≤ 16
  q1 : 1 ≤ P.q
  q8 : P.q ≤ 8
  l1 : 1 ≤ P.life
  l100 : P.life ≤ 100
  g16 : P.ghost ≤ 16
structure MqS where
  S : Nat → List Int
  now : Int
  often : Int → Int
  exp : Int → Int
def mqQ (P : MqP) (n : Int) : Nat := min (Lib.bitLen n.toNat - 1) (P.q - 1)
def mqFront (P : MqP) (s : MqS) (i : Nat) (b : Int) : MqS := { s with S := toF s.S i b, exp := updI s.exp b (s.now + P.life) }
def mqPlace (P : MqP) (s : MqS) (b : Int) : MqS := mqFront P s (mqQ P (s.often b)) b
def mqDown (s : MqS) (i : Nat) : Bool := decide (s.S i ≠ []) && decide (s.exp (lst (s.S i)) < s.now)
def mqAge1 (P : MqP) (s : MqS) (i : Nat) : MqS := if mqDown s i = true then mqFront P s (i - 1) (lst (s.S i)) else s
def mqAgeN (P : MqP) (s : MqS) : Nat → MqS
  | 0 => s
  | k + 1 => mqAge1 P (mqAgeN P s k) (k + 1)
def mqAge (P : MqP) (s : MqS) : MqS := mqAgeN P s (P.q - 1)
def mqTick (s : MqS) : MqS := { s with now := s.now + 1 }
def mqMore (s : MqS) (b : Int) : MqS := { s with often := updI s.often b (s.often b + 1) }
def mqUsed (P : MqP) (s : MqS) (b : Int) : MqS := mqAge P (mqPlace P (mqMore s b) b)
def mqUse (P : MqP) (s : MqS) (b : Int) : MqS := mqUsed P (mqTick s) b
def mqFrom (S : Nat → List Int) : Nat → List Int
  | 0 => []
  | k + 1 => S k ++ mqFrom S k
def mqAll (P : MqP) (s : MqS) : List Int := mqFrom s.S P.q
def mqQ0 (P : MqP) (s : MqS) : Nat := ((List.range P.q).find? fun i => decide (s.S i ≠ [])).getD 0
def mqVict (P : MqP) (s : MqS) : Int := lst (s.S (mqQ0 P s))
def mqGhosted (P : MqP) (s : MqS) : MqS := { s with S := toF s.S P.q (mqVict P s) }
def mqEvict (P : MqP) (s : MqS) : MqS :=
  if P.ghost < ((mqGhosted P s).S P.q).length then { mqGhosted P s with S := eraS (mqGhosted P s).S (lst ((mqGhosted P s).S P.q)) } else mqGhosted P s
def mqIn (P : MqP) (s : MqS) (b : Int) : Bool := (List.range (P.q + 1)).any fun i => decide (b ∈ s.S i)
def mqFresh (P : MqP) (s : MqS) (b : Int) : MqS := if mqIn P s b = true then s else { s with often := updI s.often b 0 }
def mqAdd (P : MqP) (s : MqS) (b : Int) : MqS × Int × Bool :=
  if b ∈ mqAll P s then (mqUse P s b, 0, false)
  else if (mqAll P s).length = P.cap then (mqUsed P (mqFresh P (mqEvict P (mqTick s)) b) b, mqVict P (mqTick s), true)
  else (mqUsed P (mqFresh P (mqTick s) b) b, 0, false)
def mqRem (s : MqS) (b : Int) : MqS := { s with S := eraS s.S b }
structure MqOk (P : MqP) (s : MqS) : Prop where
  dj : Djl (P.q + 1) s.S
  now : 0 ≤ s.now
  often : ∀ b, 0 ≤ s.often b ∧ s.often b ≤ s.now
theorem mem_from (S : Nat → List Int) (y : Int) : ∀ k, y ∈ mqFrom S k ↔ ∃ i, i < k ∧ y ∈ S i
  | 0 => ⟨fun h => (by cases h), fun ⟨i, h, _⟩ => absurd h (Nat.not_lt_zero _)⟩
  | k + 1 => by
    rw [mqFrom, List.mem_append, mem_from S y k]
    refine ⟨fun h => h.elim (fun h => ⟨k, Nat.lt_succ_self _, h⟩) fun ⟨i, h1, h2⟩ => ⟨i, by omega, h2⟩, fun ⟨i, h1, h2⟩ => ?_⟩
    by_cases e : i = k
    · exact .inl (e ▸ h2)
    · exact .inr ⟨i, by omega, h2⟩
theorem mem_all {P : MqP} {s : MqS} {y : Int} : y ∈ mqAll P s ↔ ∃ i, i < P.q ∧ y ∈ s.S i := mem_from _ _ _
theorem from_nodup {m : Nat} {S : Nat → List Int} (h : Djl m S) : ∀ k, (mqFrom S k).Nodup
  | 0 => List.nodup_nil
  | k + 1 => by
    rw [mqFrom, List.nodup_append]
    refine ⟨h.nodup k, from_nodup h k, fun a ha b hb e => ?_⟩
    subst e
    obtain ⟨i, hi, h2⟩ := (mem_from S a k).1 hb
    have := h.dj ha h2
    omega
theorem len_of_mem {l l' : List Int} (h : l.Nodup) (h' : l'.Nodup) (hm : ∀ y, y ∈ l ↔ y ∈ l') : l.length = l'.length :=
  ((List.perm_ext_iff_of_nodup h h').2 hm).length_eq
theorem mqFront_ok {P : MqP} {s : MqS} (h : MqOk P s) {i : Nat} {b : Int} (hi : i < P.q + 1) (h0 : 0 ≤ b) (h1 : b < 64) : MqOk P (mqFront P s i b) := ⟨h.dj.toF hi h0 h1, h.now, h.often⟩
theorem lst_in {L : List Int} (h : L ≠ []) : lst L ∈ L := by
  cases L with
  | nil => exact absurd rfl h
  | cons a L =>
    clear h
    induction L generalizing a with
    | nil => exact List.mem_cons_self ..
    | cons c L ih =>
      rw [lst_cons, if_neg (by simp)]
      exact List.mem_cons_of_mem _ (ih c)
theorem mqDown_ne {s : MqS} {i : Nat} (h : mqDown s i = true) : s.S i ≠ [] := by
  unfold mqDown at h
  simp only [Bool.and_eq_true, decide_eq_true_eq] at h
  exact h.1
structure SameQ (P : MqP) (s s' : MqS) : Prop where
  ok : MqOk P s'
  mem : ∀ y, y ∈ mqAll P s' ↔ y ∈ mqAll P s
  gh : s'.S P.q = s.S P.q
  now : s'.now = s.now
  often : s'.often = s.often
theorem SameQ.refl {P : MqP} {s : MqS} (h : MqOk P s) : SameQ P s s := ⟨h, fun _ => Iff.rfl, rfl, rfl, rfl⟩
theorem SameQ.trans {P : MqP} {a b c : MqS} (h : SameQ P a b) (k : SameQ P b c) : SameQ P a c := ⟨k.ok, fun y => (k.mem y).trans (h.mem y), k.gh.trans h.gh, k.now.trans h.now, k.often.trans h.often⟩
theorem age1_same {P : MqP} {s : MqS} (h : MqOk P s) {i : Nat} (hi1 : 1 ≤ i) (hi : i < P.q) : SameQ P s (mqAge1 P s i) := by
  unfold mqAge1
  split
  · rename_i hd
    have hm := lst_in (mqDown_ne hd)
    obtain ⟨h0, h1⟩ := h.dj.rng hm
    have hok := mqFront_ok (i := i - 1) h (by omega) h0 h1
    refine ⟨hok, fun y => ?_, ?_, rfl, rfl⟩
    · rw [mem_all, mem_all]
      refine ⟨fun ⟨j, hj, hy⟩ => ?_, fun ⟨j, hj, hy⟩ => ?_⟩
      · rcases (mem_toF h.dj).1 hy with ⟨e1, e2⟩ | ⟨e1, e2⟩
        · exact ⟨i, hi, e1 ▸ hm⟩
        · exact ⟨j, hj, e2⟩
      · by_cases e : y = lst (s.S i)
        · exact ⟨i - 1, by omega, (mem_toF h.dj).2 (.inl ⟨e, rfl⟩)⟩
        · exact ⟨j, hj, (mem_toF h.dj).2 (.inr ⟨e, hy⟩)⟩
    · show toF s.S (i - 1) (lst (s.S i)) P.q = s.S P.q
      unfold toF frontS updN eraS
      rw [if_neg (by omega), List.erase_of_not_mem]
      intro h2
      have := h.dj.dj hm h2
      omega
  · exact .refl h
theorem ageN_same {P : MqP} {s : MqS} (h : MqOk P s) : ∀ k, k < P.q → SameQ P s (mqAgeN P s k)
  | 0, _ => .refl h
  | k + 1, hk => (ageN_same h k (by omega)).trans (age1_same (ageN_same h k (by omega)).ok (by omega) hk)
theorem age_same {P : MqP} {s : MqS} (hP : P.Ok) (h : MqOk P s) : SameQ P s (mqAge P s) := ageN_same h _ (by have := hP.q1; omega)
theorem mqQ_lt {P : MqP} (hP : P.Ok) (n : Int) : mqQ P n < P.q := by
  unfold mqQ
  have := hP.q1
  omega
theorem tick_ok {P : MqP} {s : MqS} (h : MqOk P s) : MqOk P (mqTick s) := ⟨h.dj, by have := h.now; show 0 ≤ s.now + 1; omega, fun b => by have := h.often b; show 0 ≤ s.often b ∧ s.often b ≤ s.now + 1; omega⟩
theorem used_all {P : MqP} {s : MqS} {b : Int} (hP : P.Ok) (h : MqOk P s) (ho : s.often b + 1 ≤ s.now) (h0 : 0 ≤ b) (h1 : b < 64) :
    MqOk P (mqUsed P s b) ∧ (mqUsed P s b).now = s.now ∧ (∀ y, y ∈ mqAll P (mqUsed P s b) ↔ y = b ∨ y ∈ mqAll P s) ∧ (mqUsed P s b).S P.q = (s.S P.q).erase b := by
  have hm : MqOk P (mqMore s b) := ⟨h.dj, h.now, fun y => by
    show 0 ≤ updI s.often b (s.often b + 1) y ∧ updI s.often b (s.often b + 1) y ≤ s.now
    unfold updI
    have h2 := h.often b
    have h3 := h.often y
    split <;> omega⟩
  have hq := mqQ_lt hP ((mqMore s b).often b)
  have hp : MqOk P (mqPlace P (mqMore s b) b) := mqFront_ok hm (by omega) h0 h1
  have ha := age_same hP hp
  refine ⟨ha.ok, ha.now, fun y => ?_, ha.gh.trans ?_⟩
  · rw [show mqAll P (mqUsed P s b) = mqAll P (mqAge P (mqPlace P (mqMore s b) b)) from rfl, ha.mem y, mem_all, mem_all]
    refine ⟨fun ⟨j, hj, hy⟩ => ?_, fun hy => ?_⟩
    · rcases (mem_toF h.dj).1 hy with ⟨e1, e2⟩ | ⟨e1, e2⟩
      · exact .inl e1
      · exact .inr ⟨j, hj, e2⟩
    · by_cases e : y = b
      · exact ⟨_, hq, (mem_toF h.dj).2 (.inl ⟨e, rfl⟩)⟩
      · obtain ⟨j, hj, hy⟩ := hy.resolve_left e
        exact ⟨j, hj, (mem_toF h.dj).2 (.inr ⟨e, hy⟩)⟩
  · show toF s.S (mqQ P ((mqMore s b).often b)) b P.q = (s.S P.q).erase b
    unfold toF frontS updN eraS
    rw [if_neg (by omega)]
structure MqI (P : MqP) (s : MqS) : Prop where
  ok : MqOk P s
  len : (mqAll P s).length ≤ P.cap
  gh : (s.S P.q).length ≤ P.ghost
theorem all_nodup {P : MqP} {s : MqS} (h : MqOk P s) : (mqAll P s).Nodup := from_nodup h.dj _
theorem all_rng {P : MqP} {s : MqS} (h : MqOk P s) {b : Int} (hb : b ∈ mqAll P s) : 0 ≤ b ∧ b < 64 := by
  obtain ⟨i, _, h2⟩ := mem_all.1 hb
  exact h.dj.rng h2
theorem not_ghost {P : MqP} {s : MqS} (h : MqOk P s) {b : Int} (hb : b ∈ mqAll P s) : b ∉ s.S P.q := fun h2 => by
  obtain ⟨i, hi, h3⟩ := mem_all.1 hb
  have := h.dj.dj h2 h3
  omega
theorem use_inv {P : MqP} {s : MqS} {b : Int} (hP : P.Ok) (h : MqI P s) (hb : b ∈ mqAll P s) : MqI P (mqUse P s b) ∧ (mqUse P s b).now = s.now + 1 ∧ ∀ y, y ∈ mqAll P (mqUse P s b) ↔ y ∈ mqAll P s := by
  obtain ⟨h0, h1⟩ := all_rng h.ok hb
  obtain ⟨ha, hn, hm, hg⟩ := used_all (b := b) hP (tick_ok h.ok) (by have := (h.ok.often b).2; show s.often b + 1 ≤ s.now + 1; omega) h0 h1
  have hm' : ∀ y, y ∈ mqAll P (mqUse P s b) ↔ y ∈ mqAll P s := fun y => by
    rw [show mqAll P (mqUse P s b) = mqAll P (mqUsed P (mqTick s) b) from rfl, hm y]
    exact ⟨fun h => h.elim (fun e => e ▸ hb) id, .inr⟩
  refine ⟨⟨ha, ?_, ?_⟩, hn, hm'⟩
  · rw [len_of_mem (l := mqAll P (mqUse P s b)) (all_nodup ha) (all_nodup h.ok) hm']; exact h.len
  · show ((mqUsed P (mqTick s) b).S P.q).length ≤ P.ghost
    rw [hg]
    exact Nat.le_trans (List.length_erase_le ..) h.gh
theorem rem_inv {P : MqP} {s : MqS} {b : Int} (h : MqI P s) (hb : b ∈ mqAll P s) : MqI P (mqRem s b) ∧ ∀ y, y ∈ mqAll P (mqRem s b) ↔ y ∈ mqAll P s ∧ y ≠ b := by
  have hok : MqOk P (mqRem s b) := ⟨h.ok.dj.era b, h.ok.now, h.ok.often⟩
  have hm : ∀ y, y ∈ mqAll P (mqRem s b) ↔ y ∈ mqAll P s ∧ y ≠ b := fun y => by
    rw [mem_all, mem_all]
    exact ⟨fun ⟨i, hi, hy⟩ => ⟨⟨i, hi, ((mem_eraS h.ok.dj).1 hy).2⟩, ((mem_eraS h.ok.dj).1 hy).1⟩, fun ⟨⟨i, hi, hy⟩, hne⟩ => ⟨i, hi, (mem_eraS h.ok.dj).2 ⟨hne, hy⟩⟩⟩
  refine ⟨⟨hok, ?_, Nat.le_trans (List.length_erase_le ..) h.gh⟩, hm⟩
  have h1 := len_of_mem (all_nodup hok) ((all_nodup h.ok).erase b) fun y => by rw [hm y, (all_nodup h.ok).mem_erase_iff]; exact ⟨fun h => ⟨h.2, h.1⟩, fun h => ⟨h.2, h.1⟩⟩
  rw [h1]
  exact Nat.le_trans (List.length_erase_le ..) h.len
theorem q0_spec {P : MqP} {s : MqS} (h : mqAll P s ≠ []) : mqQ0 P s < P.q ∧ s.S (mqQ0 P s) ≠ [] ∧ ∀ i, i < mqQ0 P s → s.S i = [] := by
  unfold mqQ0
  cases hf : (List.range P.q).find? (fun i => decide (s.S i ≠ [])) with
  | none =>
    exfalso
    rw [List.find?_eq_none] at hf
    cases ha : mqAll P s with
    | nil => exact h ha
    | cons a l =>
      have : a ∈ mqAll P s := by rw [ha]; exact List.mem_cons_self ..
      obtain ⟨i, hi, h2⟩ := mem_all.1 this
      have := hf i (List.mem_range.2 hi)
      simp only [decide_eq_true_eq, Decidable.not_not] at this
      rw [this] at h2
      cases h2
  | some i =>
    obtain ⟨h1, as, bs, h2, h3⟩ := List.find?_eq_some_iff_append.1 hf
    have him : i ∈ List.range P.q := by rw [h2]; simp
    refine ⟨List.mem_range.1 him, by simpa using h1, fun j hj => ?_⟩
    have hja : j ∈ as := by
      have hs : (List.range P.q).Pairwise (· < ·) := List.pairwise_lt_range
      rw [h2, List.pairwise_append] at hs
      have hjm : j ∈ as ++ i :: bs := by rw [← h2]; exact List.mem_range.2 (by have := List.mem_range.1 him; have hj : j < i := hj; omega)
      rcases List.mem_append.1 hjm with h4 | h4
      · exact h4
      · exfalso
        have hj : j < i := hj
        rcases List.mem_cons.1 h4 with rfl | h4
        · omega
        · have := (List.pairwise_cons.1 hs.2.1).1 j h4
          omega
    have := h3 j hja
    simpa using this
theorem vict_in {P : MqP} {s : MqS} (h : mqAll P s ≠ []) : mqVict P s ∈ s.S (mqQ0 P s) := lst_in (q0_spec h).2.1
theorem vict_all {P : MqP} {s : MqS} (h : mqAll P s ≠ []) : mqVict P s ∈ mqAll P s := mem_all.2 ⟨_, (q0_spec h).1, vict_in h⟩
theorem evict_inv {P : MqP} {s : MqS} (hP : P.Ok) (h : MqI P s) (hne : mqAll P s ≠ []) :
    MqOk P (mqEvict P s) ∧ (mqEvict P s).now = s.now ∧ (mqEvict P s).often = s.often ∧ ((mqEvict P s).S P.q).length ≤ P.ghost ∧ ∀ y, y ∈ mqAll P (mqEvict P s) ↔ y ∈ mqAll P s ∧ y ≠ mqVict P s := by
  have hv := vict_all hne
  obtain ⟨h0, h1⟩ := all_rng h.ok hv
  have hvg := not_ghost h.ok hv
  have hg : MqOk P (mqGhosted P s) := ⟨h.ok.dj.toF (Nat.lt_succ_self _) h0 h1, h.ok.now, h.ok.often⟩
  have hgq : (mqGhosted P s).S P.q = mqVict P s :: s.S P.q := by
    show toF s.S P.q (mqVict P s) P.q = _
    unfold toF frontS updN eraS
    rw [if_pos rfl, List.erase_of_not_mem hvg]
  have hgm : ∀ y, y ∈ mqAll P (mqGhosted P s) ↔ y ∈ mqAll P s ∧ y ≠ mqVict P s := fun y => by
    rw [mem_all, mem_all]
    refine ⟨fun ⟨j, hj, hy⟩ => ?_, fun ⟨⟨j, hj, hy⟩, hne⟩ => ⟨j, hj, (mem_toF h.ok.dj).2 (.inr ⟨hne, hy⟩)⟩⟩
    rcases (mem_toF h.ok.dj).1 hy with ⟨e1, e2⟩ | ⟨e1, e2⟩
    · omega
    · exact ⟨⟨j, hj, e2⟩, e1⟩
  unfold mqEvict
  split
  · rename_i hlt
    have hl : lst ((mqGhosted P s).S P.q) ∈ (mqGhosted P s).S P.q := lst_in (by rw [hgq]; simp)
    refine ⟨⟨hg.dj.era _, hg.now, hg.often⟩, rfl, rfl, ?_, fun y => ?_⟩
    · show (((mqGhosted P s).S P.q).erase _).length ≤ P.ghost
      rw [List.length_erase_of_mem hl, hgq, List.length_cons]
      have := h.gh
      omega
    · rw [← hgm y, mem_all, mem_all]
      refine ⟨fun ⟨j, hj, hy⟩ => ⟨j, hj, ((mem_eraS hg.dj).1 hy).2⟩, fun ⟨j, hj, hy⟩ => ⟨j, hj, (mem_eraS hg.dj).2 ⟨fun e => ?_, hy⟩⟩⟩
      have := hg.dj.dj (e ▸ hl) hy
      omega
  · rename_i hlt
    exact ⟨hg, rfl, rfl, by omega, hgm⟩
theorem fresh_inv {P : MqP} {s : MqS} (h : MqOk P s) (b : Int) (hn : 1 ≤ s.now) (ho : ∀ y, s.often y + 1 ≤ s.now) :
    MqOk P (mqFresh P s b) ∧ (mqFresh P s b).now = s.now ∧ (mqFresh P s b).S = s.S ∧ (mqFresh P s b).often b + 1 ≤ s.now := by
  unfold mqFresh
  split
  · exact ⟨h, rfl, rfl, ho b⟩
  · refine ⟨⟨h.dj, h.now, fun y => ?_⟩, rfl, rfl, ?_⟩
    · show 0 ≤ updI s.often b 0 y ∧ updI s.often b 0 y ≤ s.now
      have := h.often y
      unfold updI
      split <;> omega
    · show updI s.often b 0 b + 1 ≤ s.now
      unfold updI
      rw [if_pos rfl]
      omega
theorem all_congr {P : MqP} {s s' : MqS} (h : s.S = s'.S) : mqAll P s = mqAll P s' := by unfold mqAll; rw [h]
theorem put_inv {P : MqP} {s : MqS} {b : Int} (hP : P.Ok) (h : MqOk P s) (hn : 1 ≤ s.now) (ho : ∀ y, s.often y + 1 ≤ s.now) (hg : (s.S P.q).length ≤ P.ghost) (hl : (mqAll P s).length < P.cap) (hb : b ∉ mqAll P s) (h0 : 0 ≤ b) (h1 : b < 64) :
    MqI P (mqUsed P (mqFresh P s b) b) ∧ (mqUsed P (mqFresh P s b) b).now = s.now ∧ ∀ y, y ∈ mqAll P (mqUsed P (mqFresh P s b) b) ↔ y = b ∨ y ∈ mqAll P s := by
  obtain ⟨f1, f2, f3, f4⟩ := fresh_inv h b hn ho
  obtain ⟨u1, u2, u3, u4⟩ := used_all hP f1 (by rw [f2]; exact f4) h0 h1
  have hm : ∀ y, y ∈ mqAll P (mqUsed P (mqFresh P s b) b) ↔ y = b ∨ y ∈ mqAll P s := fun y => by rw [u3 y, all_congr f3]
  refine ⟨⟨u1, ?_, ?_⟩, u2.trans f2, hm⟩
  · have h2 := len_of_mem (all_nodup u1) (List.nodup_cons.2 ⟨hb, all_nodup h⟩) fun y => by rw [hm y, List.mem_cons]
    rw [h2, List.length_cons]
    exact hl
  · rw [u4, f3]
    exact Nat.le_trans (List.length_erase_le ..) hg
theorem add_inv {P : MqP} {s : MqS} {b : Int} (hP : P.Ok) (h : MqI P s) (h0 : 0 ≤ b) (h1 : b < 64) :
    MqI P (mqAdd P s b).1 ∧ (mqAdd P s b).1.now = s.now + 1 ∧
    (((mqAdd P s b).2.2 = false ∧ (mqAdd P s b).2.1 = 0 ∧ ∀ y, y ∈ mqAll P (mqAdd P s b).1 ↔ y = b ∨ y ∈ mqAll P s) ∨
     ((mqAdd P s b).2.2 = true ∧ (mqAdd P s b).2.1 ∈ mqAll P s ∧ b ∉ mqAll P s ∧ ∀ y, y ∈ mqAll P (mqAdd P s b).1 ↔ y = b ∨ (y ∈ mqAll P s ∧ y ≠ (mqAdd P s b).2.1))) := by
  unfold mqAdd
  by_cases hb : b ∈ mqAll P s
  · rw [if_pos hb]
    obtain ⟨u1, u2, u3⟩ := use_inv hP h hb
    exact ⟨u1, u2, .inl ⟨rfl, rfl, fun y => (u3 y).trans ⟨.inr, fun h => h.elim (fun e => e ▸ hb) id⟩⟩⟩
  · rw [if_neg hb]
    have ht : MqI P (mqTick s) := ⟨tick_ok h.ok, h.len, h.gh⟩
    have hto : ∀ y, (mqTick s).often y + 1 ≤ (mqTick s).now := fun y => by have := (h.ok.often y).2; show s.often y + 1 ≤ s.now + 1; omega
    have htn : 1 ≤ (mqTick s).now := by have := h.ok.now; show 1 ≤ s.now + 1; omega
    split
    · rename_i hc
      have hne : mqAll P (mqTick s) ≠ [] := fun e => by have := hP.c1; have e : mqAll P s = [] := e; rw [e] at hc; simp at hc; omega
      obtain ⟨e1, e2, e3, e4, e5⟩ := evict_inv hP ht hne
      have hv := vict_all hne
      have hlen : (mqAll P (mqEvict P (mqTick s))).length < P.cap := by
        have h2 := len_of_mem (all_nodup e1) ((all_nodup ht.ok).erase (mqVict P (mqTick s))) fun y => by rw [e5 y, (all_nodup ht.ok).mem_erase_iff]; exact ⟨fun h => ⟨h.2, h.1⟩, fun h => ⟨h.2, h.1⟩⟩
        rw [h2, List.length_erase_of_mem hv]
        have : (mqAll P (mqTick s)).length = P.cap := hc
        have := hP.c1
        omega
      obtain ⟨p1, p2, p3⟩ := put_inv (b := b) hP e1 (by rw [e2]; exact htn) (fun y => by rw [e2, e3]; exact hto y) e4 hlen (fun hm => hb ((e5 b).1 hm).1) h0 h1
      exact ⟨p1, p2.trans e2, .inr ⟨rfl, hv, hb, fun y => by rw [p3 y, e5 y]; exact Iff.rfl⟩⟩
    · rename_i hc
      obtain ⟨p1, p2, p3⟩ := put_inv (b := b) hP ht.ok htn hto ht.gh (by have := h.len; show (mqAll P s).length < P.cap; omega) hb h0 h1
      exact ⟨p1, p2, .inl ⟨rfl, rfl, p3⟩⟩
theorem new_inv (P : MqP) : MqI P ⟨fun _ => [], 0, fun _ => 0, fun _ => 0⟩ := by
  have ha : mqAll P ⟨fun _ => [], 0, fun _ => 0, fun _ => 0⟩ = [] := by
    cases h : mqAll P ⟨fun _ => [], 0, fun _ => 0, fun _ => 0⟩ with
    | nil => rfl
    | cons a l =>
      have : a ∈ mqAll P ⟨fun _ => [], 0, fun _ => 0, fun _ => 0⟩ := by rw [h]; exact List.mem_cons_self ..
      obtain ⟨i, _, h2⟩ := mem_all.1 this
      cases h2
  exact ⟨⟨⟨fun _ => List.nodup_nil, fun h => (by cases h), fun h => (by cases h), fun _ _ => rfl⟩, Int.le_refl _, fun _ => ⟨Int.le_refl _, Int.le_refl _⟩⟩, by rw [ha]; exact Nat.zero_le _, Nat.zero_le _⟩
end Go.Proofs.YtodephhlhdbeoaaGreat
