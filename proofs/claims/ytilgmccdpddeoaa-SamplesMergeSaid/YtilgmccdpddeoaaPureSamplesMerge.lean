/- SamplesMerge, plainly: the samples of both, the same both ways. -/
import Derived.Test.YtilgmccdpddeoaaPSamplesMergex
namespace Go.Proofs.Ytilgmccdpddeoaa.PSamplesMerge
set_option linter.unusedVariables false
open Go.RowKit Go.Proofs.Ytilgmccdpddeoaa Go.Proofs.YtilgmccdpddeoaaW.PrintWords Go.Proofs.YtilgmccdpddeoaaW.PrintMore
/-- What the row may not have at one place. -/
def bad (l : List S62) (i : Int) : Prop := (rd_T62 l i).f0 < 0 ∨ (rd_T62 l i).f0 > 1099511627776 ∨ (rd_T62 l i).f1 < -1099511627776 ∨ (rd_T62 l i).f1 > 1099511627776 ∨ (i > 0 ∧ (rd_T62 l i).f0 ≤ (rd_T62 l (i - 1)).f0)
def fine (l : List S62) : Prop := l.length ≤ 64 ∧ ∀ i : Int, 0 ≤ i → i < l.length → ¬ bad l i
theorem check_l0 (l : List S62) (hl : l.length ≤ 1000) : ∀ (k : Nat) (i : Int), 0 ≤ i → i ≤ l.length → (l.length : Int) - i < k →
    ∃ c, block_Check.l0 k l l (l.length : Int) i = some c ∧ (c = 0 ∨ c = 1) ∧ (c = 0 ↔ ∀ j, i ≤ j → j < l.length → ¬ bad l j) := by
  intro k
  induction k with
  | zero => intro i h0 h1 h2; omega
  | succ k ih =>
    intro i h0 h1 h2
    simp only [block_Check.l0]
    by_cases c1 : i < (l.length : Int)
    · rw [if_pos c1, if_pos h0, if_pos c1]
      have no : ∀ (hb : bad l i), ¬ (∀ j, i ≤ j → j < (l.length : Int) → ¬ bad l j) := fun hb h => h i (Int.le_refl _) c1 hb
      have w1 : wrap64 (i + 1) = i + 1 := by unfold wrap64; omega
      have w2 : i > 0 → wrap64 (i - 1) = i - 1 := by intro _; unfold wrap64; omega
      by_cases b1 : (rd_T62 l i).f0 < 0
      · rw [if_pos b1]; exact ⟨1, rfl, Or.inr rfl, by simp; exact ⟨i, Int.le_refl _, c1, Or.inl b1⟩⟩
      rw [if_neg b1]
      by_cases b2 : (rd_T62 l i).f0 > 1099511627776
      · rw [if_pos b2]; exact ⟨1, rfl, Or.inr rfl, by simp; exact ⟨i, Int.le_refl _, c1, Or.inr (Or.inl b2)⟩⟩
      rw [if_neg b2]
      by_cases b3 : (rd_T62 l i).f1 < -1099511627776
      · rw [if_pos b3]; exact ⟨1, rfl, Or.inr rfl, by simp; exact ⟨i, Int.le_refl _, c1, Or.inr (Or.inr (Or.inl b3))⟩⟩
      rw [if_neg b3]
      by_cases b4 : (rd_T62 l i).f1 > 1099511627776
      · rw [if_pos b4]; exact ⟨1, rfl, Or.inr rfl, by simp; exact ⟨i, Int.le_refl _, c1, Or.inr (Or.inr (Or.inr (Or.inl b4)))⟩⟩
      rw [if_neg b4]
      have step : (¬ (i > 0 ∧ (rd_T62 l i).f0 ≤ (rd_T62 l (i - 1)).f0)) → ∃ c, block_Check.l0 k l l (l.length : Int) (i + 1) = some c ∧ (c = 0 ∨ c = 1) ∧ (c = 0 ↔ ∀ j, i ≤ j → j < l.length → ¬ bad l j) := by
        intro b5
        obtain ⟨c, e, h, q⟩ := ih (i + 1) (by omega) (by omega) (by omega)
        refine ⟨c, e, h, q.trans ⟨fun H j h3 h4 => ?_, fun H j h3 h4 => H j (by omega) h4⟩⟩
        rcases (by omega : j = i ∨ i + 1 ≤ j) with rfl | h5
        · rintro (h | h | h | h | h) <;> contradiction
        · exact H j h5 h4
      by_cases b0 : i > 0
      · rw [if_pos b0, w2 b0, if_pos (by omega), if_pos (by omega)]
        by_cases b5 : (rd_T62 l i).f0 ≤ (rd_T62 l (i - 1)).f0
        · rw [if_pos b5]; exact ⟨1, rfl, Or.inr rfl, by simp; exact ⟨i, Int.le_refl _, c1, Or.inr (Or.inr (Or.inr (Or.inr ⟨b0, b5⟩)))⟩⟩
        · rw [if_neg b5, w1]; exact step (fun h => b5 h.2)
      · rw [if_neg b0, w1]; exact step (fun h => b0 h.1)
    · rw [if_neg c1]
      exact ⟨0, rfl, Or.inl rfl, by simp; intro j h3 h4; omega⟩
theorem check_eq (k : Nat) (hk : 1000 < k) (l : List S62) : (fine l → block_Check.f k l = some 0) ∧ (¬ fine l → block_Check.f k l = some 1) := by
  unfold block_Check.f fine
  by_cases h : (l.length : Int) > 64
  · rw [if_pos h]; exact ⟨fun q => by omega, fun _ => rfl⟩
  · rw [if_neg h]
    obtain ⟨c, e, h1, q⟩ := check_l0 l (by omega) k 0 (by omega) (by omega) (by omega)
    rw [e]
    constructor
    · intro ⟨_, f⟩
      rw [q.2 f]
    · intro f
      rcases h1 with rfl | rfl
      · exact absurd ⟨by omega, q.1 rfl⟩ f
      · rfl
theorem may_l0 (l : List S62) (hl : l.length ≤ 1000) : ∀ (k : Nat) (i : Int), 0 ≤ i → i ≤ l.length → (l.length : Int) - i < k →
    ∃ c, windroseref11_May.l0 k l i = some c ∧ (c = true ↔ (l.length ≤ 64 ∧ ∀ j, i ≤ j → j < l.length → ¬ bad l j)) := by
  intro k
  induction k with
  | zero => intro i h0 h1 h2; omega
  | succ k ih =>
    intro i h0 h1 h2
    simp only [windroseref11_May.l0]
    by_cases c1 : i < (l.length : Int)
    · rw [if_pos c1, if_pos h0]
      have w1 : wrap64 (i + 1) = i + 1 := by unfold wrap64; omega
      have w2 : i > 0 → wrap64 (i - 1) = i - 1 := by intro _; unfold wrap64; omega
      have no : bad l i → ∃ c, (some false : Option Bool) = some c ∧ (c = true ↔ (l.length ≤ 64 ∧ ∀ j, i ≤ j → j < l.length → ¬ bad l j)) := fun hb => ⟨false, rfl, by simp; exact fun _ => ⟨i, Int.le_refl _, c1, hb⟩⟩
      by_cases b1 : (rd_T62 l i).f0 < 0
      · rw [if_pos b1]; exact no (Or.inl b1)
      rw [if_neg b1]
      by_cases b2 : (rd_T62 l i).f0 > 1099511627776
      · rw [if_pos b2]; exact no (Or.inr (Or.inl b2))
      rw [if_neg b2]
      by_cases b3 : (rd_T62 l i).f1 < -1099511627776
      · rw [if_pos b3]; exact no (Or.inr (Or.inr (Or.inl b3)))
      rw [if_neg b3]
      by_cases b4 : (rd_T62 l i).f1 > 1099511627776
      · rw [if_pos b4]; exact no (Or.inr (Or.inr (Or.inr (Or.inl b4))))
      rw [if_neg b4]
      have step : (¬ (i > 0 ∧ (rd_T62 l i).f0 ≤ (rd_T62 l (i - 1)).f0)) → ∃ c, windroseref11_May.l0 k l (i + 1) = some c ∧ (c = true ↔ (l.length ≤ 64 ∧ ∀ j, i ≤ j → j < l.length → ¬ bad l j)) := by
        intro b5
        obtain ⟨c, e, q⟩ := ih (i + 1) (by omega) (by omega) (by omega)
        refine ⟨c, e, q.trans ⟨fun H => ⟨H.1, fun j h3 h4 => ?_⟩, fun H => ⟨H.1, fun j h3 h4 => H.2 j (by omega) h4⟩⟩⟩
        rcases (by omega : j = i ∨ i + 1 ≤ j) with rfl | h5
        · rintro (h | h | h | h | h) <;> contradiction
        · exact H.2 j h5 h4
      by_cases b0 : i > 0
      · rw [if_pos b0, w2 b0, if_pos (by omega), if_pos (by omega)]
        by_cases b5 : (rd_T62 l (i - 1)).f0 ≥ (rd_T62 l i).f0
        · rw [if_pos b5]; exact no (Or.inr (Or.inr (Or.inr (Or.inr ⟨b0, b5⟩))))
        · rw [if_neg b5, w1]; exact step (fun h => b5 h.2)
      · rw [if_neg b0, w1]; exact step (fun h => b0 h.1)
    · rw [if_neg c1]
      exact ⟨_, rfl, ⟨fun h => ⟨by have := of_decide_eq_true h; omega, fun j h3 h4 => by omega⟩, fun h => decide_eq_true (by have := h.1; omega)⟩⟩
theorem may_eq (k : Nat) (hk : 1000 < k) (l : List S62) (hl : l.length ≤ 200) : (fine l → windroseref11_May.f k l = some true) ∧ (¬ fine l → windroseref11_May.f k l = some false) := by
  unfold windroseref11_May.f fine
  obtain ⟨c, e, q⟩ := may_l0 l (by omega) k 0 (by omega) (by omega) (by omega)
  rw [e]
  constructor
  · intro f
    rw [q.2 f]
  · intro f
    cases c
    · rfl
    · exact absurd (q.1 rfl) f
theorem same_l0 (l : List S62) (hl : l.length ≤ 1000) : ∀ (k : Nat) (i : Int), 0 ≤ i → i ≤ l.length → (l.length : Int) - i < k → windroseref11_Same.l0 k l l i = some true := by
  intro k
  induction k with
  | zero => intro i h0 h1 h2; omega
  | succ k ih =>
    intro i h0 h1 h2
    simp only [windroseref11_Same.l0]
    by_cases c1 : i < (l.length : Int)
    · rw [if_pos c1, if_pos h0, if_pos c1, if_neg (by simp)]
      have w1 : wrap64 (i + 1) = i + 1 := by unfold wrap64; omega
      rw [w1]
      exact ih _ (by omega) (by omega) (by omega)
    · rw [if_neg c1]
theorem same_eq (k : Nat) (hk : 1000 < k) (l : List S62) (hl : l.length ≤ 1000) : windroseref11_Same.f k l l = some true := by
  unfold windroseref11_Same.f
  rw [if_pos rfl]
  exact same_l0 l hl k 0 (by omega) (by omega) (by omega)
theorem rd_at (l : List S62) (i : Nat) (h : i < l.length) : rd_T62 l (i : Int) = l[i] := by
  unfold rd_T62
  simp [h]
/-- The times go up. -/
theorem fine_up {l : List S62} (h : fine l) : ∀ i j : Nat, i < j → j < l.length → (rd_T62 l i).f0 < (rd_T62 l j).f0 := by
  intro i j hij
  induction j with
  | zero => omega
  | succ j ih =>
    intro hj
    have h1 := h.2 ((j + 1 : Nat) : Int) (by omega) (by omega)
    have h2 : (rd_T62 l (j : Nat)).f0 < (rd_T62 l ((j + 1 : Nat) : Int)).f0 := by
      refine Int.not_le.1 fun q => h1 (Or.inr (Or.inr (Or.inr (Or.inr ⟨by omega, ?_⟩))))
      have e : ((j + 1 : Nat) : Int) - 1 = (j : Nat) := by omega
      rw [e]
      exact q
    rcases (by omega : i = j ∨ i < j) with rfl | h3
    · exact h2
    · have := ih h3 (by omega)
      omega
/-- A search by halves ends where the answer turns. -/
theorem bsl_turn (lt : Nat → Bool) (d : Nat) : ∀ i j, i ≤ j → j - i ≤ d → (∀ a b, i ≤ a → a ≤ b → b < j → lt b = true → lt a = true) →
    (∀ a, i ≤ a → a < Hand.bsl lt d i j → lt a = true) ∧ (∀ a, Hand.bsl lt d i j ≤ a → a < j → lt a = false) := by
  induction d with
  | zero => intro i j h h1 _; simp only [Hand.bsl]; exact ⟨fun a _ _ => by omega, fun a _ _ => by omega⟩
  | succ d ih =>
    intro i j h h1 m
    simp only [Hand.bsl]
    by_cases c : i < j
    · rw [if_pos c]
      by_cases q : lt ((i + j) / 2) = true
      · rw [if_pos q]
        obtain ⟨p1, p2⟩ := ih ((i + j) / 2 + 1) j (by omega) (by omega) (fun a b x y z => m a b (by omega) y z)
        refine ⟨fun a h3 h4 => ?_, p2⟩
        rcases Nat.lt_or_ge ((i + j) / 2) a with h5 | h5
        · exact p1 a h5 h4
        · exact m a _ h3 h5 (by omega) q
      · rw [if_neg q]
        obtain ⟨p1, p2⟩ := ih i ((i + j) / 2) (by omega) (by omega) (fun a b x y z => m a b x y (by omega))
        refine ⟨p1, fun a h3 h4 => ?_⟩
        rcases Nat.lt_or_ge a ((i + j) / 2) with h5 | h5
        · exact p2 a h3 h5
        · cases e : lt a with
          | false => rfl
          | true =>
            have hle := Hand.bsl_le lt d i ((i + j) / 2) (by omega)
            exact absurd (m ((i + j) / 2) a (by omega) h5 h4 e) q
    · rw [if_neg c]
      exact ⟨fun a _ _ => by omega, fun a _ _ => by omega⟩
theorem cmpI_lt (a b : Int) : Hand.cmpI a b < 0 ↔ a < b := by
  unfold Hand.cmpI
  split
  · omega
  · split <;> omega
theorem cmpI_eq (a b : Int) : Hand.cmpI a b = 0 ↔ a = b := by
  unfold Hand.cmpI
  split
  · omega
  · split <;> omega
/-- The place of a time in a row. -/
def spot (l : List S62) (a : Int) : Nat := api_Sample_int.place (fun x => Hand.cmpI x.f0 a) l
theorem spot_le (l : List S62) (a : Int) : spot l a ≤ l.length := api_Sample_int.place_le _ _
theorem spot_turn {l : List S62} (h : fine l) (a : Int) : ∀ i : Nat, i < l.length → ((rd_T62 l i).f0 < a ↔ i < spot l a) := by
  have := bsl_turn (fun i => decide (Hand.cmpI (rd_T62 l (i : Int)).f0 a < 0)) l.length 0 l.length (by omega) (by omega) (by
    intro x y _ h2 h3 h4
    simp only [decide_eq_true_eq, cmpI_lt] at h4 ⊢
    rcases (by omega : x = y ∨ x < y) with rfl | h5
    · exact h4
    · have := fine_up h x y h5 h3
      omega)
  intro i hi
  constructor
  · intro h1
    refine Nat.lt_of_not_le fun q => ?_
    have := this.2 i q hi
    simp [cmpI_lt] at this
    omega
  · intro h1
    have := this.1 i (by omega) h1
    simpa [cmpI_lt] using this
theorem at_eq (l : List S62) (a : Int) (hl : l.length ≤ 200) : ∃ b, samples_at.f l a = some ((spot l a : Int), b) ∧ (b = true ↔ spot l a < l.length ∧ (rd_T62 l (spot l a : Int)).f0 = a) := by
  unfold samples_at.f
  rw [if_pos (by omega)]
  refine ⟨_, rfl, ?_⟩
  unfold api_Sample_int.found
  simp [cmpI_eq, spot]
theorem filter_none (P : S62 → Bool) (l : List S62) (h : ∀ i : Nat, i < l.length → P (rd_T62 l (i : Int)) = false) : l.filter P = [] := by
  rw [List.filter_eq_nil_iff]
  intro x hx
  obtain ⟨i, hi, rfl⟩ := List.getElem_of_mem hx
  rw [← rd_at l i hi, h i hi]
  simp
theorem filter_every (P : S62 → Bool) (l : List S62) (h : ∀ i : Nat, i < l.length → P (rd_T62 l (i : Int)) = true) : l.filter P = l := by
  rw [List.filter_eq_self]
  intro x hx
  obtain ⟨i, hi, rfl⟩ := List.getElem_of_mem hx
  rw [← rd_at l i hi, h i hi]
/-- What a range holds, told by what it lets through. -/
theorem filter_mid (P : S62 → Bool) (l : List S62) (p m : Nat) (hm : m ≤ l.length) (h : ∀ i : Nat, i < l.length → (P (rd_T62 l (i : Int)) = true ↔ p ≤ i ∧ i < m)) : l.filter P = (l.take m).drop p := by
  rcases Nat.lt_or_ge m p with c | c
  · rw [filter_none P l (fun i hi => by
      cases e : P (rd_T62 l (i : Int)) with
      | false => rfl
      | true => have := (h i hi).1 e; omega)]
    rw [List.drop_eq_nil_of_le (by rw [List.length_take]; omega)]
  · have e1 : l = (l.take m).take p ++ ((l.take m).drop p ++ l.drop m) := by rw [← List.append_assoc, List.take_append_drop, List.take_append_drop]
    have e2 : l.filter P = ((l.take m).take p).filter P ++ (((l.take m).drop p).filter P ++ (l.drop m).filter P) := by
      conv => lhs; rw [e1]
      rw [List.filter_append, List.filter_append]
    rw [e2, filter_none P ((l.take m).take p) (fun i hi => ?_), filter_none P (l.drop m) (fun i hi => ?_), filter_every P ((l.take m).drop p) (fun i hi => ?_)]
    · rw [List.append_nil, List.nil_append]
    · rw [List.length_drop, List.length_take] at hi
      rw [rd_at _ i (by rw [List.length_drop, List.length_take]; omega), List.getElem_drop, List.getElem_take, ← rd_at l _ (by omega)]
      exact (h _ (by omega)).2 (by omega)
    · rw [List.length_drop] at hi
      rw [rd_at _ i (by rw [List.length_drop]; omega), List.getElem_drop, ← rd_at l _ (by omega)]
      cases e : P (rd_T62 l ((m + i : Nat) : Int)) with
      | false => rfl
      | true => have := (h _ (by omega)).1 e; omega
    · rw [List.length_take, List.length_take] at hi
      rw [rd_at _ i (by rw [List.length_take, List.length_take]; omega), List.getElem_take, List.getElem_take, ← rd_at l _ (by omega)]
      cases e : P (rd_T62 l (i : Int)) with
      | false => rfl
      | true => have := (h _ (by omega)).1 e; omega

theorem drop_at (l : List S62) (i : Nat) (h : i < l.length) : l.drop i = rd_T62 l (i : Int) :: l.drop (i + 1) := by
  rw [rd_at l i h]
  exact List.drop_eq_getElem_cons h
theorem get_none (l : List S62) (hl : l.length ≤ 1000) (a : Int) (h : ∀ j : Nat, j < l.length → (rd_T62 l (j : Int)).f0 ≠ a) : ∀ (k i : Nat), i ≤ l.length → l.length - i < k →
    windroseref12_Get.l0 k l a i = some (0, 0, false) := by
  intro k
  induction k with
  | zero => intro i h0 h2; omega
  | succ k ih =>
    intro i h0 h2
    simp only [windroseref12_Get.l0]
    by_cases c1 : (i : Int) < (l.length : Int)
    · have w1 : wrap64 ((i : Int) + 1) = ((i + 1 : Nat) : Int) := by unfold wrap64; omega
      rw [if_pos c1, if_pos (by omega), if_neg (h i (by omega)), w1]
      exact ih (i + 1) (by omega) (by omega)
    · rw [if_neg c1]
theorem get_some (l : List S62) (hl : l.length ≤ 1000) (a : Int) (p : Nat) (hp : p < l.length) (hpa : (rd_T62 l (p : Int)).f0 = a) (h : ∀ j : Nat, j < p → (rd_T62 l (j : Int)).f0 ≠ a) : ∀ (k i : Nat), i ≤ p → l.length - i < k →
    windroseref12_Get.l0 k l a i = some ((rd_T62 l (p : Int)).f0, (rd_T62 l (p : Int)).f1, true) := by
  intro k
  induction k with
  | zero => intro i h0 h2; omega
  | succ k ih =>
    intro i h0 h2
    simp only [windroseref12_Get.l0]
    have w1 : wrap64 ((i : Int) + 1) = ((i + 1 : Nat) : Int) := by unfold wrap64; omega
    rw [if_pos (by omega), if_pos (by omega), w1]
    rcases (by omega : i = p ∨ i < p) with rfl | c
    · rw [if_pos hpa]
    · rw [if_neg (h i c)]
      exact ih (i + 1) (by omega) (by omega)
theorem awake_eq : windroselaw12_awake.f 2000 = some true := by kernel_rfl
theorem clone_eq (l : List S62) (h : l.length ≤ 1000) : api_Sample_81.f l = some l := by
  unfold api_Sample_81.f
  rw [if_pos (by omega)]
/-- What is found is found at its spot. -/
theorem get_spot {l : List S62} (hf : fine l) (hl : l.length ≤ 200) (a : Int) : (spot l a < l.length ∧ (rd_T62 l (spot l a : Int)).f0 = a → windroseref12_Get.f 2000 l a = some ((rd_T62 l (spot l a : Int)).f0, (rd_T62 l (spot l a : Int)).f1, true)) ∧
    (¬ (spot l a < l.length ∧ (rd_T62 l (spot l a : Int)).f0 = a) → (∀ j : Nat, j < l.length → (rd_T62 l (j : Int)).f0 ≠ a) ∧ windroseref12_Get.f 2000 l a = some (0, 0, false)) := by
  have t1 := spot_turn hf a
  constructor
  · intro ⟨h1, h2⟩
    unfold windroseref12_Get.f
    refine get_some l (by omega) a (spot l a) h1 h2 (fun j hj ej => ?_) 2000 0 (by omega) (by omega)
    have := t1 j (by omega)
    omega
  · intro h2
    have no : ∀ j : Nat, j < l.length → (rd_T62 l (j : Int)).f0 ≠ a := by
      intro j hj ej
      have h1 := t1 j hj
      rcases (by omega : spot l a = j ∨ spot l a < j) with h3 | h3
      · rw [h3] at h2; exact h2 ⟨hj, ej⟩
      · have h4 := fine_up hf (spot l a) j h3 hj
        have h5 := t1 (spot l a) (by omega)
        omega
    refine ⟨no, ?_⟩
    unfold windroseref12_Get.f
    exact get_none l (by omega) a no 2000 0 (by omega) (by omega)

/-! strictly rising rows -/
theorem rising_ext {lt : S62 → S62 → Bool} (irr : ∀ x, lt x x = false) (asy : ∀ x y, lt x y = true → lt y x = false) : ∀ {l m : List S62}, l.Pairwise (fun x y => lt x y = true) → m.Pairwise (fun x y => lt x y = true) → (∀ x, x ∈ l ↔ x ∈ m) → l = m
  | [], [], _, _, _ => rfl
  | [], y :: s, _, _, h => by have := (h y).2 (by simp); simp at this
  | x :: r, [], _, _, h => by have := (h x).1 (by simp); simp at this
  | x :: r, y :: s, hl, hm, h => by
    obtain ⟨h1, h2⟩ := List.pairwise_cons.1 hl
    obtain ⟨h3, h4⟩ := List.pairwise_cons.1 hm
    have e : x = y := by
      rcases List.mem_cons.1 ((h x).1 (by simp)) with e | hx
      · exact e
      · rcases List.mem_cons.1 ((h y).2 (by simp)) with e | hy
        · exact e.symm
        · have a1 := h3 x hx
          have a2 := h1 y hy
          rw [asy _ _ a1] at a2
          cases a2
    subst e
    congr 1
    refine rising_ext irr asy h2 h4 (fun z => ⟨fun hz => ?_, fun hz => ?_⟩)
    · rcases List.mem_cons.1 ((h z).1 (by simp [hz])) with e | hz'
      · subst e; have := h1 z hz; rw [irr] at this; cases this
      · exact hz'
    · rcases List.mem_cons.1 ((h z).2 (by simp [hz])) with e | hz'
      · subst e; have := h3 z hz; rw [irr] at this; cases this
      · exact hz'
theorem lt_irr (x : S62) : samples_Merge.lt x x = false := samples_Merge.swo.irrefl x trivial
theorem lt_asy (x y : S62) (h : samples_Merge.lt x y = true) : samples_Merge.lt y x = false := samples_Merge.swo.asym trivial trivial h
/-! what is kept of a sorted row -/
theorem comp_mem (l : List S62) (x : S62) : x ∈ api_Sample_101.comp l ↔ x ∈ l := by
  unfold api_Sample_101.comp Lib.compactUpTo
  rw [List.mem_map]
  have hg : ∀ j, j < l.length → l.toArray[j]! = l[j]! := fun j hj => by rw [getElem!_pos l.toArray j (by simpa using hj), getElem!_pos l j hj]; simp
  constructor
  · rintro ⟨j, hj, rfl⟩
    have hj' := List.mem_range.1 (List.mem_filter.1 hj).1
    rw [hg j hj', getElem!_pos l j hj']
    exact List.getElem_mem hj'
  · intro hx
    obtain ⟨j, hj, rfl⟩ := List.mem_iff_getElem.1 hx
    have key : ∀ j, j < l.length → ∃ i, i ≤ j ∧ Lib.keeps l.toArray i = true ∧ l.toArray[i]! = l.toArray[j]! := by
      intro j
      induction j with
      | zero => intro _; exact ⟨0, Nat.le_refl _, Lib.keeps_lt_one _ 0 (by omega), rfl⟩
      | succ j ih =>
        intro hj
        cases hk : Lib.keeps l.toArray (j + 1) with
        | true => exact ⟨j + 1, Nat.le_refl _, hk, rfl⟩
        | false =>
          obtain ⟨i, h1, h2, h3⟩ := ih (by omega)
          refine ⟨i, by omega, h2, ?_⟩
          rw [h3]
          refine Classical.byContradiction fun hne => ?_
          have := Lib.keeps_pos (d := l.toArray) (m := j + 1) (fun e => hne (by rw [e]; rfl))
          rw [hk] at this
          cases this
    obtain ⟨i, h1, h2, h3⟩ := key j hj
    refine ⟨i, List.mem_filter.2 ⟨List.mem_range.2 (by omega), h2⟩, ?_⟩
    rw [h3, hg j hj, getElem!_pos l j hj]
theorem comp_rising {l : List S62} (hs : l.Pairwise (fun a b => samples_Merge.lt b a = false)) : (api_Sample_101.comp l).Pairwise (fun x y => samples_Merge.lt x y = true) := by
  unfold api_Sample_101.comp Lib.compactUpTo
  rw [List.pairwise_map]
  have hg : ∀ j (hj : j < l.length), l.toArray[j]! = l[j] := fun j hj => by rw [getElem!_pos l.toArray j (by simpa using hj)]; simp
  have hle : ∀ i j, i ≤ j → j < l.length → samples_Merge.lt l.toArray[j]! l.toArray[i]! = false := fun i j hij hj => by
    rcases Nat.lt_or_eq_of_le hij with h | rfl
    · rw [hg j hj, hg i (by omega)]
      exact List.pairwise_iff_getElem.1 hs i j (by omega) hj h
    · exact lt_irr _
  refine ((List.pairwise_lt_range).filter _).imp_of_mem ?_
  intro i j hi hj hij
  obtain ⟨hj1, hj2⟩ := List.mem_filter.1 hj
  have hjl := List.mem_range.1 hj1
  cases hc : samples_Merge.lt l.toArray[i]! l.toArray[j]! with
  | true => rfl
  | false =>
    exfalso
    have e1 := samples_Merge.uni hc (hle i j (by omega) hjl)
    have e2 : l.toArray[j - 1]! = l.toArray[j]! := by
      refine samples_Merge.uni ?_ (hle (j - 1) j (by omega) hjl)
      rw [← e1]
      exact hle i (j - 1) (by omega) (by omega)
    have := Lib.keeps_neg (d := l.toArray) (m := j) (by omega) e2.symm
    rw [hj2] at this
    cases this
theorem both_mem (a b : List S62) (x : S62) : x ∈ samples_Merge.both a b ↔ x ∈ a ∨ x ∈ b := by
  unfold samples_Merge.both
  rw [comp_mem, Hand.sortL_mem, List.mem_append]
theorem both_rising (a b : List S62) : (samples_Merge.both a b).Pairwise (fun x y => samples_Merge.lt x y = true) := comp_rising (Hand.sortL_sorted samples_Merge.swo _ (fun _ _ => trivial))
theorem both_comm (a b : List S62) : samples_Merge.both a b = samples_Merge.both b a := rising_ext lt_irr lt_asy (both_rising a b) (both_rising b a) (fun x => by rw [both_mem, both_mem]; exact Or.comm)
/-! one time, two values -/
theorem dup_false {m : List S62} (h : samples_Merge.dup m = false) : ∀ j : Nat, j + 1 < m.length → (rd_T62 m ((j + 1 : Nat) : Int)).f0 ≠ (rd_T62 m (j : Int)).f0 := by
  intro j hj
  unfold samples_Merge.dup at h
  rw [List.any_eq_false] at h
  have := h (j + 1) (List.mem_range.2 hj)
  rw [decide_eq_true (by omega : 0 < j + 1), Bool.true_and] at this
  simpa using this
theorem rise_f0 {m : List S62} (hr : m.Pairwise (fun x y => samples_Merge.lt x y = true)) (h : samples_Merge.dup m = false) : m.Pairwise (fun x y => x.f0 < y.f0) := by
  have step : ∀ i d : Nat, (hd : i + d + 1 < m.length) → (rd_T62 m (i : Int)).f0 < (rd_T62 m ((i + d + 1 : Nat) : Int)).f0 := by
    intro i d
    induction d with
    | zero =>
      intro hd
      have h1 := List.pairwise_iff_getElem.1 hr i (i + 1) (by omega) hd (by omega)
      have h2 := dup_false h i hd
      rw [samples_Merge.lt_iff, ← rd_at m i (by omega), ← rd_at m (i + 1) hd] at h1
      have : (rd_T62 m ((i + 0 + 1 : Nat) : Int)) = rd_T62 m ((i + 1 : Nat) : Int) := rfl
      rw [this]
      omega
    | succ d ih =>
      intro hd
      have h0 := ih (by omega)
      have h1 := List.pairwise_iff_getElem.1 hr (i + d + 1) (i + d + 1 + 1) (by omega) hd (by omega)
      rw [samples_Merge.lt_iff, ← rd_at m (i + d + 1) (by omega), ← rd_at m (i + d + 1 + 1) hd] at h1
      have : (rd_T62 m ((i + (d + 1) + 1 : Nat) : Int)) = rd_T62 m ((i + d + 1 + 1 : Nat) : Int) := rfl
      rw [this]
      omega
  rw [List.pairwise_iff_getElem]
  intro i j hi hj hij
  obtain ⟨d, rfl⟩ : ∃ d, j = i + d + 1 := ⟨j - i - 1, by omega⟩
  have := step i d hj
  rwa [rd_at m i hi, rd_at m _ hj] at this
theorem f0_one : ∀ {m : List S62}, m.Pairwise (fun x y => x.f0 < y.f0) → ∀ x ∈ m, ∀ y ∈ m, x.f0 = y.f0 → x = y
  | [], _, x, hx, _, _, _ => by simp at hx
  | z :: r, h, x, hx, y, hy, he => by
    obtain ⟨h1, h2⟩ := List.pairwise_cons.1 h
    rcases List.mem_cons.1 hx with hx1 | hx1
    · rcases List.mem_cons.1 hy with hy1 | hy1
      · rw [hx1, hy1]
      · have := h1 y hy1; rw [hx1] at he; omega
    · rcases List.mem_cons.1 hy with hy1 | hy1
      · have := h1 x hx1; rw [hy1] at he; omega
      · exact f0_one h2 x hx1 y hy1 he
theorem dup_conf {m : List S62} (hr : m.Pairwise (fun x y => samples_Merge.lt x y = true)) {x y : S62} (hx : x ∈ m) (hy : y ∈ m) (he : x.f0 = y.f0) (hn : x.f1 ≠ y.f1) : samples_Merge.dup m = true := by
  cases h : samples_Merge.dup m with
  | true => rfl
  | false => exact absurd (by rw [f0_one (rise_f0 hr h) x hx y hy he]) hn
theorem dup_none {m : List S62} (hr : m.Pairwise (fun x y => samples_Merge.lt x y = true)) (h : ∀ x ∈ m, ∀ y ∈ m, x.f0 = y.f0 → x = y) : samples_Merge.dup m = false := by
  unfold samples_Merge.dup
  rw [List.any_eq_false]
  intro j hj hc
  have hjl := List.mem_range.1 hj
  rw [Bool.and_eq_true, decide_eq_true_eq, beq_iff_eq] at hc
  obtain ⟨h0, h1⟩ := hc
  rw [rd_at m j hjl, rd_at m (j - 1) (by omega)] at h1
  have e := h _ (List.getElem_mem hjl) _ (List.getElem_mem (by omega : j - 1 < m.length)) h1
  have h2 := List.pairwise_iff_getElem.1 hr (j - 1) j (by omega) hjl (by omega)
  rw [e, lt_irr] at h2
  cases h2
/-! the reference's merge -/
theorem with_done (l : List S62) (hl : l.length ≤ 1000) (s0 s1 : Int) : ∀ (k i : Nat) (acc : List S62), i ≤ l.length → acc.length ≤ i + 2 → l.length - i < k →
    windroseref12_with.l0 k l acc true i s0 s1 = some (acc ++ l.drop i) := by
  intro k
  induction k with
  | zero => intro i acc h0 h1 h2; omega
  | succ k ih =>
    intro i acc h0 h1 h2
    simp only [windroseref12_with.l0]
    by_cases c1 : (i : Int) < (l.length : Int)
    · have w1 : wrap64 ((i : Int) + 1) = ((i + 1 : Nat) : Int) := by unfold wrap64; omega
      rw [if_pos c1, if_pos trivial, if_pos (by omega), if_pos (by omega), drop_at l i (by omega), w1]
      have e' := ih (i + 1) (acc ++ [rd_T62 l (i : Int)]) (by omega) (by simp; omega) (by omega)
      rw [List.append_assoc] at e'
      exact e'
    · rw [if_neg c1, if_pos trivial, List.drop_eq_nil_of_le (by omega), List.append_nil]

def insT (x : S62) : List S62 → List S62
  | [] => [x]
  | y :: r => if y.f0 > x.f0 then x :: y :: r else y :: insT x r
theorem insT_mem (x : S62) : ∀ (l : List S62) (y : S62), y ∈ insT x l ↔ y = x ∨ y ∈ l
  | [], y => by simp [insT]
  | z :: r, y => by
    unfold insT
    split
    · rw [List.mem_cons]
    · rw [List.mem_cons, List.mem_cons, insT_mem x r y]
      constructor
      · rintro (h | h | h)
        · exact .inr (.inl h)
        · exact .inl h
        · exact .inr (.inr h)
      · rintro (h | h | h)
        · exact .inr (.inl h)
        · exact .inl h
        · exact .inr (.inr h)
theorem insT_len (x : S62) : ∀ l : List S62, (insT x l).length = l.length + 1
  | [] => rfl
  | z :: r => by
    unfold insT
    split
    · rfl
    · rw [List.length_cons, insT_len x r, List.length_cons]
theorem insT_pair (x : S62) : ∀ {l : List S62}, l.Pairwise (fun a b => a.f0 < b.f0) → (∀ y ∈ l, y.f0 ≠ x.f0) → (insT x l).Pairwise (fun a b => a.f0 < b.f0)
  | [], _, _ => by simp [insT]
  | z :: r, h, hn => by
    obtain ⟨h1, h2⟩ := List.pairwise_cons.1 h
    have hz := hn z (by simp)
    unfold insT
    split
    · refine List.pairwise_cons.2 ⟨fun y hy => ?_, h⟩
      rcases List.mem_cons.1 hy with rfl | hr
      · omega
      · have := h1 y hr; omega
    · refine List.pairwise_cons.2 ⟨fun y hy => ?_, insT_pair x h2 (fun y hy => hn y (by simp [hy]))⟩
      rcases (insT_mem x r y).1 hy with rfl | hr
      · omega
      · exact h1 y hr
theorem with_T (l : List S62) (hl : l.length ≤ 1000) (x : S62) (d : Nat) : ∀ (k i : Nat) (acc : List S62), i + d = l.length → d + 2 < k → acc.length ≤ i → windroseref12_with.l0 k l acc false (i : Int) x.f0 x.f1 = some (acc ++ insT x (l.drop i)) := by
  induction d with
  | zero =>
    intro k i acc hi hk ha
    obtain ⟨k, rfl⟩ : ∃ m, k = m + 1 := ⟨k - 1, by omega⟩
    rw [windroseref12_with.l0, if_neg (by omega), if_neg (by decide), if_pos (by omega), List.drop_of_length_le (by omega)]
    rfl
  | succ d ih =>
    intro k i acc hi hk ha
    obtain ⟨k, rfl⟩ : ∃ m, k = m + 1 := ⟨k - 1, by omega⟩
    have w1 : wrap64 ((i : Int) + 1) = ((i + 1 : Nat) : Int) := by unfold wrap64; omega
    rw [windroseref12_with.l0, if_pos (by omega), if_neg (by decide), if_pos (by omega), drop_at l i (by omega), insT]
    by_cases c : (rd_T62 l (i : Int)).f0 > x.f0
    · rw [if_pos c, if_pos c, if_pos (by omega), Option.bind_some, if_pos (by rw [List.length_append, List.length_singleton]; omega), w1, with_done l hl x.f0 x.f1 k (i + 1) _ (by omega) (by rw [List.length_append, List.length_append, List.length_singleton, List.length_singleton]; omega) (by omega), List.append_assoc, List.append_assoc]
      rfl
    · rw [if_neg c, if_neg c, if_pos (by omega), w1, ih k (i + 1) _ (by omega) (by omega) (by rw [List.length_append, List.length_singleton]; omega), List.append_assoc]
      rfl
theorem with_eq (l : List S62) (hl : l.length ≤ 1000) (x : S62) (k : Nat) (hk : l.length + 3 ≤ k) : windroseref12_with.f k l x.f0 x.f1 = some (insT x l) := by
  unfold windroseref12_with.f
  have := with_T l hl x l.length k 0 [] (by omega) (by omega) (by simp)
  rw [List.drop_zero, List.nil_append] at this
  exact this
def conf (a : List S62) (y : S62) : Prop := ∃ x ∈ a, x.f0 = y.f0 ∧ x.f1 ≠ y.f1
def stepR (a : List S62) (out : List S62) (y : S62) : List S62 := if (a.any fun x => decide (x.f0 = y.f0)) = true then out else insT y out
def fin (o : List S62) : List S62 × Int := if (o.length : Int) > 64 then ([], 6) else (o, 0)
theorem ref_l0 {a : List S62} (hfa : fine a) (b : List S62) (hb : b.length ≤ 200) (d : Nat) : ∀ (k i : Nat) (out : List S62), i + d = b.length → 2 * d + 700 < k → out.length ≤ 64 + i →
    ((∀ y ∈ b.drop i, ¬ conf a y) → windroseref12_Merge.l0 k a b out (i : Int) = some (fin ((b.drop i).foldl (stepR a) out))) ∧ ((∃ y ∈ b.drop i, conf a y) → windroseref12_Merge.l0 k a b out (i : Int) = some ([], 8)) := by
  have hal := hfa.1
  induction d with
  | zero =>
    intro k i out hi hk ho
    obtain ⟨k, rfl⟩ : ∃ m, k = m + 1 := ⟨k - 1, by omega⟩
    rw [List.drop_of_length_le (by omega), windroseref12_Merge.l0, if_neg (by omega)]
    refine ⟨fun _ => ?_, fun ⟨y, hy, _⟩ => by simp at hy⟩
    rw [List.foldl_nil]
    unfold fin
    split <;> rfl
  | succ d ih =>
    intro k i out hi hk ho
    obtain ⟨k, rfl⟩ : ∃ m, k = m + 2 := ⟨k - 2, by omega⟩
    have w1 : wrap64 ((i : Int) + 1) = ((i + 1 : Nat) : Int) := by unfold wrap64; omega
    rw [drop_at b i (by omega), List.foldl_cons, windroseref12_Merge.l0, if_pos (by omega), if_pos (by omega)]
    generalize hy : rd_T62 b (i : Int) = y
    unfold windroseref12_Get.f
    by_cases hin : ∃ p : Nat, p < a.length ∧ (rd_T62 a (p : Int)).f0 = y.f0
    · obtain ⟨p, hp, hpe⟩ := hin
      have hg := get_some a (by omega) y.f0 p hp hpe (fun j hj e => by have := fine_up hfa j p hj hp; omega) (k + 1) 0 (by omega) (by omega)
      have hst : stepR a out y = out := by
        unfold stepR
        rw [if_pos]
        rw [List.any_eq_true]
        exact ⟨_, List.getElem_mem hp, by rw [← rd_at a p hp]; exact decide_eq_true hpe⟩
      have hg' : windroseref12_Get.l0 (k + 1) a y.f0 0 = some ((rd_T62 a (p : Int)).f0, (rd_T62 a (p : Int)).f1, true) := hg
      rw [hg', Option.bind_some, if_pos rfl, windroseref12_Merge.j1, hst]
      by_cases hv : (rd_T62 a (p : Int)).f1 = y.f1
      · rw [if_neg (by rw [bne_iff_ne]; exact fun h => h hv), if_pos rfl, w1]
        obtain ⟨i1, i2⟩ := ih k (i + 1) out (by omega) (by omega) (by omega)
        refine ⟨fun h => i1 (fun z hz => h z (by simp [hz])), fun ⟨z, hz, hc⟩ => ?_⟩
        rcases List.mem_cons.1 hz with rfl | hz
        · exfalso
          obtain ⟨x, hx, e1, e2⟩ := hc
          obtain ⟨q, hq, rfl⟩ := List.mem_iff_getElem.1 hx
          rw [← rd_at a q hq] at e1 e2
          have : q = p := by
            rcases Nat.lt_trichotomy q p with h | h | h
            · have := fine_up hfa q p h hp; omega
            · exact h
            · have := fine_up hfa p q h hq; omega
          subst this
          exact e2 hv
        · exact i2 ⟨z, hz, hc⟩
      · rw [if_pos (by rw [bne_iff_ne]; exact hv)]
        refine ⟨fun h => ?_, fun _ => rfl⟩
        exact absurd ⟨a[p], List.getElem_mem hp, by rw [← rd_at a p hp]; exact hpe, by rw [← rd_at a p hp]; exact hv⟩ (h y (by simp))
    · have hno : ∀ j : Nat, j < a.length → (rd_T62 a (j : Int)).f0 ≠ y.f0 := fun j hj e => hin ⟨j, hj, e⟩
      have hg := get_none a (by omega) y.f0 hno (k + 1) 0 (by omega) (by omega)
      have hst : stepR a out y = insT y out := by
        unfold stepR
        rw [if_neg]
        rw [Bool.not_eq_true, List.any_eq_false]
        intro x hx
        obtain ⟨q, hq, rfl⟩ := List.mem_iff_getElem.1 hx
        rw [← rd_at a q hq, decide_eq_false (hno q hq)]
        decide
      have hg' : windroseref12_Get.l0 (k + 1) a y.f0 0 = some (0, 0, false) := hg
      rw [hg', Option.bind_some, if_neg (by decide), windroseref12_Merge.j1, if_neg (by decide), if_neg (by decide), if_pos (by omega), if_pos (by omega), hy, with_eq out (by omega) y k (by omega), Option.bind_some, hst, w1]
      obtain ⟨i1, i2⟩ := ih k (i + 1) (insT y out) (by omega) (by omega) (by rw [insT_len]; omega)
      refine ⟨fun h => i1 (fun z hz => h z (by simp [hz])), fun ⟨z, hz, hc⟩ => ?_⟩
      rcases List.mem_cons.1 hz with rfl | hz
      · exfalso
        obtain ⟨x, hx, e1, _⟩ := hc
        obtain ⟨q, hq, rfl⟩ := List.mem_iff_getElem.1 hx
        rw [← rd_at a q hq] at e1
        exact hno q hq e1
      · exact i2 ⟨z, hz, hc⟩
theorem fold_ok (a : List S62) : ∀ (bs out : List S62), bs.Pairwise (fun x y => x.f0 < y.f0) → out.Pairwise (fun x y => x.f0 < y.f0) → (∀ z ∈ out, z ∈ a ∨ ∀ y ∈ bs, z.f0 < y.f0) →
    (bs.foldl (stepR a) out).Pairwise (fun x y => x.f0 < y.f0) ∧ ∀ z, z ∈ bs.foldl (stepR a) out ↔ z ∈ out ∨ (z ∈ bs ∧ ∀ x ∈ a, x.f0 ≠ z.f0)
  | [], out, _, h2, _ => ⟨h2, fun z => by simp⟩
  | y :: r, out, h1, h2, h3 => by
    obtain ⟨p1, p2⟩ := List.pairwise_cons.1 h1
    rw [List.foldl_cons]
    by_cases c : (a.any fun x => decide (x.f0 = y.f0)) = true
    · have hs : stepR a out y = out := by unfold stepR; rw [if_pos c]
      rw [hs]
      obtain ⟨q1, q2⟩ := fold_ok a r out p2 h2 (fun z hz => (h3 z hz).imp id (fun h u hu => h u (by simp [hu])))
      refine ⟨q1, fun z => ?_⟩
      rw [q2 z, List.mem_cons]
      obtain ⟨x, hx, hxe⟩ := List.any_eq_true.1 c
      have hxe := of_decide_eq_true hxe
      constructor
      · rintro (h | ⟨h, hn⟩)
        · exact .inl h
        · exact .inr ⟨.inr h, hn⟩
      · rintro (h | ⟨rfl | h, hn⟩)
        · exact .inl h
        · exact absurd hxe (hn x hx)
        · exact .inr ⟨h, hn⟩
    · have hs : stepR a out y = insT y out := by unfold stepR; rw [if_neg c]
      have hno : ∀ x ∈ a, x.f0 ≠ y.f0 := fun x hx e => c (List.any_eq_true.2 ⟨x, hx, decide_eq_true e⟩)
      rw [hs]
      have hout : ∀ z ∈ out, z.f0 ≠ y.f0 := fun z hz => by
        rcases h3 z hz with h | h
        · exact hno z h
        · have := h y (by simp); omega
      obtain ⟨q1, q2⟩ := fold_ok a r (insT y out) p2 (insT_pair y h2 hout) (fun z hz => by
        rcases (insT_mem y out z).1 hz with rfl | hz
        · exact .inr p1
        · exact (h3 z hz).imp id (fun h u hu => h u (by simp [hu])))
      refine ⟨q1, fun z => ?_⟩
      rw [q2 z, insT_mem, List.mem_cons]
      constructor
      · rintro ((rfl | h) | ⟨h, hn⟩)
        · exact .inr ⟨.inl rfl, hno⟩
        · exact .inl h
        · exact .inr ⟨.inr h, hn⟩
      · rintro (h | ⟨rfl | h, hn⟩)
        · exact .inl (.inr h)
        · exact .inl (.inl rfl)
        · exact .inr ⟨h, hn⟩
theorem fine_rise {l : List S62} (h : fine l) : l.Pairwise (fun x y => x.f0 < y.f0) := by
  rw [List.pairwise_iff_getElem]
  intro i j hi hj hij
  have := fine_up h i j hij hj
  rwa [rd_at l i hi, rd_at l j hj] at this
/-- What both say. -/
def says (a b : List S62) : List S62 × Int := if samples_Merge.dup (samples_Merge.both a b) = true then ([], 8) else if (samples_Merge.both a b).length > 64 then ([], 6) else (samples_Merge.both a b, 0)
theorem says_comm (a b : List S62) : says a b = says b a := by unfold says; rw [both_comm a b]
theorem merge_fine {a b : List S62} (ha : fine a) (hb : fine b) (k : Nat) (hk : 1100 ≤ k) : samples_Merge.f k a b = some (says a b) := by
  have := ha.1
  have := hb.1
  unfold samples_Merge.f says
  rw [(check_eq k (by omega) a).1 ha, Option.bind_some, if_pos rfl, (check_eq k (by omega) b).1 hb, Option.bind_some, if_pos rfl, if_pos (by omega), if_pos (by omega)]
  split
  · rfl
  · split <;> rfl
theorem merge_bad {a b : List S62} (h : ¬ fine a ∨ ¬ fine b) (k : Nat) (hk : 1100 ≤ k) : samples_Merge.f k a b = some ([], 1) := by
  unfold samples_Merge.f
  by_cases ha : fine a
  · have hb : ¬ fine b := by rcases h with h | h; exact absurd ha h; exact h
    rw [(check_eq k (by omega) a).1 ha, Option.bind_some, if_pos rfl, (check_eq k (by omega) b).2 hb, Option.bind_some, if_neg (by decide)]
  · rw [(check_eq k (by omega) a).2 ha, Option.bind_some, if_neg (by decide)]
theorem ref_fine {a b : List S62} (ha : fine a) (hb : fine b) (k : Nat) (hk : 1100 ≤ k) : windroseref12_Merge.f k a b = some (says a b) := by
  have hbl := hb.1
  have hal := ha.1
  obtain ⟨r1, r2⟩ := ref_l0 ha b (by omega) b.length k 0 a (by omega) (by omega) (by omega)
  rw [List.drop_zero] at r1 r2
  have e : windroseref12_Merge.f k a b = windroseref12_Merge.l0 k a b a ((0 : Nat) : Int) := rfl
  rw [e]
  by_cases hc : ∃ y ∈ b, conf a y
  · rw [r2 hc]
    obtain ⟨y, hy, x, hx, e1, e2⟩ := hc
    unfold says
    rw [if_pos (dup_conf (both_rising a b) ((both_mem a b x).2 (.inl hx)) ((both_mem a b y).2 (.inr hy)) e1 e2)]
  · have hno : ∀ y ∈ b, ¬ conf a y := fun y hy h => hc ⟨y, hy, h⟩
    rw [r1 hno]
    obtain ⟨q1, q2⟩ := fold_ok a b a (fine_rise hb) (fine_rise ha) (fun z hz => .inl hz)
    have same : ∀ x ∈ a, ∀ y ∈ b, x.f0 = y.f0 → x = y := fun x hx y hy he => by
      have h1 : x.f1 = y.f1 := Classical.byContradiction fun h => hno y hy ⟨x, hx, he, h⟩
      cases x; cases y
      simp only at he h1
      rw [he, h1]
    have all : ∀ x ∈ samples_Merge.both a b, ∀ y ∈ samples_Merge.both a b, x.f0 = y.f0 → x = y := fun x hx y hy he => by
      rcases (both_mem a b x).1 hx with hx | hx
      · rcases (both_mem a b y).1 hy with hy | hy
        · exact f0_one (fine_rise ha) x hx y hy he
        · exact same x hx y hy he
      · rcases (both_mem a b y).1 hy with hy | hy
        · exact (same y hy x hx he.symm).symm
        · exact f0_one (fine_rise hb) x hx y hy he
    have hd := dup_none (both_rising a b) all
    have heq : b.foldl (stepR a) a = samples_Merge.both a b := by
      refine rising_ext (lt := fun x y => decide (x.f0 < y.f0)) (fun x => by simp) (fun x y h => by simp at h ⊢; omega) (q1.imp (fun h => decide_eq_true h)) ((rise_f0 (both_rising a b) hd).imp (fun h => decide_eq_true h)) (fun z => ?_)
      rw [q2 z, both_mem]
      constructor
      · rintro (h | ⟨h, _⟩)
        · exact .inl h
        · exact .inr h
      · rintro (h | h)
        · exact .inl h
        · by_cases hx : ∃ x ∈ a, x.f0 = z.f0
          · obtain ⟨x, hx, he⟩ := hx
            rw [← same x hx z h he]
            exact .inl hx
          · exact .inr ⟨h, fun x hxa he => hx ⟨x, hxa, he⟩⟩
    rw [heq]
    unfold fin says
    rw [if_neg (show ¬ samples_Merge.dup (samples_Merge.both a b) = true by rw [hd]; decide)]
    by_cases c : (samples_Merge.both a b).length > 64
    · rw [if_pos (show ((samples_Merge.both a b).length : Int) > 64 by omega), if_pos c]
    · rw [if_neg (show ¬ ((samples_Merge.both a b).length : Int) > 64 by omega), if_neg c]
theorem says_len {a b : List S62} : (says a b).1.length ≤ 1000 := by
  unfold says
  split
  · simp
  · split
    · simp
    · simp only; omega
theorem awake0 : windroselaw12_awake.f 1200 = some true := by kernel_rfl
theorem awake_k : ∀ k, 1200 ≤ k → windroselaw12_awake.f k = some true := by
  intro k hk
  obtain ⟨d, rfl⟩ : ∃ d, k = 1200 + d := ⟨k - 1200, by omega⟩
  clear hk
  induction d with
  | zero => exact awake0
  | succ d ih => exact windroselaw12_awake.mono _ _ ih
theorem law_bad (a b x y : List S62) (hx : x = []) (hy : y = []) (k : Nat) (hk : 1300 ≤ k) : windroselaw12_SamplesMerge.j1 (k + 1) a b x 1 y 1 true = some true := by
  subst hx
  subst hy
  rw [windroselaw12_SamplesMerge.j1, if_pos rfl, if_pos rfl, if_pos rfl, if_pos (show ((([] : List S62).length : Nat) : Int) = 0 from rfl), if_pos (show ((([] : List S62).length : Nat) : Int) = 0 from rfl), awake_k k (by omega), Option.bind_some]
theorem pure (a b : List S62) : windroselaw12_SamplesMerge.f 2000 a b = some true := by
  have hj : ∀ (v : Bool), v = decide ((b.length : Int) > 200) → ¬ (a.length : Int) > 200 → windroselaw12_SamplesMerge.j0 2000 a b v = some true := by
    intro v hv hal
    rw [show (2000 : Nat) = 1998 + 1 + 1 from rfl, windroselaw12_SamplesMerge.j0]
    by_cases hbl : (b.length : Int) > 200
    · rw [hv, decide_eq_true hbl, if_pos rfl, awake_k _ (by omega), Option.bind_some]
    · rw [hv, decide_eq_false hbl, if_neg (by decide)]
      by_cases hfa : fine a
      · by_cases hfb : fine b
        · rw [merge_fine hfa hfb _ (by omega), Option.bind_some, merge_fine hfb hfa _ (by omega), Option.bind_some, (may_eq _ (by omega) a (by omega)).1 hfa, Option.bind_some, if_pos rfl, (may_eq _ (by omega) b (by omega)).1 hfb, Option.bind_some, says_comm b a]
          have hl := @says_len a b
          have hs := same_eq 1998 (by omega) (says a b).1 hl
          have hr := ref_fine hfa hfb 1998 (by omega)
          generalize says a b = o at hs hr ⊢
          rw [windroselaw12_SamplesMerge.j1, if_neg (by decide), hr, Option.bind_some, if_pos rfl, if_pos rfl, hs, Option.bind_some, if_pos rfl, Option.bind_some, if_pos rfl, awake_k _ (by omega), Option.bind_some]
        · rw [merge_bad (.inr hfb) _ (by omega), Option.bind_some, merge_bad (.inl hfb) _ (by omega), Option.bind_some, (may_eq _ (by omega) a (by omega)).1 hfa, Option.bind_some, if_pos rfl, (may_eq _ (by omega) b (by omega)).2 hfb, Option.bind_some]
          exact law_bad a b [] [] rfl rfl 1998 (by omega)
      · rw [merge_bad (.inl hfa) _ (by omega), Option.bind_some, merge_bad (.inr hfa) _ (by omega), Option.bind_some, (may_eq _ (by omega) a (by omega)).2 hfa, Option.bind_some, if_neg (by decide)]
        exact law_bad a b [] [] rfl rfl 1998 (by omega)
  unfold windroselaw12_SamplesMerge.f
  by_cases hl : (a.length : Int) > 200
  · rw [if_pos hl, show (2000 : Nat) = 1999 + 1 from rfl, windroselaw12_SamplesMerge.j0, if_pos rfl, awake_k 1999 (by omega), Option.bind_some]
  · rw [if_neg hl]
    exact hj _ rfl hl
end Go.Proofs.Ytilgmccdpddeoaa.PSamplesMerge
