/- SamplesReads, plainly: what is found by halves is what a walk of the row finds. -/
import Derived.Test.YtilgmccdpddeoaaPSamplesReadsx5
namespace Go.Proofs.Ytilgmccdpddeoaa.PSamplesReads
open Go.RowKit Go.Proofs.YtilgmccdpddeoaaW.PrintWords Go.Proofs.YtilgmccdpddeoaaW.PrintMore
/-- What the row may not have at one place. -/
def bad (l : List S62) (i : Int) : Prop := (rd_T62 l i).f0 < 0 ∨ (rd_T62 l i).f0 > 1099511627776 ∨ (rd_T62 l i).f1 < -1099511627776 ∨ (rd_T62 l i).f1 > 1099511627776 ∨ (i > 0 ∧ (rd_T62 l i).f0 ≤ (rd_T62 l (i - 1)).f0)
def fine (l : List S62) : Prop := l.length ≤ 64 ∧ ∀ i : Int, 0 ≤ i → i < l.length → ¬ bad l i
theorem check_l0 (l : List S62) (hl : l.length ≤ 1000) : ∀ (k : Nat) (i : Int), 0 ≤ i → i ≤ l.length → (l.length : Int) - i < k →
    ∃ c, block_Check.l0 k l l (l.length : Int) i = some c ∧ (c = 0 ∨ c = 1) ∧ (c = 0 ↔ ∀ j, i ≤ j → j < l.length → ¬ bad l j) := by
  intro k
  induction k with
  | zero => intro i h0 h1 h2; omega
  | succ k ih =>
    intro i h0 h1 h2
    simp only [block_Check.l0]
    by_cases c1 : i < (l.length : Int)
    · rw [if_pos c1, if_pos h0, if_pos c1]
      have no : ∀ (hb : bad l i), ¬ (∀ j, i ≤ j → j < (l.length : Int) → ¬ bad l j) := fun hb h => h i (Int.le_refl _) c1 hb
      have w1 : wrap64 (i + 1) = i + 1 := by unfold wrap64; omega
      have w2 : i > 0 → wrap64 (i - 1) = i - 1 := by intro _; unfold wrap64; omega
      by_cases b1 : (rd_T62 l i).f0 < 0
      · rw [if_pos b1]; exact ⟨1, rfl, Or.inr rfl, by simp; exact ⟨i, Int.le_refl _, c1, Or.inl b1⟩⟩
      rw [if_neg b1]
      by_cases b2 : (rd_T62 l i).f0 > 1099511627776
      · rw [if_pos b2]; exact ⟨1, rfl, Or.inr rfl, by simp; exact ⟨i, Int.le_refl _, c1, Or.inr (Or.inl b2)⟩⟩
      rw [if_neg b2]
      by_cases b3 : (rd_T62 l i).f1 < -1099511627776
      · rw [if_pos b3]; exact ⟨1, rfl, Or.inr rfl, by simp; exact ⟨i, Int.le_refl _, c1, Or.inr (Or.inr (Or.inl b3))⟩⟩
      rw [if_neg b3]
      by_cases b4 : (rd_T62 l i).f1 > 1099511627776
      · rw [if_pos b4]; exact ⟨1, rfl, Or.inr rfl, by simp; exact ⟨i, Int.le_refl _, c1, Or.inr (Or.inr (Or.inr (Or.inl b4)))⟩⟩
      rw [if_neg b4]
      have step : (¬ (i > 0 ∧ (rd_T62 l i).f0 ≤ (rd_T62 l (i - 1)).f0)) → ∃ c, block_Check.l0 k l l (l.length : Int) (i + 1) = some c ∧ (c = 0 ∨ c = 1) ∧ (c = 0 ↔ ∀ j, i ≤ j → j < l.length → ¬ bad l j) := by
        intro b5
        obtain ⟨c, e, h, q⟩ := ih (i + 1) (by omega) (by omega) (by omega)
        refine ⟨c, e, h, q.trans ⟨fun H j h3 h4 => ?_, fun H j h3 h4 => H j (by omega) h4⟩⟩
        rcases (by omega : j = i ∨ i + 1 ≤ j) with rfl | h5
        · rintro (h | h | h | h | h) <;> contradiction
        · exact H j h5 h4
      by_cases b0 : i > 0
      · rw [if_pos b0, w2 b0, if_pos (by omega), if_pos (by omega)]
        by_cases b5 : (rd_T62 l i).f0 ≤ (rd_T62 l (i - 1)).f0
        · rw [if_pos b5]; exact ⟨1, rfl, Or.inr rfl, by simp; exact ⟨i, Int.le_refl _, c1, Or.inr (Or.inr (Or.inr (Or.inr ⟨b0, b5⟩)))⟩⟩
        · rw [if_neg b5, w1]; exact step (fun h => b5 h.2)
      · rw [if_neg b0, w1]; exact step (fun h => b0 h.1)
    · rw [if_neg c1]
      exact ⟨0, rfl, Or.inl rfl, by simp; intro j h3 h4; omega⟩
theorem check_eq (k : Nat) (hk : 1000 < k) (l : List S62) : (fine l → block_Check.f k l = some 0) ∧ (¬ fine l → block_Check.f k l = some 1) := by
  unfold block_Check.f fine
  by_cases h : (l.length : Int) > 64
  · rw [if_pos h]; exact ⟨fun q => by omega, fun _ => rfl⟩
  · rw [if_neg h]
    obtain ⟨c, e, h1, q⟩ := check_l0 l (by omega) k 0 (by omega) (by omega) (by omega)
    rw [e]
    constructor
    · intro ⟨_, f⟩
      rw [q.2 f]
    · intro f
      rcases h1 with rfl | rfl
      · exact absurd ⟨by omega, q.1 rfl⟩ f
      · rfl
theorem may_l0 (l : List S62) (hl : l.length ≤ 1000) : ∀ (k : Nat) (i : Int), 0 ≤ i → i ≤ l.length → (l.length : Int) - i < k →
    ∃ c, windroseref11_May.l0 k l i = some c ∧ (c = true ↔ (l.length ≤ 64 ∧ ∀ j, i ≤ j → j < l.length → ¬ bad l j)) := by
  intro k
  induction k with
  | zero => intro i h0 h1 h2; omega
  | succ k ih =>
    intro i h0 h1 h2
    simp only [windroseref11_May.l0]
    by_cases c1 : i < (l.length : Int)
    · rw [if_pos c1, if_pos h0]
      have w1 : wrap64 (i + 1) = i + 1 := by unfold wrap64; omega
      have w2 : i > 0 → wrap64 (i - 1) = i - 1 := by intro _; unfold wrap64; omega
      have no : bad l i → ∃ c, (some false : Option Bool) = some c ∧ (c = true ↔ (l.length ≤ 64 ∧ ∀ j, i ≤ j → j < l.length → ¬ bad l j)) := fun hb => ⟨false, rfl, by simp; exact fun _ => ⟨i, Int.le_refl _, c1, hb⟩⟩
      by_cases b1 : (rd_T62 l i).f0 < 0
      · rw [if_pos b1]; exact no (Or.inl b1)
      rw [if_neg b1]
      by_cases b2 : (rd_T62 l i).f0 > 1099511627776
      · rw [if_pos b2]; exact no (Or.inr (Or.inl b2))
      rw [if_neg b2]
      by_cases b3 : (rd_T62 l i).f1 < -1099511627776
      · rw [if_pos b3]; exact no (Or.inr (Or.inr (Or.inl b3)))
      rw [if_neg b3]
      by_cases b4 : (rd_T62 l i).f1 > 1099511627776
      · rw [if_pos b4]; exact no (Or.inr (Or.inr (Or.inr (Or.inl b4))))
      rw [if_neg b4]
      have step : (¬ (i > 0 ∧ (rd_T62 l i).f0 ≤ (rd_T62 l (i - 1)).f0)) → ∃ c, windroseref11_May.l0 k l (i + 1) = some c ∧ (c = true ↔ (l.length ≤ 64 ∧ ∀ j, i ≤ j → j < l.length → ¬ bad l j)) := by
        intro b5
        obtain ⟨c, e, q⟩ := ih (i + 1) (by omega) (by omega) (by omega)
        refine ⟨c, e, q.trans ⟨fun H => ⟨H.1, fun j h3 h4 => ?_⟩, fun H => ⟨H.1, fun j h3 h4 => H.2 j (by omega) h4⟩⟩⟩
        rcases (by omega : j = i ∨ i + 1 ≤ j) with rfl | h5
        · rintro (h | h | h | h | h) <;> contradiction
        · exact H.2 j h5 h4
      by_cases b0 : i > 0
      · rw [if_pos b0, w2 b0, if_pos (by omega), if_pos (by omega)]
        by_cases b5 : (rd_T62 l (i - 1)).f0 ≥ (rd_T62 l i).f0
        · rw [if_pos b5]; exact no (Or.inr (Or.inr (Or.inr (Or.inr ⟨b0, b5⟩))))
        · rw [if_neg b5, w1]; exact step (fun h => b5 h.2)
      · rw [if_neg b0, w1]; exact step (fun h => b0 h.1)
    · rw [if_neg c1]
      exact ⟨_, rfl, ⟨fun h => ⟨by have := of_decide_eq_true h; omega, fun j h3 h4 => by omega⟩, fun h => decide_eq_true (by have := h.1; omega)⟩⟩
theorem may_eq (k : Nat) (hk : 1000 < k) (l : List S62) (hl : l.length ≤ 200) : (fine l → windroseref11_May.f k l = some true) ∧ (¬ fine l → windroseref11_May.f k l = some false) := by
  unfold windroseref11_May.f fine
  obtain ⟨c, e, q⟩ := may_l0 l (by omega) k 0 (by omega) (by omega) (by omega)
  rw [e]
  constructor
  · intro f
    rw [q.2 f]
  · intro f
    cases c
    · rfl
    · exact absurd (q.1 rfl) f
theorem same_l0 (l : List S62) (hl : l.length ≤ 1000) : ∀ (k : Nat) (i : Int), 0 ≤ i → i ≤ l.length → (l.length : Int) - i < k → windroseref11_Same.l0 k l l i = some true := by
  intro k
  induction k with
  | zero => intro i h0 h1 h2; omega
  | succ k ih =>
    intro i h0 h1 h2
    simp only [windroseref11_Same.l0]
    by_cases c1 : i < (l.length : Int)
    · rw [if_pos c1, if_pos h0, if_pos c1, if_neg (by simp)]
      have w1 : wrap64 (i + 1) = i + 1 := by unfold wrap64; omega
      rw [w1]
      exact ih _ (by omega) (by omega) (by omega)
    · rw [if_neg c1]
theorem same_eq (k : Nat) (hk : 1000 < k) (l : List S62) (hl : l.length ≤ 1000) : windroseref11_Same.f k l l = some true := by
  unfold windroseref11_Same.f
  rw [if_pos rfl]
  exact same_l0 l hl k 0 (by omega) (by omega) (by omega)
theorem rd_at (l : List S62) (i : Nat) (h : i < l.length) : rd_T62 l (i : Int) = l[i] := by
  unfold rd_T62
  simp [h]
/-- The times go up. -/
theorem fine_up {l : List S62} (h : fine l) : ∀ i j : Nat, i < j → j < l.length → (rd_T62 l i).f0 < (rd_T62 l j).f0 := by
  intro i j hij
  induction j with
  | zero => omega
  | succ j ih =>
    intro hj
    have h1 := h.2 ((j + 1 : Nat) : Int) (by omega) (by omega)
    have h2 : (rd_T62 l (j : Nat)).f0 < (rd_T62 l ((j + 1 : Nat) : Int)).f0 := by
      refine Int.not_le.1 fun q => h1 (Or.inr (Or.inr (Or.inr (Or.inr ⟨by omega, ?_⟩))))
      have e : ((j + 1 : Nat) : Int) - 1 = (j : Nat) := by omega
      rw [e]
      exact q
    rcases (by omega : i = j ∨ i < j) with rfl | h3
    · exact h2
    · have := ih h3 (by omega)
      omega
/-- A search by halves ends where the answer turns. -/
theorem bsl_turn (lt : Nat → Bool) (d : Nat) : ∀ i j, i ≤ j → j - i ≤ d → (∀ a b, i ≤ a → a ≤ b → b < j → lt b = true → lt a = true) →
    (∀ a, i ≤ a → a < Hand.bsl lt d i j → lt a = true) ∧ (∀ a, Hand.bsl lt d i j ≤ a → a < j → lt a = false) := by
  induction d with
  | zero => intro i j h h1 _; simp only [Hand.bsl]; exact ⟨fun a _ _ => by omega, fun a _ _ => by omega⟩
  | succ d ih =>
    intro i j h h1 m
    simp only [Hand.bsl]
    by_cases c : i < j
    · rw [if_pos c]
      by_cases q : lt ((i + j) / 2) = true
      · rw [if_pos q]
        obtain ⟨p1, p2⟩ := ih ((i + j) / 2 + 1) j (by omega) (by omega) (fun a b x y z => m a b (by omega) y z)
        refine ⟨fun a h3 h4 => ?_, p2⟩
        rcases Nat.lt_or_ge ((i + j) / 2) a with h5 | h5
        · exact p1 a h5 h4
        · exact m a _ h3 h5 (by omega) q
      · rw [if_neg q]
        obtain ⟨p1, p2⟩ := ih i ((i + j) / 2) (by omega) (by omega) (fun a b x y z => m a b x y (by omega))
        refine ⟨p1, fun a h3 h4 => ?_⟩
        rcases Nat.lt_or_ge a ((i + j) / 2) with h5 | h5
        · exact p2 a h3 h5
        · cases e : lt a with
          | false => rfl
          | true =>
            have hle := Hand.bsl_le lt d i ((i + j) / 2) (by omega)
            exact absurd (m ((i + j) / 2) a (by omega) h5 h4 e) q
    · rw [if_neg c]
      exact ⟨fun a _ _ => by omega, fun a _ _ => by omega⟩
theorem cmpI_lt (a b : Int) : Hand.cmpI a b < 0 ↔ a < b := by
  unfold Hand.cmpI
  split
  · omega
  · split <;> omega
theorem cmpI_eq (a b : Int) : Hand.cmpI a b = 0 ↔ a = b := by
  unfold Hand.cmpI
  split
  · omega
  · split <;> omega
/-- The place of a time in a row. -/
def spot (l : List S62) (a : Int) : Nat := api_Sample_int.place (fun x => Hand.cmpI x.f0 a) l
theorem spot_le (l : List S62) (a : Int) : spot l a ≤ l.length := api_Sample_int.place_le _ _
theorem spot_turn {l : List S62} (h : fine l) (a : Int) : ∀ i : Nat, i < l.length → ((rd_T62 l i).f0 < a ↔ i < spot l a) := by
  have := bsl_turn (fun i => decide (Hand.cmpI (rd_T62 l (i : Int)).f0 a < 0)) l.length 0 l.length (by omega) (by omega) (by
    intro x y _ h2 h3 h4
    simp only [decide_eq_true_eq, cmpI_lt] at h4 ⊢
    rcases (by omega : x = y ∨ x < y) with rfl | h5
    · exact h4
    · have := fine_up h x y h5 h3
      omega)
  intro i hi
  constructor
  · intro h1
    refine Nat.lt_of_not_le fun q => ?_
    have := this.2 i q hi
    simp [cmpI_lt] at this
    omega
  · intro h1
    have := this.1 i (by omega) h1
    simpa [cmpI_lt] using this
theorem at_eq (l : List S62) (a : Int) (hl : l.length ≤ 200) : ∃ b, samples_at.f l a = some ((spot l a : Int), b) ∧ (b = true ↔ spot l a < l.length ∧ (rd_T62 l (spot l a : Int)).f0 = a) := by
  unfold samples_at.f
  rw [if_pos (by omega)]
  refine ⟨_, rfl, ?_⟩
  unfold api_Sample_int.found
  simp [cmpI_eq, spot]
theorem filter_none (P : S62 → Bool) (l : List S62) (h : ∀ i : Nat, i < l.length → P (rd_T62 l (i : Int)) = false) : l.filter P = [] := by
  rw [List.filter_eq_nil_iff]
  intro x hx
  obtain ⟨i, hi, rfl⟩ := List.getElem_of_mem hx
  rw [← rd_at l i hi, h i hi]
  simp
theorem filter_every (P : S62 → Bool) (l : List S62) (h : ∀ i : Nat, i < l.length → P (rd_T62 l (i : Int)) = true) : l.filter P = l := by
  rw [List.filter_eq_self]
  intro x hx
  obtain ⟨i, hi, rfl⟩ := List.getElem_of_mem hx
  rw [← rd_at l i hi, h i hi]
/-- What a range holds, told by what it lets through. -/
theorem filter_mid (P : S62 → Bool) (l : List S62) (p m : Nat) (hm : m ≤ l.length) (h : ∀ i : Nat, i < l.length → (P (rd_T62 l (i : Int)) = true ↔ p ≤ i ∧ i < m)) : l.filter P = (l.take m).drop p := by
  rcases Nat.lt_or_ge m p with c | c
  · rw [filter_none P l (fun i hi => by
      cases e : P (rd_T62 l (i : Int)) with
      | false => rfl
      | true => have := (h i hi).1 e; omega)]
    rw [List.drop_eq_nil_of_le (by rw [List.length_take]; omega)]
  · have e1 : l = (l.take m).take p ++ ((l.take m).drop p ++ l.drop m) := by rw [← List.append_assoc, List.take_append_drop, List.take_append_drop]
    have e2 : l.filter P = ((l.take m).take p).filter P ++ (((l.take m).drop p).filter P ++ (l.drop m).filter P) := by
      conv => lhs; rw [e1]
      rw [List.filter_append, List.filter_append]
    rw [e2, filter_none P ((l.take m).take p) (fun i hi => ?_), filter_none P (l.drop m) (fun i hi => ?_), filter_every P ((l.take m).drop p) (fun i hi => ?_)]
    · rw [List.append_nil, List.nil_append]
    · rw [List.length_drop, List.length_take] at hi
      rw [rd_at _ i (by rw [List.length_drop, List.length_take]; omega), List.getElem_drop, List.getElem_take, ← rd_at l _ (by omega)]
      exact (h _ (by omega)).2 (by omega)
    · rw [List.length_drop] at hi
      rw [rd_at _ i (by rw [List.length_drop]; omega), List.getElem_drop, ← rd_at l _ (by omega)]
      cases e : P (rd_T62 l ((m + i : Nat) : Int)) with
      | false => rfl
      | true => have := (h _ (by omega)).1 e; omega
    · rw [List.length_take, List.length_take] at hi
      rw [rd_at _ i (by rw [List.length_take, List.length_take]; omega), List.getElem_take, List.getElem_take, ← rd_at l _ (by omega)]
      cases e : P (rd_T62 l (i : Int)) with
      | false => rfl
      | true => have := (h _ (by omega)).1 e; omega

theorem drop_at (l : List S62) (i : Nat) (h : i < l.length) : l.drop i = rd_T62 l (i : Int) :: l.drop (i + 1) := by
  rw [rd_at l i h]
  exact List.drop_eq_getElem_cons h
theorem range_l0 (l : List S62) (hl : l.length ≤ 1000) (a b : Int) : ∀ (k i : Nat) (acc : List S62), i ≤ l.length → acc.length ≤ i → l.length - i < k →
    windroseref12_Range.l0 k l a b acc i = some (acc ++ (l.drop i).filter (fun x => decide (a ≤ x.f0) && decide (x.f0 < b))) := by
  intro k
  induction k with
  | zero => intro i acc h0 h1 h2; omega
  | succ k ih =>
    intro i acc h0 h1 h2
    simp only [windroseref12_Range.l0]
    by_cases c1 : (i : Int) < (l.length : Int)
    · have w1 : wrap64 ((i : Int) + 1) = ((i + 1 : Nat) : Int) := by unfold wrap64; omega
      rw [if_pos c1, if_pos (by omega), drop_at l i (by omega), w1]
      have e := ih (i + 1) acc (by omega) (by omega) (by omega)
      have e' := ih (i + 1) (acc ++ [rd_T62 l (i : Int)]) (by omega) (by simp; omega) (by omega)
      by_cases c2 : (rd_T62 l (i : Int)).f0 ≥ a
      · rw [if_pos c2]
        by_cases c3 : (rd_T62 l (i : Int)).f0 < b
        · rw [if_pos c3, if_pos (by omega), List.filter_cons_of_pos (by simp [c3]; exact c2)]
          rw [List.append_assoc] at e'
          exact e'
        · rw [if_neg c3, List.filter_cons_of_neg (by simp [c3])]
          exact e
      · rw [if_neg c2, List.filter_cons_of_neg (by simp; omega)]
        exact e
    · rw [if_neg c1, List.drop_eq_nil_of_le (by omega)]
      simp
theorem trim_l0 (l : List S62) (hl : l.length ≤ 1000) (a : Int) : ∀ (k i : Nat) (acc : List S62), i ≤ l.length → acc.length ≤ i → l.length - i < k →
    windroseref12_Trim.l0 k l a acc i = some (acc ++ (l.drop i).filter (fun x => decide (a ≤ x.f0))) := by
  intro k
  induction k with
  | zero => intro i acc h0 h1 h2; omega
  | succ k ih =>
    intro i acc h0 h1 h2
    simp only [windroseref12_Trim.l0]
    by_cases c1 : (i : Int) < (l.length : Int)
    · have w1 : wrap64 ((i : Int) + 1) = ((i + 1 : Nat) : Int) := by unfold wrap64; omega
      rw [if_pos c1, if_pos (by omega), drop_at l i (by omega), w1]
      have e := ih (i + 1) acc (by omega) (by omega) (by omega)
      have e' := ih (i + 1) (acc ++ [rd_T62 l (i : Int)]) (by omega) (by simp; omega) (by omega)
      by_cases c2 : (rd_T62 l (i : Int)).f0 ≥ a
      · rw [if_pos c2, if_pos (by omega), List.filter_cons_of_pos (by simp; exact c2)]
        rw [List.append_assoc] at e'
        exact e'
      · rw [if_neg c2, List.filter_cons_of_neg (by simp; omega)]
        exact e
    · rw [if_neg c1, List.drop_eq_nil_of_le (by omega)]
      simp
theorem get_none (l : List S62) (hl : l.length ≤ 1000) (a : Int) (h : ∀ j : Nat, j < l.length → (rd_T62 l (j : Int)).f0 ≠ a) : ∀ (k i : Nat), i ≤ l.length → l.length - i < k →
    windroseref12_Get.l0 k l a i = some (0, 0, false) := by
  intro k
  induction k with
  | zero => intro i h0 h2; omega
  | succ k ih =>
    intro i h0 h2
    simp only [windroseref12_Get.l0]
    by_cases c1 : (i : Int) < (l.length : Int)
    · have w1 : wrap64 ((i : Int) + 1) = ((i + 1 : Nat) : Int) := by unfold wrap64; omega
      rw [if_pos c1, if_pos (by omega), if_neg (h i (by omega)), w1]
      exact ih (i + 1) (by omega) (by omega)
    · rw [if_neg c1]
theorem get_some (l : List S62) (hl : l.length ≤ 1000) (a : Int) (p : Nat) (hp : p < l.length) (hpa : (rd_T62 l (p : Int)).f0 = a) (h : ∀ j : Nat, j < p → (rd_T62 l (j : Int)).f0 ≠ a) : ∀ (k i : Nat), i ≤ p → l.length - i < k →
    windroseref12_Get.l0 k l a i = some ((rd_T62 l (p : Int)).f0, (rd_T62 l (p : Int)).f1, true) := by
  intro k
  induction k with
  | zero => intro i h0 h2; omega
  | succ k ih =>
    intro i h0 h2
    simp only [windroseref12_Get.l0]
    have w1 : wrap64 ((i : Int) + 1) = ((i + 1 : Nat) : Int) := by unfold wrap64; omega
    rw [if_pos (by omega), if_pos (by omega), w1]
    rcases (by omega : i = p ∨ i < p) with rfl | c
    · rw [if_pos hpa]
    · rw [if_neg (h i c)]
      exact ih (i + 1) (by omega) (by omega)
theorem awake_eq : windroselaw12_awake.f 2000 = some true := by kernel_rfl
theorem clone_eq (l : List S62) (h : l.length ≤ 1000) : api_Sample_81.f l = some l := by
  unfold api_Sample_81.f
  rw [if_pos (by omega)]
theorem pure (l : List S62) (a b : Int) : windroselaw12_SamplesReads.f 2000 l a b = some true := by
  unfold windroselaw12_SamplesReads.f
  by_cases hl : (l.length : Int) > 200
  · rw [if_pos hl, awake_eq]; rfl
  rw [if_neg hl]
  have hl' : l.length ≤ 200 := by omega
  obtain ⟨q, eq, hq⟩ := at_eq l a hl'
  obtain ⟨q2, eq2, hq2⟩ := at_eq l b hl'
  have s1 := spot_le l a
  have s2 := spot_le l b
  unfold samples_Get.f samples_Range.f samples_Trim.f
  rw [eq, eq2, Option.bind_some]
  by_cases hf : fine l
  · rw [(check_eq 2000 (by omega) l).1 hf, (may_eq 2000 (by omega) l hl').1 hf]
    simp only [Option.bind_some]
    have t1 := spot_turn hf a
    have t2 := spot_turn hf b
    have eT : windroseref12_Trim.f 2000 l a = some (l.drop (spot l a)) := by
      unfold windroseref12_Trim.f
      have := trim_l0 l (by omega) a 2000 0 [] (by omega) (by simp) (by omega)
      rw [List.drop_zero, List.nil_append, filter_mid _ l (spot l a) l.length (by omega) (fun i hi => by
        have := t1 i hi
        simp only [decide_eq_true_eq]
        omega), List.take_length] at this
      exact this
    have eR : windroseref12_Range.f 2000 l a b = some ((l.take (max (spot l a) (spot l b))).drop (spot l a)) := by
      unfold windroseref12_Range.f
      have := range_l0 l (by omega) a b 2000 0 [] (by omega) (by simp) (by omega)
      rw [List.drop_zero, List.nil_append, filter_mid _ l (spot l a) (max (spot l a) (spot l b)) (by omega) (fun i hi => by
        have := t1 i hi
        have := t2 i hi
        simp only [Bool.and_eq_true, decide_eq_true_eq]
        omega)] at this
      exact this
    have em : mx (spot l a : Int) (spot l b : Int) = ((max (spot l a) (spot l b) : Nat) : Int) := by
      unfold mx
      split <;> omega
    have e1 : api_Sample_81.f (((l.take (mx (spot l a : Int) (spot l b : Int)).toNat)).drop ((spot l a : Int)).toNat) = some ((l.take (max (spot l a) (spot l b))).drop (spot l a)) := by
      rw [em, Int.toNat_natCast, Int.toNat_natCast]
      exact clone_eq _ (by rw [List.length_drop, List.length_take]; omega)
    have e2 : api_Sample_81.f (l.drop ((spot l a : Int)).toNat) = some (l.drop (spot l a)) := by
      rw [Int.toNat_natCast]
      exact clone_eq _ (by rw [List.length_drop]; omega)
    have m1 : (0 : Int) ≤ (spot l a : Int) := by omega
    have m2 : (spot l a : Int) ≤ mx (spot l a : Int) (spot l b : Int) := by rw [em]; omega
    have m3 : mx (spot l a : Int) (spot l b : Int) ≤ (l.length : Int) := by rw [em]; omega
    have m4 : (spot l a : Int) ≤ (l.length : Int) := by omega
    have f1 := same_eq 2000 (by omega) ((l.take (max (spot l a) (spot l b))).drop (spot l a)) (by rw [List.length_drop, List.length_take]; omega)
    have f2 := same_eq 2000 (by omega) (l.drop (spot l a)) (by rw [List.length_drop]; omega)
    simp only [if_true, m1, m2, m3, m4, e1, e2, eT, eR, Option.bind_some]
    rw [f1, f2]
    simp only [Option.bind_some]
    rw [awake_eq]
    cases q with
    | false =>
      have eG : windroseref12_Get.f 2000 l a = some (0, 0, false) := by
        unfold windroseref12_Get.f
        refine get_none l (by omega) a (fun j hj ej => ?_) 2000 0 (by omega) (by omega)
        have h1 := t1 j hj
        have h2 : ¬ (spot l a < l.length ∧ (rd_T62 l (spot l a : Int)).f0 = a) := fun h => by have := hq.2 h; cases this
        rcases (by omega : spot l a = j ∨ spot l a < j) with h3 | h3
        · rw [h3] at h2; exact h2 ⟨hj, ej⟩
        · have h4 := fine_up hf (spot l a) j h3 hj
          have h5 := t1 (spot l a) (by omega)
          omega
      rw [eG]
      rfl
    | true =>
      obtain ⟨h1, h2⟩ := hq.1 rfl
      have eG : windroseref12_Get.f 2000 l a = some ((rd_T62 l (spot l a : Int)).f0, (rd_T62 l (spot l a : Int)).f1, true) := by
        unfold windroseref12_Get.f
        refine get_some l (by omega) a (spot l a) h1 h2 (fun j hj ej => ?_) 2000 0 (by omega) (by omega)
        have := t1 j (by omega)
        omega
      rw [eG]
      have m5 : (spot l a : Int) < (l.length : Int) := by omega
      simp [m5]
  · rw [(check_eq 2000 (by omega) l).2 hf, (may_eq 2000 (by omega) l hl').2 hf]
    have c1 : ¬ (1 : Int) = 0 := by decide
    simp only [Option.bind_some, if_neg c1]
    rw [awake_eq]
    cases q <;> rfl
end Go.Proofs.Ytilgmccdpddeoaa.PSamplesReads
