/- SamplesPuts, plainly: one more, by halves and by a walk of the row. -/
import Derived.Test.YtilgmccdpddeoaaPSamplesPutsx4
namespace Go.Proofs.Ytilgmccdpddeoaa.PSamplesPuts
open Go.RowKit Go.Proofs.YtilgmccdpddeoaaW.PrintWords Go.Proofs.YtilgmccdpddeoaaW.PrintMore
/-- What the row may not have at one place. -/
def bad (l : List S62) (i : Int) : Prop := (rd_T62 l i).f0 < 0 ∨ (rd_T62 l i).f0 > 1099511627776 ∨ (rd_T62 l i).f1 < -1099511627776 ∨ (rd_T62 l i).f1 > 1099511627776 ∨ (i > 0 ∧ (rd_T62 l i).f0 ≤ (rd_T62 l (i - 1)).f0)
def fine (l : List S62) : Prop := l.length ≤ 64 ∧ ∀ i : Int, 0 ≤ i → i < l.length → ¬ bad l i
theorem check_l0 (l : List S62) (hl : l.length ≤ 1000) : ∀ (k : Nat) (i : Int), 0 ≤ i → i ≤ l.length → (l.length : Int) - i < k →
    ∃ c, block_Check.l0 k l l (l.length : Int) i = some c ∧ (c = 0 ∨ c = 1) ∧ (c = 0 ↔ ∀ j, i ≤ j → j < l.length → ¬ bad l j) := by
  intro k
  induction k with
  | zero => intro i h0 h1 h2; omega
  | succ k ih =>
    intro i h0 h1 h2
    simp only [block_Check.l0]
    by_cases c1 : i < (l.length : Int)
    · rw [if_pos c1, if_pos h0, if_pos c1]
      have no : ∀ (hb : bad l i), ¬ (∀ j, i ≤ j → j < (l.length : Int) → ¬ bad l j) := fun hb h => h i (Int.le_refl _) c1 hb
      have w1 : wrap64 (i + 1) = i + 1 := by unfold wrap64; omega
      have w2 : i > 0 → wrap64 (i - 1) = i - 1 := by intro _; unfold wrap64; omega
      by_cases b1 : (rd_T62 l i).f0 < 0
      · rw [if_pos b1]; exact ⟨1, rfl, Or.inr rfl, by simp; exact ⟨i, Int.le_refl _, c1, Or.inl b1⟩⟩
      rw [if_neg b1]
      by_cases b2 : (rd_T62 l i).f0 > 1099511627776
      · rw [if_pos b2]; exact ⟨1, rfl, Or.inr rfl, by simp; exact ⟨i, Int.le_refl _, c1, Or.inr (Or.inl b2)⟩⟩
      rw [if_neg b2]
      by_cases b3 : (rd_T62 l i).f1 < -1099511627776
      · rw [if_pos b3]; exact ⟨1, rfl, Or.inr rfl, by simp; exact ⟨i, Int.le_refl _, c1, Or.inr (Or.inr (Or.inl b3))⟩⟩
      rw [if_neg b3]
      by_cases b4 : (rd_T62 l i).f1 > 1099511627776
      · rw [if_pos b4]; exact ⟨1, rfl, Or.inr rfl, by simp; exact ⟨i, Int.le_refl _, c1, Or.inr (Or.inr (Or.inr (Or.inl b4)))⟩⟩
      rw [if_neg b4]
      have step : (¬ (i > 0 ∧ (rd_T62 l i).f0 ≤ (rd_T62 l (i - 1)).f0)) → ∃ c, block_Check.l0 k l l (l.length : Int) (i + 1) = some c ∧ (c = 0 ∨ c = 1) ∧ (c = 0 ↔ ∀ j, i ≤ j → j < l.length → ¬ bad l j) := by
        intro b5
        obtain ⟨c, e, h, q⟩ := ih (i + 1) (by omega) (by omega) (by omega)
        refine ⟨c, e, h, q.trans ⟨fun H j h3 h4 => ?_, fun H j h3 h4 => H j (by omega) h4⟩⟩
        rcases (by omega : j = i ∨ i + 1 ≤ j) with rfl | h5
        · rintro (h | h | h | h | h) <;> contradiction
        · exact H j h5 h4
      by_cases b0 : i > 0
      · rw [if_pos b0, w2 b0, if_pos (by omega), if_pos (by omega)]
        by_cases b5 : (rd_T62 l i).f0 ≤ (rd_T62 l (i - 1)).f0
        · rw [if_pos b5]; exact ⟨1, rfl, Or.inr rfl, by simp; exact ⟨i, Int.le_refl _, c1, Or.inr (Or.inr (Or.inr (Or.inr ⟨b0, b5⟩)))⟩⟩
        · rw [if_neg b5, w1]; exact step (fun h => b5 h.2)
      · rw [if_neg b0, w1]; exact step (fun h => b0 h.1)
    · rw [if_neg c1]
      exact ⟨0, rfl, Or.inl rfl, by simp; intro j h3 h4; omega⟩
theorem check_eq (k : Nat) (hk : 1000 < k) (l : List S62) : (fine l → block_Check.f k l = some 0) ∧ (¬ fine l → block_Check.f k l = some 1) := by
  unfold block_Check.f fine
  by_cases h : (l.length : Int) > 64
  · rw [if_pos h]; exact ⟨fun q => by omega, fun _ => rfl⟩
  · rw [if_neg h]
    obtain ⟨c, e, h1, q⟩ := check_l0 l (by omega) k 0 (by omega) (by omega) (by omega)
    rw [e]
    constructor
    · intro ⟨_, f⟩
      rw [q.2 f]
    · intro f
      rcases h1 with rfl | rfl
      · exact absurd ⟨by omega, q.1 rfl⟩ f
      · rfl
theorem may_l0 (l : List S62) (hl : l.length ≤ 1000) : ∀ (k : Nat) (i : Int), 0 ≤ i → i ≤ l.length → (l.length : Int) - i < k →
    ∃ c, windroseref11_May.l0 k l i = some c ∧ (c = true ↔ (l.length ≤ 64 ∧ ∀ j, i ≤ j → j < l.length → ¬ bad l j)) := by
  intro k
  induction k with
  | zero => intro i h0 h1 h2; omega
  | succ k ih =>
    intro i h0 h1 h2
    simp only [windroseref11_May.l0]
    by_cases c1 : i < (l.length : Int)
    · rw [if_pos c1, if_pos h0]
      have w1 : wrap64 (i + 1) = i + 1 := by unfold wrap64; omega
      have w2 : i > 0 → wrap64 (i - 1) = i - 1 := by intro _; unfold wrap64; omega
      have no : bad l i → ∃ c, (some false : Option Bool) = some c ∧ (c = true ↔ (l.length ≤ 64 ∧ ∀ j, i ≤ j → j < l.length → ¬ bad l j)) := fun hb => ⟨false, rfl, by simp; exact fun _ => ⟨i, Int.le_refl _, c1, hb⟩⟩
      by_cases b1 : (rd_T62 l i).f0 < 0
      · rw [if_pos b1]; exact no (Or.inl b1)
      rw [if_neg b1]
      by_cases b2 : (rd_T62 l i).f0 > 1099511627776
      · rw [if_pos b2]; exact no (Or.inr (Or.inl b2))
      rw [if_neg b2]
      by_cases b3 : (rd_T62 l i).f1 < -1099511627776
      · rw [if_pos b3]; exact no (Or.inr (Or.inr (Or.inl b3)))
      rw [if_neg b3]
      by_cases b4 : (rd_T62 l i).f1 > 1099511627776
      · rw [if_pos b4]; exact no (Or.inr (Or.inr (Or.inr (Or.inl b4))))
      rw [if_neg b4]
      have step : (¬ (i > 0 ∧ (rd_T62 l i).f0 ≤ (rd_T62 l (i - 1)).f0)) → ∃ c, windroseref11_May.l0 k l (i + 1) = some c ∧ (c = true ↔ (l.length ≤ 64 ∧ ∀ j, i ≤ j → j < l.length → ¬ bad l j)) := by
        intro b5
        obtain ⟨c, e, q⟩ := ih (i + 1) (by omega) (by omega) (by omega)
        refine ⟨c, e, q.trans ⟨fun H => ⟨H.1, fun j h3 h4 => ?_⟩, fun H => ⟨H.1, fun j h3 h4 => H.2 j (by omega) h4⟩⟩⟩
        rcases (by omega : j = i ∨ i + 1 ≤ j) with rfl | h5
        · rintro (h | h | h | h | h) <;> contradiction
        · exact H.2 j h5 h4
      by_cases b0 : i > 0
      · rw [if_pos b0, w2 b0, if_pos (by omega), if_pos (by omega)]
        by_cases b5 : (rd_T62 l (i - 1)).f0 ≥ (rd_T62 l i).f0
        · rw [if_pos b5]; exact no (Or.inr (Or.inr (Or.inr (Or.inr ⟨b0, b5⟩))))
        · rw [if_neg b5, w1]; exact step (fun h => b5 h.2)
      · rw [if_neg b0, w1]; exact step (fun h => b0 h.1)
    · rw [if_neg c1]
      exact ⟨_, rfl, ⟨fun h => ⟨by have := of_decide_eq_true h; omega, fun j h3 h4 => by omega⟩, fun h => decide_eq_true (by have := h.1; omega)⟩⟩
theorem may_eq (k : Nat) (hk : 1000 < k) (l : List S62) (hl : l.length ≤ 200) : (fine l → windroseref11_May.f k l = some true) ∧ (¬ fine l → windroseref11_May.f k l = some false) := by
  unfold windroseref11_May.f fine
  obtain ⟨c, e, q⟩ := may_l0 l (by omega) k 0 (by omega) (by omega) (by omega)
  rw [e]
  constructor
  · intro f
    rw [q.2 f]
  · intro f
    cases c
    · rfl
    · exact absurd (q.1 rfl) f
theorem same_l0 (l : List S62) (hl : l.length ≤ 1000) : ∀ (k : Nat) (i : Int), 0 ≤ i → i ≤ l.length → (l.length : Int) - i < k → windroseref11_Same.l0 k l l i = some true := by
  intro k
  induction k with
  | zero => intro i h0 h1 h2; omega
  | succ k ih =>
    intro i h0 h1 h2
    simp only [windroseref11_Same.l0]
    by_cases c1 : i < (l.length : Int)
    · rw [if_pos c1, if_pos h0, if_pos c1, if_neg (by simp)]
      have w1 : wrap64 (i + 1) = i + 1 := by unfold wrap64; omega
      rw [w1]
      exact ih _ (by omega) (by omega) (by omega)
    · rw [if_neg c1]
theorem same_eq (k : Nat) (hk : 1000 < k) (l : List S62) (hl : l.length ≤ 1000) : windroseref11_Same.f k l l = some true := by
  unfold windroseref11_Same.f
  rw [if_pos rfl]
  exact same_l0 l hl k 0 (by omega) (by omega) (by omega)
theorem rd_at (l : List S62) (i : Nat) (h : i < l.length) : rd_T62 l (i : Int) = l[i] := by
  unfold rd_T62
  simp [h]
/-- The times go up. -/
theorem fine_up {l : List S62} (h : fine l) : ∀ i j : Nat, i < j → j < l.length → (rd_T62 l i).f0 < (rd_T62 l j).f0 := by
  intro i j hij
  induction j with
  | zero => omega
  | succ j ih =>
    intro hj
    have h1 := h.2 ((j + 1 : Nat) : Int) (by omega) (by omega)
    have h2 : (rd_T62 l (j : Nat)).f0 < (rd_T62 l ((j + 1 : Nat) : Int)).f0 := by
      refine Int.not_le.1 fun q => h1 (Or.inr (Or.inr (Or.inr (Or.inr ⟨by omega, ?_⟩))))
      have e : ((j + 1 : Nat) : Int) - 1 = (j : Nat) := by omega
      rw [e]
      exact q
    rcases (by omega : i = j ∨ i < j) with rfl | h3
    · exact h2
    · have := ih h3 (by omega)
      omega
/-- A search by halves ends where the answer turns. -/
theorem bsl_turn (lt : Nat → Bool) (d : Nat) : ∀ i j, i ≤ j → j - i ≤ d → (∀ a b, i ≤ a → a ≤ b → b < j → lt b = true → lt a = true) →
    (∀ a, i ≤ a → a < Hand.bsl lt d i j → lt a = true) ∧ (∀ a, Hand.bsl lt d i j ≤ a → a < j → lt a = false) := by
  induction d with
  | zero => intro i j h h1 _; simp only [Hand.bsl]; exact ⟨fun a _ _ => by omega, fun a _ _ => by omega⟩
  | succ d ih =>
    intro i j h h1 m
    simp only [Hand.bsl]
    by_cases c : i < j
    · rw [if_pos c]
      by_cases q : lt ((i + j) / 2) = true
      · rw [if_pos q]
        obtain ⟨p1, p2⟩ := ih ((i + j) / 2 + 1) j (by omega) (by omega) (fun a b x y z => m a b (by omega) y z)
        refine ⟨fun a h3 h4 => ?_, p2⟩
        rcases Nat.lt_or_ge ((i + j) / 2) a with h5 | h5
        · exact p1 a h5 h4
        · exact m a _ h3 h5 (by omega) q
      · rw [if_neg q]
        obtain ⟨p1, p2⟩ := ih i ((i + j) / 2) (by omega) (by omega) (fun a b x y z => m a b x y (by omega))
        refine ⟨p1, fun a h3 h4 => ?_⟩
        rcases Nat.lt_or_ge a ((i + j) / 2) with h5 | h5
        · exact p2 a h3 h5
        · cases e : lt a with
          | false => rfl
          | true =>
            have hle := Hand.bsl_le lt d i ((i + j) / 2) (by omega)
            exact absurd (m ((i + j) / 2) a (by omega) h5 h4 e) q
    · rw [if_neg c]
      exact ⟨fun a _ _ => by omega, fun a _ _ => by omega⟩
theorem cmpI_lt (a b : Int) : Hand.cmpI a b < 0 ↔ a < b := by
  unfold Hand.cmpI
  split
  · omega
  · split <;> omega
theorem cmpI_eq (a b : Int) : Hand.cmpI a b = 0 ↔ a = b := by
  unfold Hand.cmpI
  split
  · omega
  · split <;> omega
/-- The place of a time in a row. -/
def spot (l : List S62) (a : Int) : Nat := api_Sample_int.place (fun x => Hand.cmpI x.f0 a) l
theorem spot_le (l : List S62) (a : Int) : spot l a ≤ l.length := api_Sample_int.place_le _ _
theorem spot_turn {l : List S62} (h : fine l) (a : Int) : ∀ i : Nat, i < l.length → ((rd_T62 l i).f0 < a ↔ i < spot l a) := by
  have := bsl_turn (fun i => decide (Hand.cmpI (rd_T62 l (i : Int)).f0 a < 0)) l.length 0 l.length (by omega) (by omega) (by
    intro x y _ h2 h3 h4
    simp only [decide_eq_true_eq, cmpI_lt] at h4 ⊢
    rcases (by omega : x = y ∨ x < y) with rfl | h5
    · exact h4
    · have := fine_up h x y h5 h3
      omega)
  intro i hi
  constructor
  · intro h1
    refine Nat.lt_of_not_le fun q => ?_
    have := this.2 i q hi
    simp [cmpI_lt] at this
    omega
  · intro h1
    have := this.1 i (by omega) h1
    simpa [cmpI_lt] using this
theorem at_eq (l : List S62) (a : Int) (hl : l.length ≤ 200) : ∃ b, samples_at.f l a = some ((spot l a : Int), b) ∧ (b = true ↔ spot l a < l.length ∧ (rd_T62 l (spot l a : Int)).f0 = a) := by
  unfold samples_at.f
  rw [if_pos (by omega)]
  refine ⟨_, rfl, ?_⟩
  unfold api_Sample_int.found
  simp [cmpI_eq, spot]
theorem filter_none (P : S62 → Bool) (l : List S62) (h : ∀ i : Nat, i < l.length → P (rd_T62 l (i : Int)) = false) : l.filter P = [] := by
  rw [List.filter_eq_nil_iff]
  intro x hx
  obtain ⟨i, hi, rfl⟩ := List.getElem_of_mem hx
  rw [← rd_at l i hi, h i hi]
  simp
theorem filter_every (P : S62 → Bool) (l : List S62) (h : ∀ i : Nat, i < l.length → P (rd_T62 l (i : Int)) = true) : l.filter P = l := by
  rw [List.filter_eq_self]
  intro x hx
  obtain ⟨i, hi, rfl⟩ := List.getElem_of_mem hx
  rw [← rd_at l i hi, h i hi]
/-- What a range holds, told by what it lets through. -/
theorem filter_mid (P : S62 → Bool) (l : List S62) (p m : Nat) (hm : m ≤ l.length) (h : ∀ i : Nat, i < l.length → (P (rd_T62 l (i : Int)) = true ↔ p ≤ i ∧ i < m)) : l.filter P = (l.take m).drop p := by
  rcases Nat.lt_or_ge m p with c | c
  · rw [filter_none P l (fun i hi => by
      cases e : P (rd_T62 l (i : Int)) with
      | false => rfl
      | true => have := (h i hi).1 e; omega)]
    rw [List.drop_eq_nil_of_le (by rw [List.length_take]; omega)]
  · have e1 : l = (l.take m).take p ++ ((l.take m).drop p ++ l.drop m) := by rw [← List.append_assoc, List.take_append_drop, List.take_append_drop]
    have e2 : l.filter P = ((l.take m).take p).filter P ++ (((l.take m).drop p).filter P ++ (l.drop m).filter P) := by
      conv => lhs; rw [e1]
      rw [List.filter_append, List.filter_append]
    rw [e2, filter_none P ((l.take m).take p) (fun i hi => ?_), filter_none P (l.drop m) (fun i hi => ?_), filter_every P ((l.take m).drop p) (fun i hi => ?_)]
    · rw [List.append_nil, List.nil_append]
    · rw [List.length_drop, List.length_take] at hi
      rw [rd_at _ i (by rw [List.length_drop, List.length_take]; omega), List.getElem_drop, List.getElem_take, ← rd_at l _ (by omega)]
      exact (h _ (by omega)).2 (by omega)
    · rw [List.length_drop] at hi
      rw [rd_at _ i (by rw [List.length_drop]; omega), List.getElem_drop, ← rd_at l _ (by omega)]
      cases e : P (rd_T62 l ((m + i : Nat) : Int)) with
      | false => rfl
      | true => have := (h _ (by omega)).1 e; omega
    · rw [List.length_take, List.length_take] at hi
      rw [rd_at _ i (by rw [List.length_take, List.length_take]; omega), List.getElem_take, List.getElem_take, ← rd_at l _ (by omega)]
      cases e : P (rd_T62 l (i : Int)) with
      | false => rfl
      | true => have := (h _ (by omega)).1 e; omega

theorem drop_at (l : List S62) (i : Nat) (h : i < l.length) : l.drop i = rd_T62 l (i : Int) :: l.drop (i + 1) := by
  rw [rd_at l i h]
  exact List.drop_eq_getElem_cons h
theorem get_none (l : List S62) (hl : l.length ≤ 1000) (a : Int) (h : ∀ j : Nat, j < l.length → (rd_T62 l (j : Int)).f0 ≠ a) : ∀ (k i : Nat), i ≤ l.length → l.length - i < k →
    windroseref12_Get.l0 k l a i = some (0, 0, false) := by
  intro k
  induction k with
  | zero => intro i h0 h2; omega
  | succ k ih =>
    intro i h0 h2
    simp only [windroseref12_Get.l0]
    by_cases c1 : (i : Int) < (l.length : Int)
    · have w1 : wrap64 ((i : Int) + 1) = ((i + 1 : Nat) : Int) := by unfold wrap64; omega
      rw [if_pos c1, if_pos (by omega), if_neg (h i (by omega)), w1]
      exact ih (i + 1) (by omega) (by omega)
    · rw [if_neg c1]
theorem get_some (l : List S62) (hl : l.length ≤ 1000) (a : Int) (p : Nat) (hp : p < l.length) (hpa : (rd_T62 l (p : Int)).f0 = a) (h : ∀ j : Nat, j < p → (rd_T62 l (j : Int)).f0 ≠ a) : ∀ (k i : Nat), i ≤ p → l.length - i < k →
    windroseref12_Get.l0 k l a i = some ((rd_T62 l (p : Int)).f0, (rd_T62 l (p : Int)).f1, true) := by
  intro k
  induction k with
  | zero => intro i h0 h2; omega
  | succ k ih =>
    intro i h0 h2
    simp only [windroseref12_Get.l0]
    have w1 : wrap64 ((i : Int) + 1) = ((i + 1 : Nat) : Int) := by unfold wrap64; omega
    rw [if_pos (by omega), if_pos (by omega), w1]
    rcases (by omega : i = p ∨ i < p) with rfl | c
    · rw [if_pos hpa]
    · rw [if_neg (h i c)]
      exact ih (i + 1) (by omega) (by omega)
theorem awake_eq : windroselaw12_awake.f 2000 = some true := by kernel_rfl
theorem clone_eq (l : List S62) (h : l.length ≤ 1000) : api_Sample_81.f l = some l := by
  unfold api_Sample_81.f
  rw [if_pos (by omega)]
/-- What is found is found at its spot. -/
theorem get_spot {l : List S62} (hf : fine l) (hl : l.length ≤ 200) (a : Int) : (spot l a < l.length ∧ (rd_T62 l (spot l a : Int)).f0 = a → windroseref12_Get.f 2000 l a = some ((rd_T62 l (spot l a : Int)).f0, (rd_T62 l (spot l a : Int)).f1, true)) ∧
    (¬ (spot l a < l.length ∧ (rd_T62 l (spot l a : Int)).f0 = a) → (∀ j : Nat, j < l.length → (rd_T62 l (j : Int)).f0 ≠ a) ∧ windroseref12_Get.f 2000 l a = some (0, 0, false)) := by
  have t1 := spot_turn hf a
  constructor
  · intro ⟨h1, h2⟩
    unfold windroseref12_Get.f
    refine get_some l (by omega) a (spot l a) h1 h2 (fun j hj ej => ?_) 2000 0 (by omega) (by omega)
    have := t1 j (by omega)
    omega
  · intro h2
    have no : ∀ j : Nat, j < l.length → (rd_T62 l (j : Int)).f0 ≠ a := by
      intro j hj ej
      have h1 := t1 j hj
      rcases (by omega : spot l a = j ∨ spot l a < j) with h3 | h3
      · rw [h3] at h2; exact h2 ⟨hj, ej⟩
      · have h4 := fine_up hf (spot l a) j h3 hj
        have h5 := t1 (spot l a) (by omega)
        omega
    refine ⟨no, ?_⟩
    unfold windroseref12_Get.f
    exact get_none l (by omega) a no 2000 0 (by omega) (by omega)

/-- A row with one more at its spot. -/
def ins (l : List S62) (x : S62) : List S62 := l.take (spot l x.f0) ++ [x] ++ l.drop (spot l x.f0)
theorem ins_len (l : List S62) (x : S62) : (ins l x).length = l.length + 1 := by
  have := spot_le l x.f0
  unfold ins
  simp
  omega
theorem rd_ins (l : List S62) (x : S62) (i : Nat) (h : i < l.length + 1) : rd_T62 (ins l x) (i : Int) = if i < spot l x.f0 then rd_T62 l (i : Int) else if i = spot l x.f0 then x else rd_T62 l ((i - 1 : Nat) : Int) := by
  have hp := spot_le l x.f0
  have hin : i < (ins l x).length := by rw [ins_len]; exact h
  unfold ins at hin ⊢
  rw [rd_at _ i hin]
  split
  · rename_i c
    rw [List.getElem_append_left (by simp; omega), List.getElem_append_left (by simp; omega), List.getElem_take, rd_at l i (by omega)]
  · split
    · rename_i c1 c2
      rw [List.getElem_append_left (by simp; omega), List.getElem_append_right (by simp; omega)]
      simp
    · rename_i c1 c2
      rw [List.getElem_append_right (by simp; omega), List.getElem_drop, rd_at l (i - 1) (by omega)]
      congr 1
      simp
      omega
theorem with_done (l : List S62) (hl : l.length ≤ 1000) (s0 s1 : Int) : ∀ (k i : Nat) (acc : List S62), i ≤ l.length → acc.length ≤ i + 2 → l.length - i < k →
    windroseref12_with.l0 k l acc true i s0 s1 = some (acc ++ l.drop i) := by
  intro k
  induction k with
  | zero => intro i acc h0 h1 h2; omega
  | succ k ih =>
    intro i acc h0 h1 h2
    simp only [windroseref12_with.l0]
    by_cases c1 : (i : Int) < (l.length : Int)
    · have w1 : wrap64 ((i : Int) + 1) = ((i + 1 : Nat) : Int) := by unfold wrap64; omega
      rw [if_pos c1, if_pos trivial, if_pos (by omega), if_pos (by omega), drop_at l i (by omega), w1]
      have e' := ih (i + 1) (acc ++ [rd_T62 l (i : Int)]) (by omega) (by simp; omega) (by omega)
      rw [List.append_assoc] at e'
      exact e'
    · rw [if_neg c1, if_pos trivial, List.drop_eq_nil_of_le (by omega), List.append_nil]
theorem with_l0 {l : List S62} (hf : fine l) (hl : l.length ≤ 1000) (x : S62) (no : ∀ j : Nat, j < l.length → (rd_T62 l (j : Int)).f0 ≠ x.f0) : ∀ (k i : Nat), i ≤ spot l x.f0 → l.length - i < k →
    windroseref12_with.l0 k l (l.take i) false i x.f0 x.f1 = some (ins l x) := by
  intro k
  have t1 := spot_turn hf x.f0
  have hp := spot_le l x.f0
  induction k with
  | zero => intro i h0 h2; omega
  | succ k ih =>
    intro i h0 h2
    simp only [windroseref12_with.l0]
    have ln : (l.take i).length = i := by rw [List.length_take]; omega
    by_cases c1 : (i : Int) < (l.length : Int)
    · have w1 : wrap64 ((i : Int) + 1) = ((i + 1 : Nat) : Int) := by unfold wrap64; omega
      have h3 := t1 i (by omega)
      have h4 := no i (by omega)
      have tk : l.take i ++ [rd_T62 l (i : Int)] = l.take (i + 1) := by
        rw [rd_at l i (by omega)]
        exact List.take_append_getElem (by omega)
      rw [if_pos c1, if_neg (by decide), if_pos (by omega), w1]
      by_cases c2 : (rd_T62 l (i : Int)).f0 > x.f0
      · have hi : i = spot l x.f0 := by omega
        have sm : (l.take i).length < 8796093022208 := by omega
        have sm2 : (l.take i ++ [x]).length < 8796093022208 := by simp; omega
        rw [if_pos c2, if_pos sm, Option.bind_some]
        have e := with_done l hl x.f0 x.f1 k (i + 1) (l.take i ++ [x] ++ [rd_T62 l (i : Int)]) (by omega) (by simp; omega) (by omega)
        rw [List.append_assoc _ [rd_T62 l (i : Int)], List.singleton_append, ← drop_at l i (by omega)] at e
        have e2 : ins l x = l.take i ++ [x] ++ l.drop i := by unfold ins; rw [← hi]
        rw [e2]
        exact (if_pos sm2).trans e
      · have sm : (l.take i).length < 8796093022208 := by omega
        rw [if_neg c2, if_pos sm]
        have e := ih (i + 1) (by omega) (by omega)
        rw [← tk] at e
        exact e
    · have hi : i = l.length := by omega
      have hi2 : spot l x.f0 = i := by omega
      have sm : (l.take i).length < 8796093022208 := by omega
      rw [if_neg c1, if_neg (by decide), if_pos sm]
      unfold ins
      rw [hi2, List.drop_eq_nil_of_le (by omega), List.append_nil]
theorem fine_one {x : S62} (h : fine [x]) : ¬ x.f0 < 0 ∧ ¬ x.f0 > 1099511627776 ∧ ¬ x.f1 < -1099511627776 ∧ ¬ x.f1 > 1099511627776 := by
  have := h.2 0 (by omega) (by simp)
  have e : rd_T62 [x] 0 = x := rfl
  unfold bad at this
  rw [e] at this
  omega
theorem fine_ins {l : List S62} (hf : fine l) (x : S62) (hx : fine [x]) (no : ∀ j : Nat, j < l.length → (rd_T62 l (j : Int)).f0 ≠ x.f0) (hl : l.length < 64) : fine (ins l x) := by
  have t1 := spot_turn hf x.f0
  have hp := spot_le l x.f0
  have o := fine_one hx
  refine ⟨by rw [ins_len]; omega, fun i h0 h1 => ?_⟩
  rw [ins_len] at h1
  obtain ⟨n, rfl⟩ := Int.eq_ofNat_of_zero_le h0
  have hn : n < l.length + 1 := by omega
  have old : ∀ j : Nat, j < l.length → ¬ bad l j := fun j hj => hf.2 j (by omega) (by omega)
  have up := fine_up hf
  unfold bad at old ⊢
  have prev : (n : Int) > 0 → ((n : Int) - 1) = ((n - 1 : Nat) : Int) := by omega
  rintro (h | h | h | h | ⟨h, h'⟩)
  case inr.inr.inr.inr =>
    rw [prev h, rd_ins l x n hn, rd_ins l x (n - 1) (by omega)] at h'
    split at h'
    · rename_i c
      rw [if_pos (by omega)] at h'
      have := up (n - 1) n (by omega) (by omega)
      omega
    · split at h'
      · rename_i c1 c2
        rw [if_pos (by omega)] at h'
        have := t1 (n - 1) (by omega)
        omega
      · rename_i c1 c2
        rcases (by omega : n - 1 = spot l x.f0 ∨ spot l x.f0 < n - 1) with c3 | c3
        · rw [if_neg (by omega), if_pos c3] at h'
          have := t1 (n - 1) (by omega)
          have := no (n - 1) (by omega)
          omega
        · rw [if_neg (by omega), if_neg (by omega)] at h'
          have := up (n - 1 - 1) (n - 1) (by omega) (by omega)
          omega
  all_goals
    rw [rd_ins l x n hn] at h
    split at h
    · exact old n (by omega) (by omega)
    · split at h
      · omega
      · exact old (n - 1) (by omega) (by omega)
/-- What Put answers, way by way. -/
theorem put_bad {l : List S62} (hf : ¬ fine l) (x : S62) : samples_Put.f 2000 l x.f0 x.f1 = some ([], 1) := by
  unfold samples_Put.f
  rw [(check_eq 2000 (by omega) l).2 hf, Option.bind_some, if_neg (by decide)]
theorem put_open {l : List S62} (hf : fine l) (x : S62) : ∃ b, (b = true ↔ spot l x.f0 < l.length ∧ (rd_T62 l (spot l x.f0 : Int)).f0 = x.f0) ∧
    samples_Put.f 2000 l x.f0 x.f1 = ((block_Check.f 2000 (([(⟨x.f0, x.f1⟩ : S62)] : List (S62)))).bind fun t116 => (if t116 = 0 then (if b = true then (if 0 ≤ (spot l x.f0 : Int) then (if (spot l x.f0 : Int) < (l.length : Int) then (samples_Put.j0 2000 l (spot l x.f0 : Int) b (((rd_T62 l (spot l x.f0 : Int)).f0) == x.f0 && (((rd_T62 l (spot l x.f0 : Int)).f1) == x.f1)) x.f0 x.f1) else (none)) else (none)) else (samples_Put.j0 2000 l (spot l x.f0 : Int) b false x.f0 x.f1)) else (some (l, 1)))) := by
  have hl : l.length ≤ 200 := by have := hf.1; omega
  obtain ⟨b, e, hb⟩ := at_eq l x.f0 hl
  refine ⟨b, hb, ?_⟩
  unfold samples_Put.f
  rw [(check_eq 2000 (by omega) l).1 hf, Option.bind_some, if_pos rfl, clone_eq l (by omega), Option.bind_some, e, Option.bind_some]
theorem put_arg {l : List S62} (hf : fine l) (x : S62) (hx : ¬ fine [x]) : samples_Put.f 2000 l x.f0 x.f1 = some (l, 1) := by
  obtain ⟨b, _, e⟩ := put_open hf x
  rw [e, (check_eq 2000 (by omega) _).2 hx, Option.bind_some, if_neg (by decide)]
theorem put_j0 (k : Nat) (l : List S62) (p : Int) (b c : Bool) (s0 s1 : Int) : samples_Put.j0 (k + 1) l p b c s0 s1 = if c = true then (some (l, 7)) else (if b = true then (some (l, 8)) else (if (l.length : Int) = 64 then (some (l, 6)) else ((api_Sample_83.f l p (([(⟨s0, s1⟩ : S62)] : List (S62)))).bind fun t121 => (some (t121, 0))))) := rfl
theorem put_same {l : List S62} (hf : fine l) (x : S62) (hx : fine [x]) (h : spot l x.f0 < l.length ∧ (rd_T62 l (spot l x.f0 : Int)).f0 = x.f0) (hv : (rd_T62 l (spot l x.f0 : Int)).f1 = x.f1) : samples_Put.f 2000 l x.f0 x.f1 = some (l, 7) := by
  obtain ⟨b, hb, e⟩ := put_open hf x
  rw [e, (check_eq 2000 (by omega) _).1 hx, Option.bind_some, if_pos rfl, if_pos (hb.2 h), if_pos (by omega), if_pos (by omega), put_j0 1999, if_pos (by simp [h.2, hv])]
theorem put_other {l : List S62} (hf : fine l) (x : S62) (hx : fine [x]) (h : spot l x.f0 < l.length ∧ (rd_T62 l (spot l x.f0 : Int)).f0 = x.f0) (hv : ¬ (rd_T62 l (spot l x.f0 : Int)).f1 = x.f1) : samples_Put.f 2000 l x.f0 x.f1 = some (l, 8) := by
  obtain ⟨b, hb, e⟩ := put_open hf x
  rw [e, (check_eq 2000 (by omega) _).1 hx, Option.bind_some, if_pos rfl, if_pos (hb.2 h), if_pos (by omega), if_pos (by omega), put_j0 1999, if_neg (by simp [hv]), if_pos (hb.2 h)]
theorem put_full {l : List S62} (hf : fine l) (x : S62) (hx : fine [x]) (h : ¬ (spot l x.f0 < l.length ∧ (rd_T62 l (spot l x.f0 : Int)).f0 = x.f0)) (hl : l.length = 64) : samples_Put.f 2000 l x.f0 x.f1 = some (l, 6) := by
  obtain ⟨b, hb, e⟩ := put_open hf x
  have nb : ¬ b = true := fun q => h (hb.1 q)
  rw [e, (check_eq 2000 (by omega) _).1 hx, Option.bind_some, if_pos rfl, if_neg nb, put_j0 1999, if_neg (by decide), if_neg nb, if_pos (by omega)]
theorem put_ok {l : List S62} (hf : fine l) (x : S62) (hx : fine [x]) (h : ¬ (spot l x.f0 < l.length ∧ (rd_T62 l (spot l x.f0 : Int)).f0 = x.f0)) (hl : ¬ l.length = 64) : samples_Put.f 2000 l x.f0 x.f1 = some (ins l x, 0) := by
  obtain ⟨b, hb, e⟩ := put_open hf x
  have nb : ¬ b = true := fun q => h (hb.1 q)
  have hp := spot_le l x.f0
  have hl1 := hf.1
  rw [e, (check_eq 2000 (by omega) _).1 hx, Option.bind_some, if_pos rfl, if_neg nb, put_j0 1999, if_neg (by decide), if_neg nb, if_neg (by omega)]
  unfold api_Sample_83.f
  rw [if_pos ⟨rfl, by omega, by omega, by omega⟩, Option.bind_some, Int.toNat_natCast]
  rfl

theorem ref_j0 (k : Nat) (l : List S62) (b c : Bool) (s0 s1 : Int) : windroseref12_Put.j0 (k + 1) l b c s0 s1 = if c = true then (some (l, 7)) else (if b = true then (some (l, 8)) else (if (l.length : Int) = 64 then (some (l, 6)) else ((windroseref12_with.f k l s0 s1).bind fun t173 => (some (t173, 0))))) := rfl
theorem both {l : List S62} (hf : fine l) (x : S62) : ∃ r e, samples_Put.f 2000 l x.f0 x.f1 = some (r, e) ∧ windroseref12_Put.f 2000 l x.f0 x.f1 = some (r, e) ∧ fine r := by
  have hl : l.length ≤ 200 := by have := hf.1; omega
  obtain ⟨g1, g2⟩ := get_spot hf hl x.f0
  unfold windroseref12_Put.f
  by_cases hx : fine [x]
  · rw [(may_eq 2000 (by omega) _ (by simp)).1 hx, Option.bind_some, if_pos rfl]
    by_cases h : spot l x.f0 < l.length ∧ (rd_T62 l (spot l x.f0 : Int)).f0 = x.f0
    · rw [g1 h, Option.bind_some, if_pos rfl, ref_j0 1999]
      by_cases hv : (rd_T62 l (spot l x.f0 : Int)).f1 = x.f1
      · exact ⟨_, _, put_same hf x hx h hv, by rw [if_pos (by simp [hv])], hf⟩
      · exact ⟨_, _, put_other hf x hx h hv, by rw [if_neg (by simp [hv]), if_pos rfl], hf⟩
    · rw [(g2 h).2, Option.bind_some, if_neg (by decide), ref_j0 1999, if_neg (by decide), if_neg (by decide)]
      by_cases h6 : l.length = 64
      · exact ⟨_, _, put_full hf x hx h h6, by rw [if_pos (by omega)], hf⟩
      · refine ⟨_, _, put_ok hf x hx h h6, ?_, fine_ins hf x hx (g2 h).1 (by have := hf.1; omega)⟩
        rw [if_neg (by omega)]
        unfold windroseref12_with.f
        have := with_l0 hf (by omega) x (g2 h).1 1999 0 (by omega) (by omega)
        rw [List.take_zero] at this
        have e0 : windroseref12_with.l0 1999 l [] false 0 x.f0 x.f1 = some (ins l x) := this
        rw [e0, Option.bind_some]
  · rw [(may_eq 2000 (by omega) _ (by simp)).2 hx, Option.bind_some, if_neg (by decide)]
    exact ⟨_, _, put_arg hf x hx, rfl, hf⟩
theorem pure (l : List S62) (s0 s1 : Int) : windroselaw12_SamplesPuts.f 2000 l s0 s1 = some true := by
  unfold windroselaw12_SamplesPuts.f
  by_cases hl : (l.length : Int) > 200
  · rw [if_pos hl, awake_eq, Option.bind_some]
  rw [if_neg hl]
  have hl' : l.length ≤ 200 := by omega
  by_cases hf : fine l
  · obtain ⟨r, e, e1, e2, h3⟩ := both hf ⟨s0, s1⟩
    have e1' : samples_Put.f 2000 l s0 s1 = some (r, e) := e1
    have e2' : windroseref12_Put.f 2000 l s0 s1 = some (r, e) := e2
    have hr : r.length ≤ 200 := by have := h3.1; omega
    rw [e1', Option.bind_some, (may_eq 2000 (by omega) l hl').1 hf, Option.bind_some, if_pos rfl, e2', Option.bind_some, if_pos rfl, same_eq 2000 (by omega) r (by omega), Option.bind_some, if_pos rfl,
      (may_eq 2000 (by omega) r hr).1 h3, Option.bind_some, if_pos rfl, awake_eq, Option.bind_some]
  · have e1 : samples_Put.f 2000 l s0 s1 = some ([], 1) := put_bad hf ⟨s0, s1⟩
    rw [e1, Option.bind_some, (may_eq 2000 (by omega) l hl').2 hf, Option.bind_some, if_neg (by decide), if_pos rfl]
    have c0 : ((([] : List S62), (1 : Int)).1.length : Int) = 0 := rfl
    rw [if_pos c0, awake_eq, Option.bind_some]
end Go.Proofs.Ytilgmccdpddeoaa.PSamplesPuts
