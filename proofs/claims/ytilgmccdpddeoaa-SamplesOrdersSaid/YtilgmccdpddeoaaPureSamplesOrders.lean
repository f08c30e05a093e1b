/- SamplesOrders, plainly: put in any order, the same row. -/
import Derived.Test.YtilgmccdpddeoaaPSamplesOrdersx4
namespace Go.Proofs.Ytilgmccdpddeoaa.PSamplesOrders
set_option linter.unusedVariables false
open Go.RowKit Go.Proofs.YtilgmccdpddeoaaW.PrintWords Go.Proofs.YtilgmccdpddeoaaW.PrintMore
/-- What the row may not have at one place. -/
def bad (l : List S62) (i : Int) : Prop := (rd_T62 l i).f0 < 0 ∨ (rd_T62 l i).f0 > 1099511627776 ∨ (rd_T62 l i).f1 < -1099511627776 ∨ (rd_T62 l i).f1 > 1099511627776 ∨ (i > 0 ∧ (rd_T62 l i).f0 ≤ (rd_T62 l (i - 1)).f0)
def fine (l : List S62) : Prop := l.length ≤ 64 ∧ ∀ i : Int, 0 ≤ i → i < l.length → ¬ bad l i
theorem check_l0 (l : List S62) (hl : l.length ≤ 1000) : ∀ (k : Nat) (i : Int), 0 ≤ i → i ≤ l.length → (l.length : Int) - i < k →
    ∃ c, block_Check.l0 k l l (l.length : Int) i = some c ∧ (c = 0 ∨ c = 1) ∧ (c = 0 ↔ ∀ j, i ≤ j → j < l.length → ¬ bad l j) := by
  intro k
  induction k with
  | zero => intro i h0 h1 h2; omega
  | succ k ih =>
    intro i h0 h1 h2
    simp only [block_Check.l0]
    by_cases c1 : i < (l.length : Int)
    · rw [if_pos c1, if_pos h0, if_pos c1]
      have no : ∀ (hb : bad l i), ¬ (∀ j, i ≤ j → j < (l.length : Int) → ¬ bad l j) := fun hb h => h i (Int.le_refl _) c1 hb
      have w1 : wrap64 (i + 1) = i + 1 := by unfold wrap64; omega
      have w2 : i > 0 → wrap64 (i - 1) = i - 1 := by intro _; unfold wrap64; omega
      by_cases b1 : (rd_T62 l i).f0 < 0
      · rw [if_pos b1]; exact ⟨1, rfl, Or.inr rfl, by simp; exact ⟨i, Int.le_refl _, c1, Or.inl b1⟩⟩
      rw [if_neg b1]
      by_cases b2 : (rd_T62 l i).f0 > 1099511627776
      · rw [if_pos b2]; exact ⟨1, rfl, Or.inr rfl, by simp; exact ⟨i, Int.le_refl _, c1, Or.inr (Or.inl b2)⟩⟩
      rw [if_neg b2]
      by_cases b3 : (rd_T62 l i).f1 < -1099511627776
      · rw [if_pos b3]; exact ⟨1, rfl, Or.inr rfl, by simp; exact ⟨i, Int.le_refl _, c1, Or.inr (Or.inr (Or.inl b3))⟩⟩
      rw [if_neg b3]
      by_cases b4 : (rd_T62 l i).f1 > 1099511627776
      · rw [if_pos b4]; exact ⟨1, rfl, Or.inr rfl, by simp; exact ⟨i, Int.le_refl _, c1, Or.inr (Or.inr (Or.inr (Or.inl b4)))⟩⟩
      rw [if_neg b4]
      have step : (¬ (i > 0 ∧ (rd_T62 l i).f0 ≤ (rd_T62 l (i - 1)).f0)) → ∃ c, block_Check.l0 k l l (l.length : Int) (i + 1) = some c ∧ (c = 0 ∨ c = 1) ∧ (c = 0 ↔ ∀ j, i ≤ j → j < l.length → ¬ bad l j) := by
        intro b5
        obtain ⟨c, e, h, q⟩ := ih (i + 1) (by omega) (by omega) (by omega)
        refine ⟨c, e, h, q.trans ⟨fun H j h3 h4 => ?_, fun H j h3 h4 => H j (by omega) h4⟩⟩
        rcases (by omega : j = i ∨ i + 1 ≤ j) with rfl | h5
        · rintro (h | h | h | h | h) <;> contradiction
        · exact H j h5 h4
      by_cases b0 : i > 0
      · rw [if_pos b0, w2 b0, if_pos (by omega), if_pos (by omega)]
        by_cases b5 : (rd_T62 l i).f0 ≤ (rd_T62 l (i - 1)).f0
        · rw [if_pos b5]; exact ⟨1, rfl, Or.inr rfl, by simp; exact ⟨i, Int.le_refl _, c1, Or.inr (Or.inr (Or.inr (Or.inr ⟨b0, b5⟩)))⟩⟩
        · rw [if_neg b5, w1]; exact step (fun h => b5 h.2)
      · rw [if_neg b0, w1]; exact step (fun h => b0 h.1)
    · rw [if_neg c1]
      exact ⟨0, rfl, Or.inl rfl, by simp; intro j h3 h4; omega⟩
theorem check_eq (k : Nat) (hk : 1000 < k) (l : List S62) : (fine l → block_Check.f k l = some 0) ∧ (¬ fine l → block_Check.f k l = some 1) := by
  unfold block_Check.f fine
  by_cases h : (l.length : Int) > 64
  · rw [if_pos h]; exact ⟨fun q => by omega, fun _ => rfl⟩
  · rw [if_neg h]
    obtain ⟨c, e, h1, q⟩ := check_l0 l (by omega) k 0 (by omega) (by omega) (by omega)
    rw [e]
    constructor
    · intro ⟨_, f⟩
      rw [q.2 f]
    · intro f
      rcases h1 with rfl | rfl
      · exact absurd ⟨by omega, q.1 rfl⟩ f
      · rfl
theorem may_l0 (l : List S62) (hl : l.length ≤ 1000) : ∀ (k : Nat) (i : Int), 0 ≤ i → i ≤ l.length → (l.length : Int) - i < k →
    ∃ c, windroseref11_May.l0 k l i = some c ∧ (c = true ↔ (l.length ≤ 64 ∧ ∀ j, i ≤ j → j < l.length → ¬ bad l j)) := by
  intro k
  induction k with
  | zero => intro i h0 h1 h2; omega
  | succ k ih =>
    intro i h0 h1 h2
    simp only [windroseref11_May.l0]
    by_cases c1 : i < (l.length : Int)
    · rw [if_pos c1, if_pos h0]
      have w1 : wrap64 (i + 1) = i + 1 := by unfold wrap64; omega
      have w2 : i > 0 → wrap64 (i - 1) = i - 1 := by intro _; unfold wrap64; omega
      have no : bad l i → ∃ c, (some false : Option Bool) = some c ∧ (c = true ↔ (l.length ≤ 64 ∧ ∀ j, i ≤ j → j < l.length → ¬ bad l j)) := fun hb => ⟨false, rfl, by simp; exact fun _ => ⟨i, Int.le_refl _, c1, hb⟩⟩
      by_cases b1 : (rd_T62 l i).f0 < 0
      · rw [if_pos b1]; exact no (Or.inl b1)
      rw [if_neg b1]
      by_cases b2 : (rd_T62 l i).f0 > 1099511627776
      · rw [if_pos b2]; exact no (Or.inr (Or.inl b2))
      rw [if_neg b2]
      by_cases b3 : (rd_T62 l i).f1 < -1099511627776
      · rw [if_pos b3]; exact no (Or.inr (Or.inr (Or.inl b3)))
      rw [if_neg b3]
      by_cases b4 : (rd_T62 l i).f1 > 1099511627776
      · rw [if_pos b4]; exact no (Or.inr (Or.inr (Or.inr (Or.inl b4))))
      rw [if_neg b4]
      have step : (¬ (i > 0 ∧ (rd_T62 l i).f0 ≤ (rd_T62 l (i - 1)).f0)) → ∃ c, windroseref11_May.l0 k l (i + 1) = some c ∧ (c = true ↔ (l.length ≤ 64 ∧ ∀ j, i ≤ j → j < l.length → ¬ bad l j)) := by
        intro b5
        obtain ⟨c, e, q⟩ := ih (i + 1) (by omega) (by omega) (by omega)
        refine ⟨c, e, q.trans ⟨fun H => ⟨H.1, fun j h3 h4 => ?_⟩, fun H => ⟨H.1, fun j h3 h4 => H.2 j (by omega) h4⟩⟩⟩
        rcases (by omega : j = i ∨ i + 1 ≤ j) with rfl | h5
        · rintro (h | h | h | h | h) <;> contradiction
        · exact H.2 j h5 h4
      by_cases b0 : i > 0
      · rw [if_pos b0, w2 b0, if_pos (by omega), if_pos (by omega)]
        by_cases b5 : (rd_T62 l (i - 1)).f0 ≥ (rd_T62 l i).f0
        · rw [if_pos b5]; exact no (Or.inr (Or.inr (Or.inr (Or.inr ⟨b0, b5⟩))))
        · rw [if_neg b5, w1]; exact step (fun h => b5 h.2)
      · rw [if_neg b0, w1]; exact step (fun h => b0 h.1)
    · rw [if_neg c1]
      exact ⟨_, rfl, ⟨fun h => ⟨by have := of_decide_eq_true h; omega, fun j h3 h4 => by omega⟩, fun h => decide_eq_true (by have := h.1; omega)⟩⟩
theorem may_eq (k : Nat) (hk : 1000 < k) (l : List S62) (hl : l.length ≤ 200) : (fine l → windroseref11_May.f k l = some true) ∧ (¬ fine l → windroseref11_May.f k l = some false) := by
  unfold windroseref11_May.f fine
  obtain ⟨c, e, q⟩ := may_l0 l (by omega) k 0 (by omega) (by omega) (by omega)
  rw [e]
  constructor
  · intro f
    rw [q.2 f]
  · intro f
    cases c
    · rfl
    · exact absurd (q.1 rfl) f
theorem same_l0 (l : List S62) (hl : l.length ≤ 1000) : ∀ (k : Nat) (i : Int), 0 ≤ i → i ≤ l.length → (l.length : Int) - i < k → windroseref11_Same.l0 k l l i = some true := by
  intro k
  induction k with
  | zero => intro i h0 h1 h2; omega
  | succ k ih =>
    intro i h0 h1 h2
    simp only [windroseref11_Same.l0]
    by_cases c1 : i < (l.length : Int)
    · rw [if_pos c1, if_pos h0, if_pos c1, if_neg (by simp)]
      have w1 : wrap64 (i + 1) = i + 1 := by unfold wrap64; omega
      rw [w1]
      exact ih _ (by omega) (by omega) (by omega)
    · rw [if_neg c1]
theorem same_eq (k : Nat) (hk : 1000 < k) (l : List S62) (hl : l.length ≤ 1000) : windroseref11_Same.f k l l = some true := by
  unfold windroseref11_Same.f
  rw [if_pos rfl]
  exact same_l0 l hl k 0 (by omega) (by omega) (by omega)
theorem rd_at (l : List S62) (i : Nat) (h : i < l.length) : rd_T62 l (i : Int) = l[i] := by
  unfold rd_T62
  simp [h]
/-- The times go up. -/
theorem fine_up {l : List S62} (h : fine l) : ∀ i j : Nat, i < j → j < l.length → (rd_T62 l i).f0 < (rd_T62 l j).f0 := by
  intro i j hij
  induction j with
  | zero => omega
  | succ j ih =>
    intro hj
    have h1 := h.2 ((j + 1 : Nat) : Int) (by omega) (by omega)
    have h2 : (rd_T62 l (j : Nat)).f0 < (rd_T62 l ((j + 1 : Nat) : Int)).f0 := by
      refine Int.not_le.1 fun q => h1 (Or.inr (Or.inr (Or.inr (Or.inr ⟨by omega, ?_⟩))))
      have e : ((j + 1 : Nat) : Int) - 1 = (j : Nat) := by omega
      rw [e]
      exact q
    rcases (by omega : i = j ∨ i < j) with rfl | h3
    · exact h2
    · have := ih h3 (by omega)
      omega
/-- A search by halves ends where the answer turns. -/
theorem bsl_turn (lt : Nat → Bool) (d : Nat) : ∀ i j, i ≤ j → j - i ≤ d → (∀ a b, i ≤ a → a ≤ b → b < j → lt b = true → lt a = true) →
    (∀ a, i ≤ a → a < Hand.bsl lt d i j → lt a = true) ∧ (∀ a, Hand.bsl lt d i j ≤ a → a < j → lt a = false) := by
  induction d with
  | zero => intro i j h h1 _; simp only [Hand.bsl]; exact ⟨fun a _ _ => by omega, fun a _ _ => by omega⟩
  | succ d ih =>
    intro i j h h1 m
    simp only [Hand.bsl]
    by_cases c : i < j
    · rw [if_pos c]
      by_cases q : lt ((i + j) / 2) = true
      · rw [if_pos q]
        obtain ⟨p1, p2⟩ := ih ((i + j) / 2 + 1) j (by omega) (by omega) (fun a b x y z => m a b (by omega) y z)
        refine ⟨fun a h3 h4 => ?_, p2⟩
        rcases Nat.lt_or_ge ((i + j) / 2) a with h5 | h5
        · exact p1 a h5 h4
        · exact m a _ h3 h5 (by omega) q
      · rw [if_neg q]
        obtain ⟨p1, p2⟩ := ih i ((i + j) / 2) (by omega) (by omega) (fun a b x y z => m a b x y (by omega))
        refine ⟨p1, fun a h3 h4 => ?_⟩
        rcases Nat.lt_or_ge a ((i + j) / 2) with h5 | h5
        · exact p2 a h3 h5
        · cases e : lt a with
          | false => rfl
          | true =>
            have hle := Hand.bsl_le lt d i ((i + j) / 2) (by omega)
            exact absurd (m ((i + j) / 2) a (by omega) h5 h4 e) q
    · rw [if_neg c]
      exact ⟨fun a _ _ => by omega, fun a _ _ => by omega⟩
theorem cmpI_lt (a b : Int) : Hand.cmpI a b < 0 ↔ a < b := by
  unfold Hand.cmpI
  split
  · omega
  · split <;> omega
theorem cmpI_eq (a b : Int) : Hand.cmpI a b = 0 ↔ a = b := by
  unfold Hand.cmpI
  split
  · omega
  · split <;> omega
/-- The place of a time in a row. -/
def spot (l : List S62) (a : Int) : Nat := api_Sample_int.place (fun x => Hand.cmpI x.f0 a) l
theorem spot_le (l : List S62) (a : Int) : spot l a ≤ l.length := api_Sample_int.place_le _ _
theorem spot_turn {l : List S62} (h : fine l) (a : Int) : ∀ i : Nat, i < l.length → ((rd_T62 l i).f0 < a ↔ i < spot l a) := by
  have := bsl_turn (fun i => decide (Hand.cmpI (rd_T62 l (i : Int)).f0 a < 0)) l.length 0 l.length (by omega) (by omega) (by
    intro x y _ h2 h3 h4
    simp only [decide_eq_true_eq, cmpI_lt] at h4 ⊢
    rcases (by omega : x = y ∨ x < y) with rfl | h5
    · exact h4
    · have := fine_up h x y h5 h3
      omega)
  intro i hi
  constructor
  · intro h1
    refine Nat.lt_of_not_le fun q => ?_
    have := this.2 i q hi
    simp [cmpI_lt] at this
    omega
  · intro h1
    have := this.1 i (by omega) h1
    simpa [cmpI_lt] using this
theorem at_eq (l : List S62) (a : Int) (hl : l.length ≤ 200) : ∃ b, samples_at.f l a = some ((spot l a : Int), b) ∧ (b = true ↔ spot l a < l.length ∧ (rd_T62 l (spot l a : Int)).f0 = a) := by
  unfold samples_at.f
  rw [if_pos (by omega)]
  refine ⟨_, rfl, ?_⟩
  unfold api_Sample_int.found
  simp [cmpI_eq, spot]
theorem filter_none (P : S62 → Bool) (l : List S62) (h : ∀ i : Nat, i < l.length → P (rd_T62 l (i : Int)) = false) : l.filter P = [] := by
  rw [List.filter_eq_nil_iff]
  intro x hx
  obtain ⟨i, hi, rfl⟩ := List.getElem_of_mem hx
  rw [← rd_at l i hi, h i hi]
  simp
theorem filter_every (P : S62 → Bool) (l : List S62) (h : ∀ i : Nat, i < l.length → P (rd_T62 l (i : Int)) = true) : l.filter P = l := by
  rw [List.filter_eq_self]
  intro x hx
  obtain ⟨i, hi, rfl⟩ := List.getElem_of_mem hx
  rw [← rd_at l i hi, h i hi]
/-- What a range holds, told by what it lets through. -/
theorem filter_mid (P : S62 → Bool) (l : List S62) (p m : Nat) (hm : m ≤ l.length) (h : ∀ i : Nat, i < l.length → (P (rd_T62 l (i : Int)) = true ↔ p ≤ i ∧ i < m)) : l.filter P = (l.take m).drop p := by
  rcases Nat.lt_or_ge m p with c | c
  · rw [filter_none P l (fun i hi => by
      cases e : P (rd_T62 l (i : Int)) with
      | false => rfl
      | true => have := (h i hi).1 e; omega)]
    rw [List.drop_eq_nil_of_le (by rw [List.length_take]; omega)]
  · have e1 : l = (l.take m).take p ++ ((l.take m).drop p ++ l.drop m) := by rw [← List.append_assoc, List.take_append_drop, List.take_append_drop]
    have e2 : l.filter P = ((l.take m).take p).filter P ++ (((l.take m).drop p).filter P ++ (l.drop m).filter P) := by
      conv => lhs; rw [e1]
      rw [List.filter_append, List.filter_append]
    rw [e2, filter_none P ((l.take m).take p) (fun i hi => ?_), filter_none P (l.drop m) (fun i hi => ?_), filter_every P ((l.take m).drop p) (fun i hi => ?_)]
    · rw [List.append_nil, List.nil_append]
    · rw [List.length_drop, List.length_take] at hi
      rw [rd_at _ i (by rw [List.length_drop, List.length_take]; omega), List.getElem_drop, List.getElem_take, ← rd_at l _ (by omega)]
      exact (h _ (by omega)).2 (by omega)
    · rw [List.length_drop] at hi
      rw [rd_at _ i (by rw [List.length_drop]; omega), List.getElem_drop, ← rd_at l _ (by omega)]
      cases e : P (rd_T62 l ((m + i : Nat) : Int)) with
      | false => rfl
      | true => have := (h _ (by omega)).1 e; omega
    · rw [List.length_take, List.length_take] at hi
      rw [rd_at _ i (by rw [List.length_take, List.length_take]; omega), List.getElem_take, List.getElem_take, ← rd_at l _ (by omega)]
      cases e : P (rd_T62 l (i : Int)) with
      | false => rfl
      | true => have := (h _ (by omega)).1 e; omega

theorem awake_eq : windroselaw12_awake.f 2000 = some true := by kernel_rfl
theorem clone_eq (l : List S62) (h : l.length ≤ 1000) : api_Sample_81.f l = some l := by
  unfold api_Sample_81.f
  rw [if_pos (by omega)]
theorem drop_at (l : List S62) (i : Nat) (h : i < l.length) : l.drop i = rd_T62 l (i : Int) :: l.drop (i + 1) := by
  rw [rd_at l i h]
  exact List.drop_eq_getElem_cons h
/-- A row with one more at its spot. -/
def ins (l : List S62) (x : S62) : List S62 := l.take (spot l x.f0) ++ [x] ++ l.drop (spot l x.f0)
theorem ins_len (l : List S62) (x : S62) : (ins l x).length = l.length + 1 := by
  have := spot_le l x.f0
  unfold ins
  simp
  omega
theorem rd_ins (l : List S62) (x : S62) (i : Nat) (h : i < l.length + 1) : rd_T62 (ins l x) (i : Int) = if i < spot l x.f0 then rd_T62 l (i : Int) else if i = spot l x.f0 then x else rd_T62 l ((i - 1 : Nat) : Int) := by
  have hp := spot_le l x.f0
  have hin : i < (ins l x).length := by rw [ins_len]; exact h
  unfold ins at hin ⊢
  rw [rd_at _ i hin]
  split
  · rename_i c
    rw [List.getElem_append_left (by simp; omega), List.getElem_append_left (by simp; omega), List.getElem_take, rd_at l i (by omega)]
  · split
    · rename_i c1 c2
      rw [List.getElem_append_left (by simp; omega), List.getElem_append_right (by simp; omega)]
      simp
    · rename_i c1 c2
      rw [List.getElem_append_right (by simp; omega), List.getElem_drop, rd_at l (i - 1) (by omega)]
      congr 1
      simp
      omega
theorem fine_one {x : S62} (h : fine [x]) : ¬ x.f0 < 0 ∧ ¬ x.f0 > 1099511627776 ∧ ¬ x.f1 < -1099511627776 ∧ ¬ x.f1 > 1099511627776 := by
  have := h.2 0 (by omega) (by simp)
  have e : rd_T62 [x] 0 = x := rfl
  unfold bad at this
  rw [e] at this
  omega
theorem fine_ins {l : List S62} (hf : fine l) (x : S62) (hx : fine [x]) (no : ∀ j : Nat, j < l.length → (rd_T62 l (j : Int)).f0 ≠ x.f0) (hl : l.length < 64) : fine (ins l x) := by
  have t1 := spot_turn hf x.f0
  have hp := spot_le l x.f0
  have o := fine_one hx
  refine ⟨by rw [ins_len]; omega, fun i h0 h1 => ?_⟩
  rw [ins_len] at h1
  obtain ⟨n, rfl⟩ := Int.eq_ofNat_of_zero_le h0
  have hn : n < l.length + 1 := by omega
  have old : ∀ j : Nat, j < l.length → ¬ bad l j := fun j hj => hf.2 j (by omega) (by omega)
  have up := fine_up hf
  unfold bad at old ⊢
  have prev : (n : Int) > 0 → ((n : Int) - 1) = ((n - 1 : Nat) : Int) := by omega
  rintro (h | h | h | h | ⟨h, h'⟩)
  case inr.inr.inr.inr =>
    rw [prev h, rd_ins l x n hn, rd_ins l x (n - 1) (by omega)] at h'
    split at h'
    · rename_i c
      rw [if_pos (by omega)] at h'
      have := up (n - 1) n (by omega) (by omega)
      omega
    · split at h'
      · rename_i c1 c2
        rw [if_pos (by omega)] at h'
        have := t1 (n - 1) (by omega)
        omega
      · rename_i c1 c2
        rcases (by omega : n - 1 = spot l x.f0 ∨ spot l x.f0 < n - 1) with c3 | c3
        · rw [if_neg (by omega), if_pos c3] at h'
          have := t1 (n - 1) (by omega)
          have := no (n - 1) (by omega)
          omega
        · rw [if_neg (by omega), if_neg (by omega)] at h'
          have := up (n - 1 - 1) (n - 1) (by omega) (by omega)
          omega
  all_goals
    rw [rd_ins l x n hn] at h
    split at h
    · exact old n (by omega) (by omega)
    · split at h
      · omega
      · exact old (n - 1) (by omega) (by omega)
/-- What Put answers, way by way. -/
theorem put_bad {l : List S62} (hf : ¬ fine l) (x : S62) : samples_Put.f 2000 l x.f0 x.f1 = some ([], 1) := by
  unfold samples_Put.f
  rw [(check_eq 2000 (by omega) l).2 hf, Option.bind_some, if_neg (by decide)]
theorem put_open {l : List S62} (hf : fine l) (x : S62) : ∃ b, (b = true ↔ spot l x.f0 < l.length ∧ (rd_T62 l (spot l x.f0 : Int)).f0 = x.f0) ∧
    samples_Put.f 2000 l x.f0 x.f1 = ((block_Check.f 2000 (([(⟨x.f0, x.f1⟩ : S62)] : List (S62)))).bind fun t116 => (if t116 = 0 then (if b = true then (if 0 ≤ (spot l x.f0 : Int) then (if (spot l x.f0 : Int) < (l.length : Int) then (samples_Put.j0 2000 l (spot l x.f0 : Int) b (((rd_T62 l (spot l x.f0 : Int)).f0) == x.f0 && (((rd_T62 l (spot l x.f0 : Int)).f1) == x.f1)) x.f0 x.f1) else (none)) else (none)) else (samples_Put.j0 2000 l (spot l x.f0 : Int) b false x.f0 x.f1)) else (some (l, 1)))) := by
  have hl : l.length ≤ 200 := by have := hf.1; omega
  obtain ⟨b, e, hb⟩ := at_eq l x.f0 hl
  refine ⟨b, hb, ?_⟩
  unfold samples_Put.f
  rw [(check_eq 2000 (by omega) l).1 hf, Option.bind_some, if_pos rfl, clone_eq l (by omega), Option.bind_some, e, Option.bind_some]
theorem put_arg {l : List S62} (hf : fine l) (x : S62) (hx : ¬ fine [x]) : samples_Put.f 2000 l x.f0 x.f1 = some (l, 1) := by
  obtain ⟨b, _, e⟩ := put_open hf x
  rw [e, (check_eq 2000 (by omega) _).2 hx, Option.bind_some, if_neg (by decide)]
theorem put_j0 (k : Nat) (l : List S62) (p : Int) (b c : Bool) (s0 s1 : Int) : samples_Put.j0 (k + 1) l p b c s0 s1 = if c = true then (some (l, 7)) else (if b = true then (some (l, 8)) else (if (l.length : Int) = 64 then (some (l, 6)) else ((api_Sample_83.f l p (([(⟨s0, s1⟩ : S62)] : List (S62)))).bind fun t121 => (some (t121, 0))))) := rfl
theorem put_same {l : List S62} (hf : fine l) (x : S62) (hx : fine [x]) (h : spot l x.f0 < l.length ∧ (rd_T62 l (spot l x.f0 : Int)).f0 = x.f0) (hv : (rd_T62 l (spot l x.f0 : Int)).f1 = x.f1) : samples_Put.f 2000 l x.f0 x.f1 = some (l, 7) := by
  obtain ⟨b, hb, e⟩ := put_open hf x
  rw [e, (check_eq 2000 (by omega) _).1 hx, Option.bind_some, if_pos rfl, if_pos (hb.2 h), if_pos (by omega), if_pos (by omega), put_j0 1999, if_pos (by simp [h.2, hv])]
theorem put_other {l : List S62} (hf : fine l) (x : S62) (hx : fine [x]) (h : spot l x.f0 < l.length ∧ (rd_T62 l (spot l x.f0 : Int)).f0 = x.f0) (hv : ¬ (rd_T62 l (spot l x.f0 : Int)).f1 = x.f1) : samples_Put.f 2000 l x.f0 x.f1 = some (l, 8) := by
  obtain ⟨b, hb, e⟩ := put_open hf x
  rw [e, (check_eq 2000 (by omega) _).1 hx, Option.bind_some, if_pos rfl, if_pos (hb.2 h), if_pos (by omega), if_pos (by omega), put_j0 1999, if_neg (by simp [hv]), if_pos (hb.2 h)]
theorem put_full {l : List S62} (hf : fine l) (x : S62) (hx : fine [x]) (h : ¬ (spot l x.f0 < l.length ∧ (rd_T62 l (spot l x.f0 : Int)).f0 = x.f0)) (hl : l.length = 64) : samples_Put.f 2000 l x.f0 x.f1 = some (l, 6) := by
  obtain ⟨b, hb, e⟩ := put_open hf x
  have nb : ¬ b = true := fun q => h (hb.1 q)
  rw [e, (check_eq 2000 (by omega) _).1 hx, Option.bind_some, if_pos rfl, if_neg nb, put_j0 1999, if_neg (by decide), if_neg nb, if_pos (by omega)]
theorem put_ok {l : List S62} (hf : fine l) (x : S62) (hx : fine [x]) (h : ¬ (spot l x.f0 < l.length ∧ (rd_T62 l (spot l x.f0 : Int)).f0 = x.f0)) (hl : ¬ l.length = 64) : samples_Put.f 2000 l x.f0 x.f1 = some (ins l x, 0) := by
  obtain ⟨b, hb, e⟩ := put_open hf x
  have nb : ¬ b = true := fun q => h (hb.1 q)
  have hp := spot_le l x.f0
  have hl1 := hf.1
  rw [e, (check_eq 2000 (by omega) _).1 hx, Option.bind_some, if_pos rfl, if_neg nb, put_j0 1999, if_neg (by decide), if_neg nb, if_neg (by omega)]
  unfold api_Sample_83.f
  rw [if_pos ⟨rfl, by omega, by omega, by omega⟩, Option.bind_some, Int.toNat_natCast]
  rfl

theorem put_more {l : List S62} {s0 s1 : Int} {r : List S62 × Int} (h : samples_Put.f 2000 l s0 s1 = some r) : ∀ k, samples_Put.f (2000 + k) l s0 s1 = some r := by
  intro k
  induction k with
  | zero => exact h
  | succ k ih => exact samples_Put.mono l s0 s1 _ _ ih
theorem awake_more : ∀ k, windroselaw12_awake.f (2000 + k) = some true := by
  intro k
  induction k with
  | zero => exact awake_eq
  | succ k ih => exact windroselaw12_awake.mono _ _ ih
theorem j0_eq (k : Nat) : ∀ x0 x1 x22, windroselaw12_SamplesOrders.j0 (k + 1) x0 x1 x22 = (if x22 = true then ((windroselaw12_awake.f k).bind fun t141 => (some t141)) else ((some (([] : List (S62)) : List (S62))).bind fun y142 => (if y142.length + x0.length < 8796093022208 then (windroselaw12_SamplesOrders.l0 k x0 x1 (y142 ++ x0) 0) else (none)))) := fun x0 x1 x22 => rfl
theorem j2_eq (k : Nat) : ∀ x0 x5, windroselaw12_SamplesOrders.j2 (k + 1) x0 x5 = (windroselaw12_SamplesOrders.l1 k x0 x5 (([] : List (S62))) 0) := fun x0 x5 => rfl
theorem l1_eq (k : Nat) : ∀ x0 x5 x8 x9, windroselaw12_SamplesOrders.l1 (k + 1) x0 x5 x8 x9 = (if x9 < (x5.length : Int) then (if 0 ≤ x9 then ((samples_Put.f k x8 ((rd_T62 x5 x9).f0) ((rd_T62 x5 x9).f1)).bind fun bt157 => (if bt157.2 = 0 then (windroselaw12_SamplesOrders.l1 k x0 x5 bt157.1 (wrap64 (x9 + 1))) else (some false))) else (none)) else ((windroseref11_Same.f k x8 x0).bind fun t161 => (if t161 = true then (windroselaw12_SamplesOrders.l2 k x5 x8 0) else (some false)))) := fun x0 x5 x8 x9 => rfl
theorem l2_eq (k : Nat) : ∀ x5 x8 x12, windroselaw12_SamplesOrders.l2 (k + 1) x5 x8 x12 = (if x12 < (x5.length : Int) then (if 0 ≤ x12 then ((samples_Put.f k x8 ((rd_T62 x5 x12).f0) ((rd_T62 x5 x12).f1)).bind fun bt164 => (if bt164.2 = 7 then ((windroseref11_Same.f k x8 bt164.1).bind fun t168 => (if t168 = true then (windroselaw12_SamplesOrders.l2 k x5 x8 (wrap64 (x12 + 1))) else (some false))) else (some false))) else (none)) else ((windroselaw12_awake.f k).bind fun t162 => (some t162))) := fun x5 x8 x12 => rfl
theorem l0_eq (k : Nat) : ∀ x0 x1 x5 x6, windroselaw12_SamplesOrders.l0 (k + 1) x0 x1 x5 x6 = (if (wrap64 (x6 + 1)) < (x5.length : Int) then (if x6 < (x1.length : Int) then (if 0 ≤ x6 then (if (wrap64 ((x5.length : Int) - x6)) = 0 then (none) else (if 0 ≤ (wrap64 (x6 + (Int.tmod (wrap64 (rd x1 x6)) (wrap64 ((x5.length : Int) - x6))))) then (if (wrap64 (x6 + (Int.tmod (wrap64 (rd x1 x6)) (wrap64 ((x5.length : Int) - x6))))) < (x5.length : Int) then (if x6 < (x5.length : Int) then (windroselaw12_SamplesOrders.l0 k x0 x1 ((x5.set (x6 : Int).toNat (⟨(rd_T62 x5 (wrap64 (x6 + (Int.tmod (wrap64 (rd x1 x6)) (wrap64 ((x5.length : Int) - x6)))))).f0, (rd_T62 x5 (wrap64 (x6 + (Int.tmod (wrap64 (rd x1 x6)) (wrap64 ((x5.length : Int) - x6)))))).f1⟩ : S62)).set ((wrap64 (x6 + (Int.tmod (wrap64 (rd x1 x6)) (wrap64 ((x5.length : Int) - x6))))) : Int).toNat (⟨(rd_T62 x5 x6).f0, (rd_T62 x5 x6).f1⟩ : S62)) (wrap64 (x6 + 1))) else (none)) else (none)) else (none))) else (none)) else (windroselaw12_SamplesOrders.j2 k x0 x5)) else (windroselaw12_SamplesOrders.j2 k x0 x5)) := fun x0 x1 x5 x6 => rfl

/-- The same samples in another order: no two at one time. -/
structure Mixed (l m : List S62) : Prop where
  len : m.length = l.length
  sub : ∀ n : Nat, n < m.length → ∃ n' : Nat, n' < l.length ∧ rd_T62 m (n : Int) = rd_T62 l (n' : Int)
  sup : ∀ n : Nat, n < l.length → ∃ n' : Nat, n' < m.length ∧ rd_T62 l (n : Int) = rd_T62 m (n' : Int)
  one : ∀ a b : Nat, a < m.length → b < m.length → (rd_T62 m (a : Int)).f0 = (rd_T62 m (b : Int)).f0 → a = b
theorem fine_one_of {l : List S62} (hf : fine l) : ∀ a b : Nat, a < l.length → b < l.length → (rd_T62 l (a : Int)).f0 = (rd_T62 l (b : Int)).f0 → a = b := by
  intro a b ha hb h
  have u := fine_up hf
  rcases Nat.lt_trichotomy a b with c | c | c
  · have := u a b c hb; omega
  · exact c
  · have := u b a c ha; omega
theorem mixed_refl {l : List S62} (hf : fine l) : Mixed l l := ⟨rfl, fun n h => ⟨n, h, rfl⟩, fun n h => ⟨n, h, rfl⟩, fine_one_of hf⟩
theorem rd_swap (m : List S62) (i j n : Nat) (hi : i < m.length) (hj : j < m.length) (hn : n < m.length) :
    rd_T62 ((m.set i (rd_T62 m (j : Int))).set j (rd_T62 m (i : Int))) (n : Int) = rd_T62 m ((if n = j then i else if n = i then j else n : Nat) : Int) := by
  rw [rd_at _ n (by simpa using hn), List.getElem_set]
  split
  · rename_i c
    rw [if_pos c.symm]
  · rename_i c
    rw [if_neg (fun q => c q.symm), List.getElem_set]
    split
    · rename_i c2
      rw [if_pos c2.symm]
    · rename_i c2
      rw [if_neg (fun q => c2 q.symm), rd_at m n hn]
theorem mixed_swap {l m : List S62} (h : Mixed l m) (i j : Nat) (hi : i < m.length) (hj : j < m.length) : Mixed l ((m.set i (rd_T62 m (j : Int))).set j (rd_T62 m (i : Int))) := by
  have hlen : ((m.set i (rd_T62 m (j : Int))).set j (rd_T62 m (i : Int))).length = m.length := by simp
  have sw : ∀ n : Nat, n < m.length → (if n = j then i else if n = i then j else n : Nat) < m.length := by
    intro n hn
    repeat' split
    all_goals omega
  refine ⟨by rw [hlen, h.len], fun n hn => ?_, fun n hn => ?_, fun a b ha hb q => ?_⟩
  · rw [hlen] at hn
    rw [rd_swap m i j n hi hj hn]
    exact h.sub _ (sw n hn)
  · obtain ⟨n', h1, h2⟩ := h.sup n hn
    refine ⟨(if n' = j then i else if n' = i then j else n' : Nat), by rw [hlen]; exact sw n' h1, ?_⟩
    rw [rd_swap m i j _ hi hj (sw n' h1), h2]
    congr 2
    repeat' split
    all_goals omega
  · rw [hlen] at ha hb
    rw [rd_swap m i j a hi hj ha, rd_swap m i j b hi hj hb] at q
    have := h.one _ _ (sw a ha) (sw b hb) q
    revert this
    repeat' split
    all_goals omega
theorem mem_rd (l : List S62) (y : S62) : y ∈ l ↔ ∃ n : Nat, n < l.length ∧ rd_T62 l (n : Int) = y := by
  constructor
  · intro h
    obtain ⟨i, hi, rfl⟩ := List.getElem_of_mem h
    exact ⟨i, hi, rd_at l i hi⟩
  · rintro ⟨n, h, rfl⟩
    rw [rd_at l n h]
    exact List.getElem_mem h
theorem mem_ins (l : List S62) (x y : S62) : y ∈ ins l x ↔ y ∈ l ∨ y = x := by
  unfold ins
  have e : y ∈ l ↔ y ∈ l.take (spot l x.f0) ∨ y ∈ l.drop (spot l x.f0) := by
    conv => lhs; rw [← List.take_append_drop (spot l x.f0) l]
    exact List.mem_append
  rw [e]
  simp only [List.mem_append, List.mem_singleton]
  constructor
  · rintro ((h | h) | h)
    · exact Or.inl (Or.inl h)
    · exact Or.inr h
    · exact Or.inl (Or.inr h)
  · rintro ((h | h) | h)
    · exact Or.inl (Or.inl h)
    · exact Or.inr h
    · exact Or.inl (Or.inr h)
theorem eq_of_up : ∀ (x l : List S62), x.Pairwise (fun a b => a.f0 < b.f0) → l.Pairwise (fun a b => a.f0 < b.f0) → (∀ y, y ∈ x ↔ y ∈ l) → x = l := by
  intro x
  induction x with
  | nil =>
    intro l _ _ h
    cases l with
    | nil => rfl
    | cons b l => have := (h b).2 List.mem_cons_self; cases this
  | cons a x ih =>
    intro l hx hl h
    cases l with
    | nil => have := (h a).1 List.mem_cons_self; cases this
    | cons b l =>
      obtain ⟨hx1, hx2⟩ := List.pairwise_cons.1 hx
      obtain ⟨hl1, hl2⟩ := List.pairwise_cons.1 hl
      have ab : a = b := by
        rcases List.mem_cons.1 ((h a).1 List.mem_cons_self) with q | q
        · exact q
        rcases List.mem_cons.1 ((h b).2 List.mem_cons_self) with q2 | q2
        · exact q2.symm
        have := hl1 a q
        have := hx1 b q2
        omega
      subst ab
      rw [ih l hx2 hl2 (fun y => ⟨fun hy => ?_, fun hy => ?_⟩)]
      · rcases List.mem_cons.1 ((h y).1 (List.mem_cons_of_mem _ hy)) with q | q
        · subst q; have := hx1 y hy; omega
        · exact q
      · rcases List.mem_cons.1 ((h y).2 (List.mem_cons_of_mem _ hy)) with q | q
        · subst q; have := hl1 y hy; omega
        · exact q
theorem up_pair {l : List S62} (hf : fine l) : l.Pairwise (fun a b => a.f0 < b.f0) := by
  rw [List.pairwise_iff_getElem]
  intro i j hi hj hij
  have := fine_up hf i j hij hj
  rwa [rd_at l i hi, rd_at l j hj] at this
theorem fine_at {l : List S62} (hf : fine l) (n : Nat) (h : n < l.length) : fine [rd_T62 l (n : Int)] := by
  have q := hf.2 n (by omega) (by omega)
  refine ⟨by simp, fun i h0 h1 => ?_⟩
  have h1' : i < 1 := h1
  have e : i = 0 := by omega
  subst e
  have e : rd_T62 [rd_T62 l (n : Int)] 0 = rd_T62 l (n : Int) := rfl
  unfold bad at q ⊢
  rw [e]
  omega
theorem spot_at {l : List S62} (hf : fine l) (n : Nat) (h : n < l.length) : spot l (rd_T62 l (n : Int)).f0 = n := by
  have t := spot_turn hf (rd_T62 l (n : Int)).f0
  have hp := spot_le l (rd_T62 l (n : Int)).f0
  have h1 := t n h
  rcases (by omega : spot l (rd_T62 l (n : Int)).f0 = n ∨ spot l (rd_T62 l (n : Int)).f0 < n) with c | c
  · exact c
  · have h2 := t _ (Nat.lt_trans c h)
    have h3 := fine_up hf _ n c h
    omega
theorem same_more {l : List S62} (hl : l.length ≤ 1000) (k : Nat) : windroseref11_Same.f (2000 + k) l l = some true := same_eq _ (by omega) l hl
theorem law_l2 {l m : List S62} (hf : fine l) (hm : Mixed l m) : ∀ (d i : Nat), i ≤ m.length → m.length - i < d → ∀ k, windroselaw12_SamplesOrders.l2 (2000 + k + d) m l (i : Int) = some true := by
  intro d
  have hl := hf.1
  have hlen := hm.len
  induction d with
  | zero => intro i h0 h1; omega
  | succ d ih =>
    intro i h0 h1 k
    rw [← Nat.add_assoc]
    rw [l2_eq]
    by_cases c1 : (i : Int) < (m.length : Int)
    · have w1 : wrap64 ((i : Int) + 1) = ((i + 1 : Nat) : Int) := by unfold wrap64; omega
      obtain ⟨n, hn, e⟩ := hm.sub i (by omega)
      have sp := spot_at hf n hn
      have p := put_more (put_same hf (rd_T62 l (n : Int)) (fine_at hf n hn) (by rw [sp]; exact ⟨hn, rfl⟩) (by rw [sp])) (k + d)
      rw [← e, ← Nat.add_assoc] at p
      have sm := same_more (l := l) (by omega) (k + d)
      rw [← Nat.add_assoc] at sm
      rw [if_pos c1, if_pos (by omega), p, Option.bind_some, if_pos rfl, sm, Option.bind_some, if_pos rfl, w1]
      exact ih (i + 1) (by omega) (by omega) k
    · have aw := awake_more (k + d)
      rw [← Nat.add_assoc] at aw
      rw [if_neg c1, aw, Option.bind_some]
theorem law_l1 {l m : List S62} (hf : fine l) (hm : Mixed l m) : ∀ (d i : Nat) (x : List S62), i ≤ m.length → m.length - i < d → fine x → x.length = i → (∀ y, y ∈ x ↔ ∃ n : Nat, n < i ∧ rd_T62 m (n : Int) = y) → ∀ k, windroselaw12_SamplesOrders.l1 (2100 + k + d) l m x (i : Int) = some true := by
  intro d
  have hl := hf.1
  have hlen := hm.len
  induction d with
  | zero => intro i x h0 h1; omega
  | succ d ih =>
    intro i x h0 h1 hx hxl hmem k
    rw [← Nat.add_assoc]
    rw [l1_eq]
    have kk : 2100 + k + d = 2000 + (100 + k + d) := by omega
    by_cases c1 : (i : Int) < (m.length : Int)
    · have w1 : wrap64 ((i : Int) + 1) = ((i + 1 : Nat) : Int) := by unfold wrap64; omega
      obtain ⟨n, hn, e⟩ := hm.sub i (by omega)
      have fo : fine [rd_T62 m (i : Int)] := by rw [e]; exact fine_at hf n hn
      have nox : ∀ j : Nat, j < x.length → (rd_T62 x (j : Int)).f0 ≠ (rd_T62 m (i : Int)).f0 := by
        intro j hj q
        obtain ⟨n2, h2, h3⟩ := (hmem (rd_T62 x (j : Int))).1 ((mem_rd x _).2 ⟨j, hj, rfl⟩)
        rw [← h3] at q
        have := hm.one n2 i (by omega) (by omega) q
        omega
      have nf : ¬ (spot x (rd_T62 m (i : Int)).f0 < x.length ∧ (rd_T62 x (spot x (rd_T62 m (i : Int)).f0 : Int)).f0 = (rd_T62 m (i : Int)).f0) := fun q => nox _ q.1 q.2
      have p := put_more (put_ok hx (rd_T62 m (i : Int)) fo nf (by omega)) (100 + k + d)
      rw [← kk] at p
      rw [if_pos c1, if_pos (by omega), p, Option.bind_some, if_pos rfl, w1]
      refine ih (i + 1) (ins x (rd_T62 m (i : Int))) (by omega) (by omega) (fine_ins hx _ fo nox (by omega)) (by rw [ins_len, hxl]) (fun y => ?_) k
      rw [mem_ins, hmem]
      constructor
      · rintro (⟨n2, h2, h3⟩ | rfl)
        · exact ⟨n2, by omega, h3⟩
        · exact ⟨i, by omega, rfl⟩
      · rintro ⟨n2, h2, h3⟩
        rcases (by omega : n2 < i ∨ n2 = i) with c | rfl
        · exact Or.inl ⟨n2, c, h3⟩
        · exact Or.inr h3.symm
    · have hi : i = m.length := by omega
      have e : x = l := by
        refine eq_of_up x l (up_pair hx) (up_pair hf) (fun y => ?_)
        rw [hmem, mem_rd]
        constructor
        · rintro ⟨n, h2, h3⟩
          obtain ⟨n', h4, h5⟩ := hm.sub n (by omega)
          exact ⟨n', h4, by rw [← h5]; exact h3⟩
        · rintro ⟨n, h2, h3⟩
          obtain ⟨n', h4, h5⟩ := hm.sup n h2
          exact ⟨n', by omega, by rw [← h5]; exact h3⟩
      subst e
      have sm := same_more (l := x) (by omega) (100 + k + d)
      rw [← kk] at sm
      have e2 := law_l2 hf hm 99 0 (by omega) (by omega) (k + d + 1)
      have kk2 : 2000 + (k + d + 1) + 99 = 2100 + k + d := by omega
      rw [kk2] at e2
      rw [if_neg c1, sm, Option.bind_some, if_pos rfl]
      exact e2
theorem law_j2 {l m : List S62} (hf : fine l) (hm : Mixed l m) (k : Nat) : windroselaw12_SamplesOrders.j2 (2300 + k) l m = some true := by
  have hl := hf.1
  have hlen := hm.len
  have kk : 2300 + k = (2299 + k) + 1 := by omega
  rw [kk]
  rw [j2_eq]
  have e := law_l1 hf hm 100 0 [] (by omega) (by omega) ⟨by simp, fun i h0 h1 => by simp at h1; omega⟩ rfl (fun y => ⟨(fun h => by cases h), fun ⟨n, h, _⟩ => by omega⟩) (99 + k)
  have kk2 : 2100 + (99 + k) + 100 = 2299 + k := by omega
  rw [kk2] at e
  exact e
theorem law_l0 {l : List S62} (hf : fine l) (t : List Int) (ht : ∀ x ∈ t, 0 ≤ x ∧ x ≤ 255) : ∀ (d i : Nat) (m : List S62), Mixed l m → i ≤ m.length → m.length - i < d → ∀ k, windroselaw12_SamplesOrders.l0 (2300 + k + d) l t m (i : Int) = some true := by
  intro d
  have hl := hf.1
  induction d with
  | zero => intro i m _ h0 h1; omega
  | succ d ih =>
    intro i m hm h0 h1 k
    have hlen := hm.len
    rw [← Nat.add_assoc]
    rw [l0_eq]
    have w1 : wrap64 ((i : Int) + 1) = ((i + 1 : Nat) : Int) := by unfold wrap64; omega
    have j2 := law_j2 hf hm (k + d)
    rw [← Nat.add_assoc] at j2
    rw [w1]
    by_cases c1 : ((i + 1 : Nat) : Int) < (m.length : Int)
    · rw [if_pos c1]
      by_cases c2 : (i : Int) < (t.length : Int)
      · have hr : 0 ≤ rd t (i : Int) ∧ rd t (i : Int) ≤ 255 := by
          have e : rd t (i : Int) = t[i] := by
            unfold rd
            rw [Int.toNat_natCast, List.getD_eq_getElem?_getD, List.getElem?_eq_getElem (by omega)]
            rfl
          rw [e]
          exact ht _ (List.getElem_mem (by omega))
        generalize rd t (i : Int) = u at hr ⊢
        have w2 : wrap64 u = u := by unfold wrap64; omega
        have w3 : wrap64 ((m.length : Int) - (i : Int)) = ((m.length - i : Nat) : Int) := by unfold wrap64; omega
        have hmod : Int.tmod u ((m.length - i : Nat) : Int) = ((u.toNat % (m.length - i) : Nat) : Int) := by
          obtain ⟨v, rfl⟩ := Int.eq_ofNat_of_zero_le hr.1
          rfl
        have hlt : u.toNat % (m.length - i) < m.length - i := Nat.mod_lt _ (by omega)
        generalize u.toNat % (m.length - i) = q at hlt hmod
        have w4 : wrap64 ((i : Int) + (q : Int)) = ((i + q : Nat) : Int) := by clear hmod w2 w3 ih; unfold wrap64; omega
        have z1 : (0 : Int) ≤ (i : Int) := by clear hmod w2 w3 w4 ih; omega
        have z2 : ¬ ((m.length - i : Nat) : Int) = 0 := by clear hmod w2 w3 w4 ih; omega
        have z3 : (0 : Int) ≤ ((i + q : Nat) : Int) := by clear hmod w2 w3 w4 ih; omega
        have z4 : ((i + q : Nat) : Int) < (m.length : Int) := by clear hmod w2 w3 w4 ih; omega
        have z5 : (i : Int) < (m.length : Int) := by clear hmod w2 w3 w4 ih; omega
        have e := ih (i + 1) _ (mixed_swap hm i (i + q) (by clear hmod w2 w3 w4 ih; omega) (by clear hmod w2 w3 w4 ih; omega)) (by clear hmod w2 w3 w4 ih; simp; omega) (by clear hmod w2 w3 w4 ih; simp; omega) k
        simp only [w2, w3, hmod, w4]
        rw [if_pos c2, if_pos z1, if_neg z2, if_pos z3, if_pos z4, if_pos z5]
        exact e
      · rw [if_neg c2]
        exact j2
    · rw [if_neg c1]
      exact j2
theorem pure (l : List S62) (t : List Int) (ht : ∀ x ∈ t, 0 ≤ x ∧ x ≤ 255) : windroselaw12_SamplesOrders.f 3000 l t = some true := by
  unfold windroselaw12_SamplesOrders.f
  have j1 : windroselaw12_SamplesOrders.j0 3000 l t true = some true := by
    have aw := awake_more 999
    have kk : 3000 = 2999 + 1 := rfl
    rw [kk]
    rw [j0_eq]
    rw [if_pos rfl]
    have aw' : windroselaw12_awake.f 2999 = some true := aw
    rw [aw', Option.bind_some]
  by_cases hl : (l.length : Int) > 64
  · rw [if_pos hl, j1]
  rw [if_neg hl]
  by_cases hf : fine l
  · rw [(may_eq 3000 (by omega) l (by omega)).1 hf, Option.bind_some]
    have kk : 3000 = 2999 + 1 := rfl
    rw [kk]
    rw [j0_eq]
    have e := law_l0 hf t ht 100 0 l (mixed_refl hf) (by omega) (by omega) 599
    have e' : windroselaw12_SamplesOrders.l0 2999 l t l 0 = some true := e
    rw [if_neg (by decide), Option.bind_some, List.nil_append]
    have h1 : ([] : List S62).length + l.length < 8796093022208 := by simp; omega
    rw [if_pos h1, e']
  · rw [(may_eq 3000 (by omega) l (by omega)).2 hf, Option.bind_some]
    exact j1
theorem pure' (l : List S62) (t : List Int) (ht : ∀ x ∈ t, (Lit.int .u8 x).wf = true) : windroselaw12_SamplesOrders.f 3000 l t = some true :=
  pure l t (fun x hx => by
    have h := ht x hx
    simp [Lit.wf, IntKind.min, IntKind.max, IntKind.bits, IntKind.signed] at h
    omega)
end Go.Proofs.Ytilgmccdpddeoaa.PSamplesOrders
