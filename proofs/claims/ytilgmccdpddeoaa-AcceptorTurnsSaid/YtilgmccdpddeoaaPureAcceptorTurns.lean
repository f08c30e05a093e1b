/- The law AcceptorTurns, plain. -/
import Derived.Test.YtilgmccdpddeoaaSXoAcceptorTurns
namespace Go.Proofs.Ytilgmccdpddeoaa.SX
open Go Go.RowKit Go.Proofs.Ytilgmccdpddeoaa.Sl
set_option linter.unusedVariables false
set_option linter.unusedSimpArgs false
namespace Turns
theorem w64n (i : Nat) (h : i < 9223372036854775807) : w64 ((i : Int) + 1) = ((i + 1 : Nat) : Int) := by rw [w64_of (by omega) (by omega)]; omega
theorem nth_get {α : Type} (z : α) (l : List α) (i : Nat) (h : i < l.length) : nth z l (i : Int) = l[i] := by simp [nth, h]
theorem drop_eq {α : Type} (a b : List α) (i : Nat) (ha : i < a.length) (hb : i < b.length) : (a.drop i = b.drop i) ↔ (a[i] = b[i] ∧ a.drop (i + 1) = b.drop (i + 1)) := by
  rw [List.drop_eq_getElem_cons ha, List.drop_eq_getElem_cons hb, List.cons.injEq]
theorem eta28 (x : S28) : (⟨x.f0, x.f1, x.f2, x.f3, x.f4, x.f5, x.f6⟩ : S28) = x := rfl
theorem eta49 (x : S49) : (⟨x.f0, x.f1⟩ : S49) = x := rfl
theorem eta24 (x : S24) : (⟨x.f0, x.f1⟩ : S24) = x := rfl
theorem some_bind_some {α : Type} (x : Option α) : (x.bind fun t => some t) = x := by cases x <;> rfl
/-! rows of numbers -/
theorem equal_l9 (a b : List Int) (hab : a.length = b.length) (hl : a.length < 4611686018427387904) : ∀ (d k i : Nat), i + d = a.length → d < k → slices_Equal__int_int.l9 k a b (i : Int) = some (decide (a.drop i = b.drop i)) := by
  intro d
  induction d with
  | zero =>
    intro k i hi hk
    obtain ⟨k, rfl⟩ : ∃ m, k = m + 1 := ⟨k - 1, by omega⟩
    rw [slices_Equal__int_int.l9_s, if_neg (by omega), List.drop_eq_nil_of_le (by omega), List.drop_eq_nil_of_le (by omega)]
    rfl
  | succ d ih =>
    intro k i hi hk
    obtain ⟨k, rfl⟩ : ∃ m, k = m + 1 := ⟨k - 1, by omega⟩
    have h1 : i < a.length := by omega
    have h2 : i < b.length := by omega
    rw [slices_Equal__int_int.l9_s, if_pos (by omega), if_pos (by omega), if_pos (by omega), nth_get _ _ _ h1, nth_get _ _ _ h2, w64n i (by omega)]
    by_cases h : a[i] = b[i]
    · rw [if_pos h, ih k (i + 1) (by omega) (by omega)]
      simp only [drop_eq a b i h1 h2, h, true_and]
    · rw [if_neg h]
      simp only [drop_eq a b i h1 h2, h, false_and, decide_false]
theorem ints_l9 (a b : List Int) (hab : a.length = b.length) (hl : a.length < 4611686018427387904) : ∀ (d k i : Nat), i + d = a.length → d < k → windroseref02_Ints.l9 k a b (i : Int) = some (decide (a.drop i = b.drop i)) := by
  intro d
  induction d with
  | zero =>
    intro k i hi hk
    obtain ⟨k, rfl⟩ : ∃ m, k = m + 1 := ⟨k - 1, by omega⟩
    rw [windroseref02_Ints.l9_s, if_neg (by omega), List.drop_eq_nil_of_le (by omega), List.drop_eq_nil_of_le (by omega)]
    rfl
  | succ d ih =>
    intro k i hi hk
    obtain ⟨k, rfl⟩ : ∃ m, k = m + 1 := ⟨k - 1, by omega⟩
    have h1 : i < a.length := by omega
    have h2 : i < b.length := by omega
    rw [windroseref02_Ints.l9_s, if_pos (by omega), if_pos (by omega), if_pos (by omega), nth_get _ _ _ h1, nth_get _ _ _ h2, w64n i (by omega)]
    by_cases h : a[i] = b[i]
    · rw [if_pos h, ih k (i + 1) (by omega) (by omega)]
      simp only [drop_eq a b i h1 h2, h, true_and]
    · rw [if_neg h]
      simp only [drop_eq a b i h1 h2, h, false_and, decide_false]
theorem equal_f (a b : List Int) (k : Nat) (hl : a.length < 4611686018427387904) (hk : a.length < k) : slices_Equal__int_int.f k a b = some (decide (a = b)) := by
  unfold slices_Equal__int_int.f
  by_cases h : a.length = b.length
  · rw [if_pos (by omega)]
    exact equal_l9 a b h hl a.length k 0 (by omega) hk
  · rw [if_neg (by omega)]
    have : ¬ a = b := fun e => h (by rw [e])
    simp [this]
theorem ints_f (a b : List Int) (k : Nat) (hl : a.length < 4611686018427387904) (hk : a.length < k) : windroseref02_Ints.f k a b = some (decide (a = b)) := by
  unfold windroseref02_Ints.f
  by_cases h : a.length = b.length
  · rw [if_pos (by omega)]
    exact ints_l9 a b h hl a.length k 0 (by omega) hk
  · rw [if_neg (by omega)]
    have : ¬ a = b := fun e => h (by rw [e])
    simp [this]
/-! deltas -/
theorem eq28 (x y : S28) : (x = y) ↔ (x.f0 = y.f0 ∧ x.f1 = y.f1 ∧ x.f2 = y.f2 ∧ x.f3 = y.f3 ∧ x.f4 = y.f4 ∧ x.f5 = y.f5 ∧ x.f6 = y.f6) := by
  cases x
  cases y
  simp only [S28.mk.injEq]
theorem same_delta (x y : S28) (k : Nat) (hl : x.f6.length < 4611686018427387904) (hk : x.f6.length < k) : acceptor_SameDelta.f k x y = some (decide (x = y)) := by
  unfold acceptor_SameDelta.f
  simp only [equal_f _ _ k hl hk, Option.bind_some, eq28]
  split
  · split
    · split
      · split
        · split
          · split
            · simp [*]
            · simp [*]
          · simp [*]
        · simp [*]
      · simp [*]
    · simp [*]
  · simp [*]
theorem deltas (x y : S28) (k : Nat) (hl : x.f6.length < 4611686018427387904) (hk : x.f6.length < k) : windroseref08_Deltas.f k x y = some (decide (x = y)) := by
  unfold windroseref08_Deltas.f
  simp only [ints_f _ _ k hl hk, Option.bind_some, eq28]
  split
  · split
    · split
      · split
        · split
          · split
            · simp [*]
            · simp [*]
          · simp [*]
        · simp [*]
      · simp [*]
    · simp [*]
  · simp [*]
theorem eq49 (x y : S49) : (x = y) ↔ (x.f0 = y.f0 ∧ x.f1 = y.f1) := by
  cases x
  cases y
  simp only [S49.mk.injEq]
theorem same (x y : S49) (k : Nat) (hl : x.f1.f6.length < 4611686018427387904) (hk : x.f1.f6.length < k) : acceptor_same.f k x y = some (decide (x = y)) := by
  unfold acceptor_same.f
  simp only [same_delta _ _ k hl hk, Option.bind_some, eq49]
  split <;> simp [*]
theorem one (x y : S49) (k : Nat) (hl : x.f1.f6.length < 4611686018427387904) (hk : x.f1.f6.length < k) : windroseref16_One.f k x y = some (decide (x = y)) := by
  unfold windroseref16_One.f
  simp only [deltas _ _ k hl hk, Option.bind_some, eq49]
  split <;> simp [*]
/-- A delta without what its kind doesn't tell. -/
def bareD (x : S28) : S28 := if x.f0 = 1 then ⟨x.f0, x.f1, x.f2, x.f3, x.f4, 0, []⟩ else if x.f0 = 2 then ⟨x.f0, x.f1, 0, 0, x.f4, 0, []⟩ else if x.f0 = 8 then ⟨x.f0, 0, 0, 0, 0, x.f5, x.f6⟩ else if x.f0 = 9 then ⟨x.f0, 0, 0, 0, 0, 0, []⟩ else if x.f0 = 10 then ⟨x.f0, 0, 0, 0, x.f4, x.f5, []⟩ else ⟨x.f0, x.f1, 0, 0, 0, 0, []⟩
theorem bare (x : S28) (k : Nat) : acceptor_bare.f (k + 1) x = some (bareD x) := by
  unfold acceptor_bare.f bareD
  simp only [acceptor_bare.j34_s]
  repeat (first | rfl | split)
theorem refbare (x : S28) : windroseref08_Bare.f x = some (bareD x) := by
  unfold windroseref08_Bare.f bareD
  repeat (first | rfl | split)
def inZ (y : Int) : Prop := 0 ≤ y ∧ y ≤ 2147483647
instance (y : Int) : Decidable (inZ y) := inferInstanceAs (Decidable (_ ∧ _))
def okD (x : S28) : Prop := (1 ≤ x.f0 ∧ x.f0 ≤ 10) ∧ x = bareD x ∧ x.f6.length ≤ 3 ∧ ∀ y ∈ [x.f1, x.f2, x.f3, x.f4, x.f5] ++ x.f6, inZ y
instance (x : S28) : Decidable (okD x) := inferInstanceAs (Decidable (_ ∧ _))
theorem refin (y : Int) : windroseref16_in.f y = some (decide (inZ y)) := by
  unfold windroseref16_in.f
  split
  · exact congrArg some (decide_eq_decide.2 ⟨fun h => ⟨by omega, by omega⟩, fun h => by have := h.2; omega⟩)
  · rw [decide_eq_false (fun h : inZ y => by have := h.1; omega)]
theorem acin (y a b : Int) : acceptor_in.f y a b = some (decide (a ≤ y ∧ y ≤ b)) := by
  unfold acceptor_in.f
  split
  · congr 1
    simp only [decide_eq_decide]
    omega
  · have : ¬ (a ≤ y ∧ y ≤ b) := by omega
    simp [this]
theorem all_drop {α : Type} (p : α → Prop) (l : List α) (i : Nat) (h : i < l.length) : (∀ y ∈ l.drop i, p y) ↔ (p l[i] ∧ ∀ y ∈ l.drop (i + 1), p y) := by
  rw [List.drop_eq_getElem_cons h]
  simp only [List.mem_cons, forall_eq_or_imp]
theorem check_l41 (x : S28) (hl : x.f6.length ≤ 1000) : ∀ (d k i : Nat), i + d = ([x.f1, x.f2, x.f3, x.f4, x.f5] ++ x.f6).length → d < k → acceptor_CheckDelta.l41 k x (i : Int) = some (if ∀ y ∈ ([x.f1, x.f2, x.f3, x.f4, x.f5] ++ x.f6).drop i, inZ y then 0 else 1) := by
  intro d
  have hlen : ([x.f1, x.f2, x.f3, x.f4, x.f5] ++ x.f6).length ≤ 1005 := by simp; omega
  generalize hL : [x.f1, x.f2, x.f3, x.f4, x.f5] ++ x.f6 = l at *
  induction d with
  | zero =>
    intro k i hi hk
    obtain ⟨k, rfl⟩ : ∃ m, k = m + 1 := ⟨k - 1, by omega⟩
    rw [acceptor_CheckDelta.l41_s, hL, if_neg (by omega), List.drop_eq_nil_of_le (by omega)]
    simp
  | succ d ih =>
    intro k i hi hk
    obtain ⟨k, rfl⟩ : ∃ m, k = m + 1 := ⟨k - 1, by omega⟩
    have h1 : i < l.length := by omega
    rw [acceptor_CheckDelta.l41_s, hL, if_pos (by omega), if_pos (by omega), nth_get _ _ _ h1, w64n i (by omega), acin, Option.bind_some]
    simp only [all_drop inZ l i h1]
    by_cases h : inZ l[i]
    · have h' : (0 ≤ l[i] ∧ l[i] ≤ 2147483647) := h
      rw [if_pos (by simp [h']), ih k (i + 1) (by omega) (by omega)]
      simp [h]
    · have h' : ¬ (0 ≤ l[i] ∧ l[i] ≤ 2147483647) := h
      rw [if_neg (by simp [h'])]
      simp [h]
theorem check_delta (x : S28) (k : Nat) (hl : x.f6.length ≤ 1000) (hk : 1100 < k) : acceptor_CheckDelta.f k x = some (if okD x then 0 else 1) := by
  obtain ⟨k, rfl⟩ : ∃ m, k = m + 1 := ⟨k - 1, by omega⟩
  unfold acceptor_CheckDelta.f
  rw [acin, Option.bind_some]
  by_cases c0 : 1 ≤ x.f0 ∧ x.f0 ≤ 10
  · rw [if_pos (by simp [c0]), bare, Option.bind_some, same_delta _ _ _ (by omega) (by omega), Option.bind_some]
    by_cases c1 : x = bareD x
    · rw [if_pos (decide_eq_true c1), acceptor_CheckDelta.j23_s]
      by_cases c2 : x.f6.length ≤ 3
      · rw [if_neg (by simp; omega), if_pos (by simp; omega)]
        have h := check_l41 x hl ([x.f1, x.f2, x.f3, x.f4, x.f5] ++ x.f6).length k 0 (by omega) (by simp; omega)
        rw [List.drop_zero] at h
        refine Eq.trans h ?_
        by_cases c3 : ∀ y ∈ [x.f1, x.f2, x.f3, x.f4, x.f5] ++ x.f6, inZ y
        · rw [if_pos c3, if_pos (show okD x from ⟨c0, c1, c2, c3⟩)]
        · rw [if_neg c3, if_neg (fun h : okD x => c3 h.2.2.2)]
      · rw [if_pos (by simp; omega), if_neg (fun h : okD x => c2 h.2.2.1)]
    · rw [if_neg (by simpa using c1), acceptor_CheckDelta.j23_s, if_pos rfl, if_neg (fun h : okD x => c1 h.2.1)]
  · rw [if_neg (by simpa using c0), acceptor_CheckDelta.j23_s, if_pos rfl, if_neg (fun h : okD x => c0 h.1)]
/-- The reference's delta. -/
theorem ref_l7 (x : S28) (hl : x.f6.length ≤ 1000) : ∀ (d k i : Nat), i + d = x.f6.length → d + 1001 < k → windroseref16_Delta.l7 k x (i : Int) = some (decide ((∀ y ∈ x.f6.drop i, inZ y) ∧ (1 ≤ x.f0 ∧ x.f0 ≤ 10) ∧ x = bareD x ∧ x.f6.length ≤ 3 ∧ inZ x.f1 ∧ inZ x.f2 ∧ inZ x.f3 ∧ inZ x.f4 ∧ inZ x.f5)) := by
  intro d
  induction d with
  | zero =>
    intro k i hi hk
    obtain ⟨k, rfl⟩ : ∃ m, k = m + 1 := ⟨k - 1, by omega⟩
    rw [windroseref16_Delta.l7_s, if_neg (by omega), List.drop_eq_nil_of_le (by omega)]
    simp only [refbare, refin, Option.bind_some, deltas _ _ k (show x.f6.length < 4611686018427387904 by omega) (by omega)]
    by_cases c0 : 1 ≤ x.f0
    · rw [if_pos (by omega)]
      by_cases c1 : x.f0 ≤ 10
      · rw [if_pos c1]
        by_cases c2 : x = bareD x
        · rw [if_pos (decide_eq_true c2)]
          by_cases c3 : x.f6.length ≤ 3
          · rw [if_pos (by omega)]
            by_cases d1 : inZ x.f1
            · rw [if_pos (decide_eq_true d1)]
              by_cases d2 : inZ x.f2
              · rw [if_pos (decide_eq_true d2)]
                by_cases d3 : inZ x.f3
                · rw [if_pos (decide_eq_true d3)]
                  by_cases d4 : inZ x.f4
                  · rw [if_pos (decide_eq_true d4)]
                    refine congrArg some (decide_eq_decide.2 ⟨fun d5 => ⟨by simp, ⟨c0, c1⟩, c2, c3, d1, d2, d3, d4, d5⟩, fun h => h.2.2.2.2.2.2.2.2⟩)
                  · rw [if_neg (by simpa using d4), decide_eq_false (fun h => d4 h.2.2.2.2.2.2.2.1)]
                · rw [if_neg (by simpa using d3), decide_eq_false (fun h => d3 h.2.2.2.2.2.2.1)]
              · rw [if_neg (by simpa using d2), decide_eq_false (fun h => d2 h.2.2.2.2.2.1)]
            · rw [if_neg (by simpa using d1), decide_eq_false (fun h => d1 h.2.2.2.2.1)]
          · rw [if_neg (by omega), decide_eq_false (fun h => c3 h.2.2.2.1)]
        · rw [if_neg (by simpa using c2), decide_eq_false (fun h => c2 h.2.2.1)]
      · rw [if_neg c1, decide_eq_false (fun h => c1 h.2.1.2)]
    · rw [if_neg (by omega), decide_eq_false (fun h => c0 h.2.1.1)]
  | succ d ih =>
    intro k i hi hk
    obtain ⟨k, rfl⟩ : ∃ m, k = m + 1 := ⟨k - 1, by omega⟩
    have h1 : i < x.f6.length := by omega
    rw [windroseref16_Delta.l7_s, if_pos (by omega), if_pos (by omega), nth_get _ _ _ h1, w64n i (by omega), refin, Option.bind_some]
    by_cases h : inZ x.f6[i]
    · rw [if_pos (decide_eq_true h), ih k (i + 1) (by omega) (by omega)]
      refine congrArg some (decide_eq_decide.2 ?_)
      rw [all_drop inZ x.f6 i h1]
      simp only [h, true_and]
    · rw [if_neg (by simpa using h), decide_eq_false (fun hh => h ((all_drop inZ x.f6 i h1).1 hh.1).1)]
theorem ref_delta (x : S28) (k : Nat) (hl : x.f6.length ≤ 1000) (hk : 2100 < k) : windroseref16_Delta.f k x = some (decide (okD x)) := by
  refine (ref_l7 x hl x.f6.length k 0 (by omega) (by omega)).trans (congrArg some (decide_eq_decide.2 ?_))
  unfold okD
  simp only [List.drop_zero, List.cons_append, List.nil_append, List.mem_cons, forall_eq_or_imp]
  constructor
  · rintro ⟨h0, h1, h2, h3, h4, h5, h6, h7, h8⟩
    exact ⟨h1, h2, h3, h4, h5, h6, h7, h8, h0⟩
  · rintro ⟨h1, h2, h3, h4, h5, h6, h7, h8, h0⟩
    exact ⟨h0, h1, h2, h3, h4, h5, h6, h7, h8⟩
/-! acceptors -/
def emp : S49 := ⟨0, ⟨0, 0, 0, 0, 0, 0, []⟩⟩
theorem emp_eq : (⟨0, ⟨0, 0, 0, 0, 0, 0, []⟩⟩ : S49) = emp := rfl
def okS (p : Int) (s : S49) : Prop := s = emp ∨ ((1 ≤ s.f0 ∧ s.f0 ≤ p) ∧ okD s.f1)
instance (p : Int) (s : S49) : Decidable (okS p s) := inferInstanceAs (Decidable (_ ∨ _))
def few (a : S24) : Prop := ∀ s ∈ a.f1, s.f1.f6.length ≤ 20
theorem check_l32 (a : S24) (hl : a.f1.length ≤ 400) (hf : few a) : ∀ (d k i : Nat), i + d = a.f1.length → 2 * d + 1200 < k → acceptor_Check.l32 k a (i : Int) = some (if ∀ s ∈ a.f1.drop i, okS a.f0 s then 0 else 1) := by
  intro d
  induction d with
  | zero =>
    intro k i hi hk
    obtain ⟨k, rfl⟩ : ∃ m, k = m + 1 := ⟨k - 1, by omega⟩
    rw [acceptor_Check.l32_s, if_neg (by omega), List.drop_eq_nil_of_le (by omega)]
    simp
  | succ d ih =>
    intro k i hi hk
    obtain ⟨k, rfl⟩ : ∃ m, k = m + 2 := ⟨k - 2, by omega⟩
    have h1 : i < a.f1.length := by omega
    have h20 := hf _ (List.getElem_mem h1)
    rw [acceptor_Check.l32_s, if_pos (by omega), if_pos (by omega), nth_get _ _ _ h1]
    simp only [eta28, eta49, emp_eq, acceptor_Check.j65_s]
    rw [w64n i (by omega)]
    rw [same _ _ _ (by omega) (by omega), Option.bind_some, acin, Option.bind_some, check_delta _ _ (by omega) (by omega), Option.bind_some, ih k (i + 1) (by omega) (by omega)]
    simp only [all_drop (okS a.f0) a.f1 i h1]
    by_cases e0 : a.f1[i] = emp
    · rw [if_pos (decide_eq_true e0), if_neg (by simp)]
      have : okS a.f0 a.f1[i] := .inl e0
      simp only [this, true_and]
    · rw [if_neg (by simpa using e0)]
      by_cases e1 : 1 ≤ a.f1[i].f0 ∧ a.f1[i].f0 ≤ a.f0
      · rw [if_pos (decide_eq_true e1)]
        by_cases e2 : okD a.f1[i].f1
        · have : okS a.f0 a.f1[i] := .inr ⟨e1, e2⟩
          rw [if_pos e2, if_neg (by simp)]
          simp only [this, true_and]
        · have : ¬ okS a.f0 a.f1[i] := fun h => h.elim e0 (fun h => e2 h.2)
          rw [if_neg e2, if_pos (by simp)]
          simp only [this, false_and, if_false]
      · have : ¬ okS a.f0 a.f1[i] := fun h => h.elim e0 (fun h => e1 h.1)
        rw [if_neg (by simpa using e1), if_pos trivial]
        simp only [this, false_and, if_false]
def lastOk (l : List S49) : Prop := (nth z49 l ((l.length : Int) - 1)).f0 ≠ 0
def okA (a : S24) : Prop := inZ a.f0 ∧ a.f1.length ≤ 256 ∧ (0 < a.f1.length → lastOk a.f1) ∧ ∀ s ∈ a.f1, okS a.f0 s
instance (l : List S49) : Decidable (lastOk l) := inferInstanceAs (Decidable (_ ≠ _))
instance (a : S24) : Decidable (okA a) := inferInstanceAs (Decidable (_ ∧ _))
theorem w64p (n : Nat) (h : n < 9223372036854775807) : w64 ((n : Int) - 1) = (n : Int) - 1 := w64_of (by omega) (by omega)
theorem check (a : S24) (k : Nat) (hl : a.f1.length ≤ 400) (hf : few a) (hk : 2500 < k) : acceptor_Check.f k a = some (if okA a then 0 else 1) := by
  obtain ⟨k, rfl⟩ : ∃ m, k = m + 1 := ⟨k - 1, by omega⟩
  unfold acceptor_Check.f
  rw [acin, Option.bind_some]
  simp only [acceptor_Check.j22_s]
  have h32 := check_l32 a hl hf a.f1.length k 0 (by omega) (by omega)
  rw [List.drop_zero] at h32
  by_cases c0 : 0 ≤ a.f0 ∧ a.f0 ≤ 2147483647
  · rw [if_pos (decide_eq_true c0)]
    by_cases c1 : a.f1.length ≤ 256
    · rw [if_neg (by omega)]
      by_cases c2 : 0 < a.f1.length
      · rw [if_pos (by omega), w64p _ (by omega), if_pos (by omega)]
        by_cases c3 : lastOk a.f1
        · rw [if_neg (by simpa [lastOk] using c3)]
          refine h32.trans ?_
          by_cases c4 : ∀ s ∈ a.f1, okS a.f0 s
          · rw [if_pos c4, if_pos (show okA a from ⟨c0, c1, fun _ => c3, c4⟩)]
          · rw [if_neg c4, if_neg (fun h : okA a => c4 h.2.2.2)]
        · rw [if_pos (by simpa [lastOk] using c3), if_neg (fun h : okA a => c3 (h.2.2.1 c2))]
      · rw [if_neg (by omega), if_neg (by simp)]
        refine h32.trans ?_
        by_cases c4 : ∀ s ∈ a.f1, okS a.f0 s
        · rw [if_pos c4, if_pos (show okA a from ⟨c0, c1, fun h => absurd h c2, c4⟩)]
        · rw [if_neg c4, if_neg (fun h : okA a => c4 h.2.2.2)]
    · rw [if_pos (by omega), if_pos trivial, if_neg (fun h : okA a => c1 h.2.1)]
  · rw [if_neg (by simpa using c0), if_pos trivial, if_neg (fun h : okA a => c0 h.1)]
theorem emp_f0 {s : S49} (h : s = emp) : s.f0 = 0 := by rw [h]; rfl
theorem may_l7 (a : S24) (hl : a.f1.length ≤ 400) (hf : few a) : ∀ (d k i : Nat), i + d = a.f1.length → 3 * d + 2300 < k → windroseref16_May.l7 k a (i : Int) = some (decide ((∀ s ∈ a.f1.drop i, okS a.f0 s) ∧ (i < a.f1.length → lastOk a.f1) ∧ inZ a.f0 ∧ a.f1.length ≤ 256)) := by
  intro d
  induction d with
  | zero =>
    intro k i hi hk
    obtain ⟨k, rfl⟩ : ∃ m, k = m + 1 := ⟨k - 1, by omega⟩
    rw [windroseref16_May.l7_s, if_neg (by omega), List.drop_eq_nil_of_le (by omega), refin, Option.bind_some]
    by_cases c0 : inZ a.f0
    · rw [if_pos (decide_eq_true c0)]
      refine congrArg some (decide_eq_decide.2 ⟨fun h => ⟨by simp, fun h => by omega, c0, by omega⟩, fun h => by have := h.2.2.2; omega⟩)
    · rw [if_neg (by simpa using c0), decide_eq_false (fun h => c0 h.2.2.1)]
  | succ d ih =>
    intro k i hi hk
    obtain ⟨k, rfl⟩ : ∃ m, k = m + 3 := ⟨k - 3, by omega⟩
    have h1 : i < a.f1.length := by omega
    have h20 := hf _ (List.getElem_mem h1)
    have ih' := ih k (i + 1) (by omega) (by omega)
    have hlast : i + 1 = a.f1.length → nth z49 a.f1 ((a.f1.length : Int) - 1) = a.f1[i] := fun h => by
      rw [show (a.f1.length : Int) - 1 = (i : Int) by omega, nth_get _ _ _ h1]
    rw [windroseref16_May.l7_s, if_pos (by omega), if_pos (by omega), nth_get _ _ _ h1]
    simp only [eta28, eta49, emp_eq, windroseref16_May.j35_s, windroseref16_May.j50_s, nth_get _ _ _ h1]
    rw [w64n i (by omega), w64p _ (by omega), ih', one _ _ _ (by omega) (by omega), Option.bind_some, ref_delta _ _ (by omega) (by omega), Option.bind_some]
    simp only [all_drop (okS a.f0) a.f1 i h1]
    by_cases e0 : a.f1[i].f0 = 0
    · rw [if_pos e0]
      by_cases e1 : a.f1[i] = emp
      · rw [if_pos (decide_eq_true e1)]
        have hok : okS a.f0 a.f1[i] := .inl e1
        by_cases e2 : i + 1 = a.f1.length
        · rw [if_pos (by rw [beq_iff_eq]; omega), decide_eq_false (fun h => (h.2.1 h1) (by rw [hlast e2]; exact e0))]
        · rw [if_neg (by rw [beq_iff_eq]; omega), if_pos e0, if_neg (by simp)]
          refine congrArg some (decide_eq_decide.2 ⟨fun h => ⟨⟨hok, h.1⟩, fun _ => h.2.1 (by omega), h.2.2⟩, fun h => ⟨h.1.2, fun _ => h.2.1 h1, h.2.2⟩⟩)
      · have hno : ¬ okS a.f0 a.f1[i] := fun h => h.elim e1 (fun h => by have := h.1.1; omega)
        rw [if_neg (by simpa using e1), if_pos trivial, decide_eq_false (fun h => hno h.1.1)]
    · have ene : ¬ a.f1[i] = emp := fun h => e0 (emp_f0 h)
      rw [if_neg e0, if_neg (by simp), if_neg e0]
      by_cases e1 : a.f1[i].f0 < 1
      · have hno : ¬ okS a.f0 a.f1[i] := fun h => h.elim ene (fun h => by have := h.1.1; omega)
        rw [if_pos e1, if_pos trivial, decide_eq_false (fun h => hno h.1.1)]
      · rw [if_neg e1]
        by_cases e2 : a.f1[i].f0 > a.f0
        · have hno : ¬ okS a.f0 a.f1[i] := fun h => h.elim ene (fun h => by have := h.1.2; omega)
          rw [if_pos e2, if_pos trivial, decide_eq_false (fun h => hno h.1.1)]
        · rw [if_neg e2]
          by_cases e3 : okD a.f1[i].f1
          · have hok : okS a.f0 a.f1[i] := .inr ⟨⟨by omega, by omega⟩, e3⟩
            rw [if_neg (by simp [e3])]
            refine congrArg some (decide_eq_decide.2 ⟨fun h => ⟨⟨hok, h.1⟩, fun _ => ?_, h.2.2⟩, fun h => ⟨h.1.2, fun _ => h.2.1 h1, h.2.2⟩⟩)
            by_cases e4 : i + 1 = a.f1.length
            · unfold lastOk
              rw [hlast e4]
              exact e0
            · exact h.2.1 (by omega)
          · have hno : ¬ okS a.f0 a.f1[i] := fun h => h.elim ene (fun h => e3 h.2)
            rw [if_pos (by simp [e3]), decide_eq_false (fun h => hno h.1.1)]
theorem may (a : S24) (k : Nat) (hl : a.f1.length ≤ 400) (hf : few a) (hk : 3600 < k) : windroseref16_May.f k a = some (decide (okA a)) := by
  refine (may_l7 a hl hf a.f1.length k 0 (by omega) (by omega)).trans (congrArg some (decide_eq_decide.2 ?_))
  unfold okA
  rw [List.drop_zero]
  constructor
  · rintro ⟨h1, h2, h3, h4⟩
    exact ⟨h3, h4, h2, h1⟩
  · rintro ⟨h3, h4, h2, h1⟩
    exact ⟨h1, h2, h3, h4⟩
/-! copies -/
theorem copied_l19 (l : List S49) (hl : l.length ≤ 400) (hf : ∀ s ∈ l, s.f1.f6.length ≤ 20) : ∀ (d k i : Nat), i + d = l.length → d < k → acceptor_copied.l19 k l l (i : Int) = some l := by
  intro d
  induction d with
  | zero =>
    intro k i hi hk
    obtain ⟨k, rfl⟩ : ∃ m, k = m + 1 := ⟨k - 1, by omega⟩
    rw [acceptor_copied.l19_s, if_neg (by omega)]
  | succ d ih =>
    intro k i hi hk
    obtain ⟨k, rfl⟩ : ∃ m, k = m + 1 := ⟨k - 1, by omega⟩
    have h1 : i < l.length := by omega
    have h20 := hf _ (List.getElem_mem h1)
    have hc : slices_Clone__int_int.f l[i].f1.f6 = some l[i].f1.f6 := by
      unfold slices_Clone__int_int.f
      rw [if_pos (by simp; omega), List.nil_append]
    rw [acceptor_copied.l19_s, if_pos (by omega), if_pos (by omega), nth_get _ _ _ h1, hc, Option.bind_some]
    simp only [eta28, eta49, Int.toNat_natCast]
    rw [w64n i (by omega), List.set_getElem_self, ih k (i + 1) (by omega) (by omega)]
theorem copied (l : List S49) (k : Nat) (hl : l.length ≤ 400) (hf : ∀ s ∈ l, s.f1.f6.length ≤ 20) (hk : 400 < k) : acceptor_copied.f k l = some l := by
  unfold acceptor_copied.f slices_Clone__api_Accepted_api_Accepted.f
  rw [if_pos (by simp; omega), Option.bind_some, List.nil_append]
  exact copied_l19 l hl hf l.length k 0 (by omega) (by omega)
/-! lists, acceptors alike -/
theorem list_l9 (a b : List S49) (hab : a.length = b.length) (hl : a.length ≤ 400) (hf : ∀ s ∈ a, s.f1.f6.length ≤ 20) : ∀ (d k i : Nat), i + d = a.length → d + 30 < k → windroseref16_List.l9 k a b (i : Int) = some (decide (a.drop i = b.drop i)) := by
  intro d
  induction d with
  | zero =>
    intro k i hi hk
    obtain ⟨k, rfl⟩ : ∃ m, k = m + 1 := ⟨k - 1, by omega⟩
    rw [windroseref16_List.l9_s, if_neg (by omega), List.drop_eq_nil_of_le (by omega), List.drop_eq_nil_of_le (by omega)]
    rfl
  | succ d ih =>
    intro k i hi hk
    obtain ⟨k, rfl⟩ : ∃ m, k = m + 1 := ⟨k - 1, by omega⟩
    have h1 : i < a.length := by omega
    have h2 : i < b.length := by omega
    have h20 := hf _ (List.getElem_mem h1)
    rw [windroseref16_List.l9_s, if_pos (by omega), if_pos (by omega), if_pos (by omega), nth_get _ _ _ h1, nth_get _ _ _ h2]
    simp only [eta28, eta49]
    rw [w64n i (by omega), one _ _ _ (by omega) (by omega), Option.bind_some]
    by_cases h : a[i] = b[i]
    · rw [if_pos (decide_eq_true h), ih k (i + 1) (by omega) (by omega)]
      simp only [drop_eq a b i h1 h2, h, true_and]
    · rw [if_neg (by simpa using h)]
      simp only [drop_eq a b i h1 h2, h, false_and, decide_false]
theorem list_f (a b : List S49) (k : Nat) (hl : a.length ≤ 400) (hf : ∀ s ∈ a, s.f1.f6.length ≤ 20) (hk : 500 < k) : windroseref16_List.f k a b = some (decide (a = b)) := by
  unfold windroseref16_List.f
  by_cases h : a.length = b.length
  · rw [if_pos (by omega)]
    exact list_l9 a b h hl hf a.length k 0 (by omega) (by omega)
  · rw [if_neg (by omega)]
    have : ¬ a = b := fun e => h (by rw [e])
    simp [this]
theorem func_l9 (a b : List S49) (hab : a.length = b.length) (hl : a.length ≤ 400) (hf : ∀ s ∈ a, s.f1.f6.length ≤ 20) : ∀ (d k i : Nat), i + d = a.length → d + 30 < k → slices_EqualFunc__api_Accepted_api_Accepted_api_Accepted_api_Accepted_of_acceptor_same.l9 k a b (i : Int) = some (decide (a.drop i = b.drop i)) := by
  intro d
  induction d with
  | zero =>
    intro k i hi hk
    obtain ⟨k, rfl⟩ : ∃ m, k = m + 1 := ⟨k - 1, by omega⟩
    rw [slices_EqualFunc__api_Accepted_api_Accepted_api_Accepted_api_Accepted_of_acceptor_same.l9_s, if_neg (by omega), List.drop_eq_nil_of_le (by omega), List.drop_eq_nil_of_le (by omega)]
    rfl
  | succ d ih =>
    intro k i hi hk
    obtain ⟨k, rfl⟩ : ∃ m, k = m + 1 := ⟨k - 1, by omega⟩
    have h1 : i < a.length := by omega
    have h2 : i < b.length := by omega
    have h20 := hf _ (List.getElem_mem h1)
    rw [slices_EqualFunc__api_Accepted_api_Accepted_api_Accepted_api_Accepted_of_acceptor_same.l9_s, if_pos (by omega), if_pos (by omega), if_pos (by omega), nth_get _ _ _ h1, nth_get _ _ _ h2]
    simp only [eta28, eta49]
    rw [w64n i (by omega), same _ _ _ (by omega) (by omega), Option.bind_some]
    by_cases h : a[i] = b[i]
    · rw [if_pos (decide_eq_true h), ih k (i + 1) (by omega) (by omega)]
      simp only [drop_eq a b i h1 h2, h, true_and]
    · rw [if_neg (by simpa using h)]
      simp only [drop_eq a b i h1 h2, h, false_and, decide_false]
theorem func_f (a b : List S49) (k : Nat) (hl : a.length ≤ 400) (hf : ∀ s ∈ a, s.f1.f6.length ≤ 20) (hk : 500 < k) : slices_EqualFunc__api_Accepted_api_Accepted_api_Accepted_api_Accepted_of_acceptor_same.f k a b = some (decide (a = b)) := by
  unfold slices_EqualFunc__api_Accepted_api_Accepted_api_Accepted_api_Accepted_of_acceptor_same.f
  by_cases h : a.length = b.length
  · rw [if_pos (by omega)]
    exact func_l9 a b h hl hf a.length k 0 (by omega) (by omega)
  · rw [if_neg (by omega)]
    have : ¬ a = b := fun e => h (by rw [e])
    simp [this]
theorem eq24 (x y : S24) : (x = y) ↔ (x.f0 = y.f0 ∧ x.f1 = y.f1) := by
  cases x
  cases y
  simp only [S24.mk.injEq]
theorem sameA (a b : S24) (k : Nat) (hl : a.f1.length ≤ 400) (hf : few a) (hk : 500 < k) : windroseref16_Same.f k a b = some (decide (a = b)) := by
  unfold windroseref16_Same.f
  simp only [list_f _ _ k hl hf hk, Option.bind_some, eq24]
  split <;> simp [*]
theorem acSame (a b : S24) (k : Nat) (hl : a.f1.length ≤ 400) (hf : few a) (hk : 500 < k) : acceptor_Same.f k a b = some (decide (a = b)) := by
  unfold acceptor_Same.f
  simp only [func_f _ _ k hl hf hk, Option.bind_some, eq24]
  split <;> simp [*]
theorem awake (k : Nat) : windroselaw16_awake.f (k + 100) = some true := by kernel_rfl
theorem light_l7 (a : S24) : ∀ (d k i : Nat), i + d = 300 → 2 * d + 2 < k → (∀ j (h : j < a.f1.length), j < i → (a.f1[j]).f1.f6.length ≤ 20) → ∃ b, windroselaw16_Light.l7 k a (i : Int) = some b ∧ (b = true → a.f1.length ≤ 300 ∧ few a) := by
  intro d
  induction d with
  | zero =>
    intro k i hi hk hf
    obtain ⟨k, rfl⟩ : ∃ m, k = m + 2 := ⟨k - 2, by omega⟩
    rw [windroselaw16_Light.l7_s]
    simp only [windroselaw16_Light.j15_s]
    by_cases h : (i : Int) < (a.f1.length : Int)
    · rw [if_pos h, if_neg (by simp; omega)]
      exact ⟨_, rfl, fun hb => by have := of_decide_eq_true hb; omega⟩
    · rw [if_neg h, if_neg (by simp)]
      refine ⟨_, rfl, fun hb => ⟨by have := of_decide_eq_true hb; omega, fun s hs => ?_⟩⟩
      obtain ⟨j, hj, rfl⟩ := List.getElem_of_mem hs
      exact hf j hj (by omega)
  | succ d ih =>
    intro k i hi hk hf
    obtain ⟨k, rfl⟩ : ∃ m, k = m + 2 := ⟨k - 2, by omega⟩
    rw [windroselaw16_Light.l7_s]
    simp only [windroselaw16_Light.j15_s]
    by_cases h : (i : Int) < (a.f1.length : Int)
    · have h1 : i < a.f1.length := by omega
      rw [if_pos h, if_pos (by simp; omega), if_pos (by omega), nth_get _ _ _ h1]
      by_cases h2 : ((a.f1[i]).f1.f6.length : Int) > 20
      · rw [if_pos h2]
        exact ⟨_, rfl, fun hb => by cases hb⟩
      · rw [if_neg h2, w64n i (by omega)]
        refine ih k (i + 1) (by omega) (by omega) (fun j hj hji => ?_)
        rcases Nat.lt_or_ge j i with hlt | hge
        · exact hf j hj hlt
        · obtain rfl : j = i := by omega
          omega
    · rw [if_neg h, if_neg (by simp)]
      refine ⟨_, rfl, fun hb => ⟨by have := of_decide_eq_true hb; omega, fun s hs => ?_⟩⟩
      obtain ⟨j, hj, rfl⟩ := List.getElem_of_mem hs
      exact hf j hj (by omega)
theorem light (a : S24) (k : Nat) (hk : 700 < k) : ∃ b, windroselaw16_Light.f k a = some b ∧ (b = true → a.f1.length ≤ 300 ∧ few a) :=
  light_l7 a 300 k 0 (by omega) (by omega) (fun j _ h => by omega)
/-! to prepare -/
def inP (x y : Int) : Prop := (1 ≤ x ∧ x ≤ 2147483647) ∧ (1 ≤ y ∧ y ≤ 257)
instance (x y : Int) : Decidable (inP x y) := inferInstanceAs (Decidable (_ ∧ _))
/-- What is told of one asked to prepare, where the acceptor may be. -/
def prepR (a : S24) (x y : Int) : S24 × (List S49) × Int := if inP x y then if x < a.f0 then (a, [], 9) else (⟨x, a.f1⟩, a.f1.drop (y - 1).toNat, 0) else (a, [], 1)
theorem prepare (a : S24) (x y : Int) (k : Nat) (hl : a.f1.length ≤ 300) (hf : few a) (hk : 3000 < k) : acceptor_Prepare.f k a x y = some (if okA a then prepR a x y else (⟨0, []⟩, [], 1)) := by
  obtain ⟨k, rfl⟩ : ∃ m, k = m + 1 := ⟨k - 1, by omega⟩
  unfold acceptor_Prepare.f
  rw [check a _ (by omega) hf (by omega), Option.bind_some]
  by_cases ha : okA a
  · rw [if_pos ha, if_pos ha, if_pos rfl, copied _ _ (by omega) hf (by omega), Option.bind_some, acin, Option.bind_some, acin, Option.bind_some]
    simp only [acceptor_Prepare.j35_s, eta24]
    unfold prepR
    by_cases c0 : 1 ≤ x ∧ x ≤ 2147483647
    · rw [if_pos (decide_eq_true c0)]
      by_cases c1 : 1 ≤ y ∧ y ≤ 257
      · rw [if_neg (by simp [c1]), if_pos (show inP x y from ⟨c0, c1⟩)]
        by_cases c2 : x < a.f0
        · rw [if_pos c2, if_pos c2]
        · rw [if_neg c2, if_neg c2, w64_of (by omega) (by omega)]
          have hc : cutl a.f1 (if (a.f1.length : Int) < y - 1 then (a.f1.length : Int) else y - 1) (a.f1.length : Int) = a.f1.drop (y - 1).toNat := by
            unfold cutl
            split
            · rw [List.drop_eq_nil_of_le (by simp), List.drop_eq_nil_of_le (by omega)]
            · simp
          rw [if_pos (by split <;> omega), hc, copied _ _ (by rw [List.length_drop]; omega) (fun s hs => hf s (List.mem_of_mem_drop hs)) (by omega), Option.bind_some]
      · rw [if_pos (by rw [decide_eq_false c1]; rfl), if_neg (fun h : inP x y => c1 h.2)]
    · rw [if_neg (by simpa using c0), if_pos trivial, if_neg (fun h : inP x y => c0 h.1)]
  · rw [if_neg ha, if_neg ha, if_neg (by decide)]
theorem ref_l44 (a : S24) (x : Int) (hl : a.f1.length ≤ 300) : ∀ (d k i : Nat) (acc : List S49), a.f1.length ≤ i + d → d + 1 < k → acc.length + d ≤ 1000 → i ≤ 1000 → windroseref16_Prepare.l44 k a x acc (i : Int) = some (⟨x, a.f1⟩, acc ++ a.f1.drop i, 0) := by
  intro d
  induction d with
  | zero =>
    intro k i acc hi hk hacc hi2
    obtain ⟨k, rfl⟩ : ∃ m, k = m + 1 := ⟨k - 1, by omega⟩
    rw [windroseref16_Prepare.l44_s, if_neg (by omega), List.drop_eq_nil_of_le (by omega), List.append_nil]
  | succ d ih =>
    intro k i acc hi hk hacc hi2
    obtain ⟨k, rfl⟩ : ∃ m, k = m + 1 := ⟨k - 1, by omega⟩
    rw [windroseref16_Prepare.l44_s]
    by_cases h : i < a.f1.length
    · rw [if_pos (by omega), if_pos (by omega), if_pos (by omega), nth_get _ _ _ h]
      simp only [eta28, eta49]
      rw [w64n i (by omega), ih k (i + 1) _ (by omega) (by omega) (by simp; omega) (by omega), List.drop_eq_getElem_cons h, List.append_assoc]
      rfl
    · rw [if_neg (by omega), List.drop_eq_nil_of_le (by omega), List.append_nil]
theorem ref_prepare (a : S24) (x y : Int) (k : Nat) (hl : a.f1.length ≤ 300) (hk : 3000 < k) : windroseref16_Prepare.f k a x y = some (prepR a x y) := by
  obtain ⟨k, rfl⟩ : ∃ m, k = m + 1 := ⟨k - 1, by omega⟩
  unfold windroseref16_Prepare.f prepR
  rw [refin, Option.bind_some]
  simp only [windroseref16_Prepare.j15_s]
  by_cases c0 : x < 1
  · rw [if_pos c0, if_pos trivial, if_neg (fun h : inP x y => by have := h.1.1; omega)]
  · rw [if_neg c0]
    by_cases c1 : inZ x
    · rw [if_pos (decide_eq_true c1)]
      by_cases c2 : y < 1
      · rw [if_pos c2, if_pos trivial, if_neg (fun h : inP x y => by have := h.2.1; omega)]
      · rw [if_neg c2]
        by_cases c3 : y > 257
        · rw [if_pos (decide_eq_true c3), if_neg (fun h : inP x y => by have := h.2.2; omega)]
        · rw [if_neg (by simpa using c3), if_pos (show inP x y from ⟨⟨by omega, c1.2⟩, by omega, by omega⟩)]
          by_cases c4 : x < a.f0
          · rw [if_pos c4, if_pos c4]
          · rw [if_neg c4, if_neg c4, w64_of (by omega) (by omega)]
            obtain ⟨i, hi⟩ : ∃ i : Nat, y - 1 = i := ⟨(y - 1).toNat, by omega⟩
            rw [hi, ref_l44 a x hl 300 k i [] (by omega) (by omega) (by simp) (by omega), List.nil_append, Int.toNat_natCast]
    · rw [if_neg (by simpa using c1), if_pos trivial, if_neg (fun h : inP x y => c1 ⟨by have := h.1.1; omega, h.1.2⟩)]
/-! to accept -/
def inQ (x y : Int) (d : S28) : Prop := (1 ≤ x ∧ x ≤ 2147483647) ∧ (1 ≤ y ∧ y ≤ 256) ∧ okD d
instance (x y : Int) (d : S28) : Decidable (inQ x y d) := inferInstanceAs (Decidable (_ ∧ _))
def pad (l : List S49) (y : Int) : List S49 := l ++ List.replicate (y - (l.length : Int)).toNat z49
def newL (l : List S49) (x y : Int) (d : S28) : List S49 := (pad l y).set (y - 1).toNat ⟨x, d⟩
def accR (a : S24) (x y : Int) (d : S28) : S24 × Int := if inQ x y d then if x < a.f0 then (a, 9) else (⟨x, newL a.f1 x y d⟩, 0) else (a, 1)
theorem pad_length (l : List S49) (y : Int) : (pad l y).length = l.length + (y - (l.length : Int)).toNat := by simp [pad]
theorem newL_length (l : List S49) (x y : Int) (d : S28) : (newL l x y d).length = l.length + (y - (l.length : Int)).toNat := by simp [newL, pad_length]
theorem newL_get (l : List S49) (x y : Int) (d : S28) (hy : 1 ≤ y) (i : Nat) (h : i < (newL l x y d).length) : (newL l x y d)[i] = if (i : Int) = y - 1 then ⟨x, d⟩ else if h : i < l.length then l[i] else emp := by
  have hl := newL_length l x y d
  have hp := pad_length l y
  have h' : i < ((pad l y).set (y - 1).toNat (⟨x, d⟩ : S49)).length := h
  show ((pad l y).set (y - 1).toNat (⟨x, d⟩ : S49))[i] = _
  rw [List.getElem_set]
  by_cases h1 : (y - 1).toNat = i
  · by_cases h0 : 1 ≤ y
    · rw [if_pos h1, if_pos (by omega)]
    · omega
  · rw [if_neg h1, if_neg (by omega)]
    have h2 : i < (l ++ List.replicate (y - (l.length : Int)).toNat z49).length := by
      have : i < (pad l y).length := by omega
      exact this
    show (l ++ List.replicate (y - (l.length : Int)).toNat z49)[i] = _
    rw [List.getElem_append]
    split
    · rfl
    · rw [List.getElem_replicate]
      rfl
theorem clone_ints (l : List Int) (h : l.length ≤ 1000) : slices_Clone__int_int.f l = some l := by
  unfold slices_Clone__int_int.f
  rw [if_pos (by simp; omega), List.nil_append]
theorem accept (a : S24) (x y : Int) (d : S28) (k : Nat) (hl : a.f1.length ≤ 300) (hf : few a) (hd : d.f6.length ≤ 20) (hk : 3000 < k) : acceptor_Accept.f k a x y d = some (if okA a then accR a x y d else (⟨0, []⟩, 1)) := by
  obtain ⟨k, rfl⟩ : ∃ m, k = m + 2 := ⟨k - 2, by omega⟩
  unfold acceptor_Accept.f
  rw [check a _ (by omega) hf (by omega), Option.bind_some]
  by_cases ha : okA a
  · rw [if_pos ha, if_pos ha, if_pos rfl, copied _ _ (by omega) hf (by omega), Option.bind_some, acin, Option.bind_some, acin, Option.bind_some, check_delta _ _ (by omega) (by omega), Option.bind_some]
    simp only [acceptor_Accept.j41_s, acceptor_Accept.j68_s, eta24, clone_ints d.f6 (by omega), Option.bind_some, eta28]
    unfold accR
    by_cases c0 : 1 ≤ x ∧ x ≤ 2147483647
    · rw [if_pos (decide_eq_true c0)]
      by_cases c1 : 1 ≤ y ∧ y ≤ 256
      · rw [if_pos (decide_eq_true c1)]
        by_cases cd : okD d
        · rw [if_pos cd, if_neg (by simp), if_pos (show inQ x y d from ⟨c0, c1, cd⟩)]
          by_cases c2 : x < a.f0
          · rw [if_pos c2, if_pos c2]
          · have hpl := pad_length a.f1 y
            rw [if_neg c2, if_neg c2, w64_of (n := y - 1) (by omega) (by omega), w64_of (by omega) (by omega)]
            by_cases c3 : y - (a.f1.length : Int) > 0
            · rw [if_pos c3, if_pos (by omega), if_pos ⟨by omega, by show y - 1 < ((pad a.f1 y).length : Int); omega⟩]
              rfl
            · have hp : pad a.f1 y = a.f1 := by
                unfold pad
                rw [show (y - (a.f1.length : Int)).toNat = 0 by omega, List.replicate_zero, List.append_nil]
              rw [if_neg c3, if_pos ⟨by omega, by omega⟩]
              unfold newL
              rw [hp]
        · rw [if_neg cd, if_pos (by simp), if_neg (fun h : inQ x y d => cd h.2.2)]
      · rw [if_neg (by simpa using c1), if_pos trivial, if_neg (fun h : inQ x y d => c1 h.2.1)]
    · rw [if_neg (by simpa using c0), if_pos trivial, if_neg (fun h : inQ x y d => c0 h.1)]
  · rw [if_neg ha, if_neg ha, if_neg (by decide)]
theorem ref_l46 (a : S24) (x y : Int) (dl : S28) (hl : a.f1.length ≤ 300) (hy : 1 ≤ y ∧ y ≤ 256) : ∀ (d k i : Nat) (acc : List S49), i + d = (newL a.f1 x y dl).length → 4 * d + 2 < k → acc.length + d ≤ 1000 → i ≤ 1000 → windroseref16_Accept.l46 k a x y dl acc (i : Int) = some (⟨x, acc ++ (newL a.f1 x y dl).drop i⟩, 0) := by
  intro d
  have hlen := newL_length a.f1 x y dl
  induction d with
  | zero =>
    intro k i acc hi hk hacc hi2
    obtain ⟨k, rfl⟩ : ∃ m, k = m + 2 := ⟨k - 2, by omega⟩
    rw [windroseref16_Accept.l46_s, if_neg (by omega), windroseref16_Accept.j54_s, if_neg (by simp; omega), List.drop_eq_nil_of_le (by omega), List.append_nil]
  | succ d ih =>
    intro k i acc hi hk hacc hi2
    obtain ⟨k, rfl⟩ : ∃ m, k = m + 4 := ⟨k - 4, by omega⟩
    have h1 : i < (newL a.f1 x y dl).length := by omega
    have hj : windroseref16_Accept.l46 (k + 4) a x y dl acc (i : Int) = windroseref16_Accept.j54 (k + 3) a x y dl acc (i : Int) true := by
      rw [windroseref16_Accept.l46_s]
      by_cases h : (i : Int) < (a.f1.length : Int)
      · rw [if_pos h]
      · rw [if_neg h, decide_eq_true (by omega)]
    have hrest : windroseref16_Accept.l46 k a x y dl (acc ++ [(newL a.f1 x y dl)[i]]) ((i + 1 : Nat) : Int) = some (⟨x, acc ++ (newL a.f1 x y dl).drop i⟩, 0) := by
      rw [ih k (i + 1) _ (by omega) (by omega) (by simp; omega) (by omega), List.drop_eq_getElem_cons h1, List.append_assoc]
      rfl
    have hg := newL_get a.f1 x y dl hy.1 i h1
    rw [hj, windroseref16_Accept.j54_s, if_pos rfl]
    simp only [windroseref16_Accept.j88_s, windroseref16_Accept.j108_s, w64_of (n := y - 1) (by omega) (by omega), eta28, eta49]
    rw [w64n i (by omega)]
    by_cases e0 : (i : Int) = y - 1
    · rw [if_pos e0] at hg
      rw [hg] at hrest
      by_cases h : (i : Int) < (a.f1.length : Int)
      · rw [if_pos h, if_pos (by omega), if_pos e0, if_pos (by omega)]
        exact hrest
      · rw [if_neg h, if_pos e0, if_pos (by omega)]
        exact hrest
    · rw [if_neg e0] at hg
      by_cases h : (i : Int) < (a.f1.length : Int)
      · have h2 : i < a.f1.length := by omega
        rw [dif_pos h2] at hg
        rw [hg] at hrest
        rw [if_pos h, if_pos (by omega), if_neg e0, if_pos (by omega), nth_get _ _ _ h2]
        exact hrest
      · rw [dif_neg (by omega)] at hg
        rw [hg] at hrest
        rw [if_neg h, if_neg e0, if_pos (by omega)]
        exact hrest
theorem ref_accept (a : S24) (x y : Int) (d : S28) (k : Nat) (hl : a.f1.length ≤ 300) (hd : d.f6.length ≤ 20) (hk : 4000 < k) : windroseref16_Accept.f k a x y d = some (accR a x y d) := by
  obtain ⟨k, rfl⟩ : ∃ m, k = m + 1 := ⟨k - 1, by omega⟩
  unfold windroseref16_Accept.f accR
  rw [refin, Option.bind_some, ref_delta _ _ (by omega) (by omega), Option.bind_some]
  simp only [windroseref16_Accept.j21_s]
  by_cases c0 : x < 1
  · rw [if_pos c0, if_pos trivial, if_neg (fun h : inQ x y d => by have := h.1.1; omega)]
  · rw [if_neg c0]
    by_cases c1 : inZ x
    · rw [if_pos (decide_eq_true c1)]
      by_cases c2 : y < 1
      · rw [if_pos c2, if_pos trivial, if_neg (fun h : inQ x y d => by have := h.2.1.1; omega)]
      · rw [if_neg c2]
        by_cases c3 : y > 256
        · rw [if_pos c3, if_pos trivial, if_neg (fun h : inQ x y d => by have := h.2.1.2; omega)]
        · rw [if_neg c3]
          by_cases cd : okD d
          · rw [if_neg (by simp [cd]), if_pos (show inQ x y d from ⟨⟨by omega, c1.2⟩, ⟨by omega, by omega⟩, cd⟩)]
            by_cases c4 : x < a.f0
            · rw [if_pos c4, if_pos c4]
            · rw [if_neg c4, if_neg c4]
              have hlen := newL_length a.f1 x y d
              exact (ref_l46 a x y d hl ⟨by omega, by omega⟩ (newL a.f1 x y d).length k 0 [] (by omega) (by omega) (by simp; omega) (by omega)).trans (by rw [List.nil_append, List.drop_zero])
          · rw [if_pos (by simp [cd]), if_neg (fun h : inQ x y d => cd h.2.2)]
    · rw [if_neg (by simpa using c1), if_pos trivial, if_neg (fun h : inQ x y d => c1 ⟨by have := h.1.1; omega, h.1.2⟩)]
theorem okS_mono {p p' : Int} {s : S49} (h : okS p s) (hp : p ≤ p') : okS p' s := h.imp id (fun h => ⟨⟨h.1.1, by have := h.1.2; omega⟩, h.2⟩)
theorem prep_ok (a : S24) (x y : Int) (ha : okA a) (hf : few a) : okA (prepR a x y).1 ∧ few (prepR a x y).1 ∧ (∀ s ∈ (prepR a x y).2.1, s.f1.f6.length ≤ 20) ∧ (prepR a x y).2.1.length ≤ 300 := by
  have hl := ha.2.1
  unfold prepR
  split
  · rename_i hin
    split
    · exact ⟨ha, hf, by simp, by simp⟩
    · rename_i hx
      have hx1 := hin.1
      refine ⟨⟨⟨show 0 ≤ x by omega, hin.1.2⟩, hl, ha.2.2.1, fun s hs => okS_mono (ha.2.2.2 s hs) (show a.f0 ≤ x by omega)⟩, hf, fun s hs => hf s (List.mem_of_mem_drop hs), ?_⟩
      rw [List.length_drop]
      omega
  · exact ⟨ha, hf, by simp, by simp⟩
theorem acc_ok (a : S24) (x y : Int) (d : S28) (ha : okA a) (hf : few a) (hd : d.f6.length ≤ 20) : okA (accR a x y d).1 ∧ few (accR a x y d).1 := by
  have hl := ha.2.1
  unfold accR
  split
  · rename_i hin
    split
    · exact ⟨ha, hf⟩
    · rename_i hx
      have hy := hin.2.1
      have hx1 := hin.1
      have hlen := newL_length a.f1 x y d
      have hel : ∀ s ∈ newL a.f1 x y d, okS x s ∧ s.f1.f6.length ≤ 20 := fun s hs => by
        obtain ⟨i, hi, rfl⟩ := List.getElem_of_mem hs
        rw [newL_get a.f1 x y d hy.1 i hi]
        split
        · exact ⟨.inr ⟨⟨hx1.1, Int.le_refl _⟩, hin.2.2⟩, hd⟩
        · split
          · rename_i h2
            exact ⟨okS_mono (ha.2.2.2 _ (List.getElem_mem h2)) (by omega), hf _ (List.getElem_mem h2)⟩
          · exact ⟨.inl rfl, by decide⟩
      refine ⟨⟨⟨show 0 ≤ x by omega, hx1.2⟩, ?_, fun _ => ?_, fun s hs => (hel s hs).1⟩, fun s hs => (hel s hs).2⟩
      · show (newL a.f1 x y d).length ≤ 256
        omega
      · show (nth z49 (newL a.f1 x y d) (((newL a.f1 x y d).length : Int) - 1)).f0 ≠ 0
        have hp : (newL a.f1 x y d).length - 1 < (newL a.f1 x y d).length := by omega
        rw [show ((newL a.f1 x y d).length : Int) - 1 = (((newL a.f1 x y d).length - 1 : Nat) : Int) by omega, nth_get _ _ _ hp, newL_get a.f1 x y d hy.1 _ hp]
        split
        · show x ≠ 0
          omega
        · rename_i hne
          have h2 : (newL a.f1 x y d).length - 1 < a.f1.length := by omega
          rw [dif_pos h2]
          have hla := ha.2.2.1 (by omega)
          unfold lastOk at hla
          rw [show (a.f1.length : Int) - 1 = (((newL a.f1 x y d).length - 1 : Nat) : Int) by omega, nth_get _ _ _ h2] at hla
          exact hla
  · exact ⟨ha, hf⟩
theorem law_j68 (a : S24) (x : S25) (d : S28) (k : Nat) (hl : a.f1.length ≤ 300) (hf : few a) (hd : d.f6.length ≤ 20) (hk : 5000 < k) : windroselaw16_AcceptorTurns.j68 (k + 1) a x d (if okA a then prepR a x.f0 x.f1 else (⟨0, []⟩, [], 1)) (if okA a then accR a x.f0 x.f2 d else (⟨0, []⟩, 1)) false = some true := by
  obtain ⟨k, rfl⟩ : ∃ m, k = m + 100 := ⟨k - 100, by omega⟩
  rw [windroselaw16_AcceptorTurns.j68_s, if_neg (by simp), may a _ (by omega) hf (by omega), Option.bind_some]
  by_cases ha : okA a
  · simp only [if_pos ha]
    obtain ⟨p1, p2, p3, p4⟩ := prep_ok a x.f0 x.f1 ha hf
    obtain ⟨q1, q2⟩ := acc_ok a x.f0 x.f2 d ha hf hd
    rw [if_pos (decide_eq_true ha), ref_prepare _ _ _ _ hl (by omega), Option.bind_some, ref_accept _ _ _ _ _ hl hd (by omega), Option.bind_some]
    generalize prepR a x.f0 x.f1 = p at *
    generalize accR a x.f0 x.f2 d = q at *
    have hp1 := p1.2.1
    have hq1 := q1.2.1
    rw [if_pos rfl, list_f _ _ _ (by omega) p3 (by omega), Option.bind_some, if_pos (by simp), sameA _ _ _ (by omega) p2 (by omega), Option.bind_some, if_pos (by simp), if_pos rfl, sameA _ _ _ (by omega) q2 (by omega), Option.bind_some, if_pos (by simp),
      may _ _ (by omega) p2 (by omega), Option.bind_some, if_pos (decide_eq_true p1), may _ _ (by omega) q2 (by omega), Option.bind_some, if_pos (decide_eq_true q1), acSame _ _ _ (by omega) p2 (by omega), Option.bind_some, sameA _ _ _ (by omega) p2 (by omega), Option.bind_some, if_pos rfl, awake, Option.bind_some]
  · simp only [if_neg ha]
    rw [if_neg (by simpa using ha), if_pos trivial, if_pos trivial, if_pos (by simp), sameA _ _ _ (by simp) (by simp [few]) (by omega), Option.bind_some, if_pos (by simp), Option.bind_some, if_pos (by simp), awake, Option.bind_some]
end Turns
open Turns
theorem pureAcceptorTurns : PureAcceptorTurns := by
  intro a x d _ _ _
  obtain ⟨k, hk⟩ : ∃ k : Nat, 5000 < k := ⟨5001, by omega⟩
  refine ⟨k + 2, ?_⟩
  unfold windroselaw16_AcceptorTurns.f
  obtain ⟨b, hb, hlf⟩ := light a (k + 2) (by omega)
  rw [hb, Option.bind_some]
  have key : ∀ y : Bool, (y = false → b = true ∧ d.f6.length ≤ 20) → windroselaw16_AcceptorTurns.j15 (k + 2) a x d y = some true := by
    intro y hy
    rw [windroselaw16_AcceptorTurns.j15_s]
    cases y with
    | true =>
      obtain ⟨m, rfl⟩ : ∃ m, k = m + 100 := ⟨k - 100, by omega⟩
      rw [if_pos rfl, show m + 100 + 1 = (m + 1) + 100 by omega, awake, Option.bind_some]
    | false =>
      obtain ⟨hb1, hd⟩ := hy rfl
      obtain ⟨hl, hf⟩ := hlf hb1
      rw [if_neg (by simp), prepare _ _ _ _ hl hf (by omega), Option.bind_some, accept _ _ _ _ _ hl hf hd (by omega), Option.bind_some, check _ _ (by omega) hf (by omega), Option.bind_some, may _ _ (by omega) hf (by omega), Option.bind_some]
      have e1 : ((if okA a then (0 : Int) else 1) == 0) = decide (okA a) := by
        split <;> simp [*]
      have e2 : ((if okD d then (0 : Int) else 1) == 0) = decide (okD d) := by
        split <;> simp [*]
      rw [if_pos e1, check_delta _ _ (by omega) (by omega), Option.bind_some, ref_delta _ _ (by omega) (by omega), Option.bind_some, e2]
      rw [show (!(decide (okD d) == decide (okD d))) = false by simp]
      exact law_j68 a x d k hl hf hd hk
  by_cases hb1 : b = true
  · rw [if_pos hb1]
    refine key _ (fun h => ⟨hb1, ?_⟩)
    have := of_decide_eq_false h
    omega
  · rw [if_neg hb1]
    exact key true (fun h => by cases h)
end Go.Proofs.Ytilgmccdpddeoaa.SX
