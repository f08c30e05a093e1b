/- The law PlaceRules, plain. -/
import Derived.Test.YtihjknnhbgkinaaSIoPlaceRules
namespace Go.Proofs.Ytihjknnhbgkinaa.SI
open Go Go.RowKit Go.Proofs.Ytihjknnhbgkinaa.Sl
set_option linter.unusedVariables false
set_option linter.unusedSimpArgs false
namespace Place
theorem w64n (i : Nat) (h : i < 9223372036854775807) : w64 ((i : Int) + 1) = ((i + 1 : Nat) : Int) := by rw [w64_of (by omega) (by omega)]; omega
theorem nth_get {α : Type} (z : α) (l : List α) (i : Nat) (h : i < l.length) : nth z l (i : Int) = l[i] := by simp [nth, h]
/-- The level behind a step, where it may stand. -/
def step (at_ : Int) (s : T_api_Step) : Option Int :=
  if s.f0 = 1 then (if at_ = -1 ∧ s.f1 = 0 ∧ s.f2 = 0 then some 0 else none)
  else if s.f0 = 3 then (if at_ = 3 ∧ s.f1 = 0 ∧ s.f2 = 0 then some (-1) else none)
  else if s.f0 = 2 then (if 0 ≤ at_ ∧ at_ < s.f1 ∧ s.f1 ≤ 3 ∧ (s.f1 = 2 → at_ = 1) ∧ 1 ≤ s.f2 ∧ s.f2 ≤ 12 then some s.f1 else none)
  else none
theorem step_ge {a b : Int} {s : T_api_Step} (ha : -1 ≤ a) (h : step a s = some b) : -1 ≤ b := by
  unfold step at h
  repeat' (split at h)
  all_goals first | (cases h; omega) | (cases h)
/-- A rule goes through from a level on. -/
def goes : Int → List T_api_Step → Bool
  | _, [] => true
  | a, s :: l => match step a s with
    | some b => goes b l
    | none => false
def May (l : List T_api_Step) : Prop := (1 ≤ l.length ∧ l.length ≤ 8) ∧ goes (-1) l = true
instance (l : List T_api_Step) : Decidable (May l) := inferInstanceAs (Decidable (_ ∧ _))
theorem next (a : Int) (s : T_api_Step) (k : Nat) (ha : -1 ≤ a) : ∃ b, place_next.f (k + 1) a s = some (b, (step a s).isSome) ∧ ∀ c, step a s = some c → b = c := by
  unfold place_next.f step
  by_cases h1 : s.f0 = 1
  · simp only [if_pos h1]
    by_cases c1 : a = -1
    · by_cases c2 : s.f1 = 0
      · by_cases c3 : s.f2 = 0
        · exact ⟨0, by simp [c1, c2, c3], by simp [c1, c2, c3]⟩
        · exact ⟨0, by simp [c1, c2, c3], by simp [c1, c2, c3]⟩
      · exact ⟨0, by simp [c1, c2], by simp [c1, c2]⟩
    · exact ⟨0, by simp [c1], by simp [c1]⟩
  · simp only [if_neg h1]
    by_cases h3 : s.f0 = 3
    · simp only [if_pos h3]
      by_cases c1 : a = 3
      · by_cases c2 : s.f1 = 0
        · by_cases c3 : s.f2 = 0
          · exact ⟨-1, by simp [c1, c2, c3], by simp [c1, c2, c3]⟩
          · exact ⟨-1, by simp [c1, c2, c3], by simp [c1, c2, c3]⟩
        · exact ⟨-1, by simp [c1, c2], by simp [c1, c2]⟩
      · exact ⟨-1, by simp [c1], by simp [c1]⟩
    · simp only [if_neg h3]
      by_cases h2 : s.f0 = 2
      · simp only [if_pos h2, place_next.j23_s]
        refine ⟨s.f1, ?_, ?_⟩
        · by_cases c0 : 0 ≤ a ∧ a < s.f1 ∧ s.f1 ≤ 3 ∧ (s.f1 = 2 → a = 1) ∧ 1 ≤ s.f2 ∧ s.f2 ≤ 12
          · rw [if_pos c0, if_pos (by omega), if_pos c0.2.2.1]
            have : (if s.f1 = 2 then (if a = -1 then (some (s.f1, false) : Option (Int × Bool)) else (if (a == 1) = true then (if s.f2 ≥ 1 then some (s.f1, decide (s.f2 ≤ 12)) else some (s.f1, false)) else some (s.f1, false))) else (if a = -1 then some (s.f1, false) else (if true = true then (if s.f2 ≥ 1 then some (s.f1, decide (s.f2 ≤ 12)) else some (s.f1, false)) else some (s.f1, false)))) = some (s.f1, true) := by
              obtain ⟨q1, q2, q3, q4, q5, q6⟩ := c0
              by_cases d : s.f1 = 2
              · have := q4 d
                simp [d, this, q5, q6]
              · have : ¬ a = -1 := by omega
                simp [d, this, q5, q6]
            exact this
          · rw [if_neg c0]
            have key : ∀ y : Bool, (y = true → ¬ (0 ≤ a ∧ 1 ≤ s.f2 ∧ s.f2 ≤ 12)) → (if a = -1 then (some (s.f1, false) : Option (Int × Bool)) else (if y = true then (if s.f2 ≥ 1 then some (s.f1, decide (s.f2 ≤ 12)) else some (s.f1, false)) else some (s.f1, false))) = some (s.f1, false) := by
              intro y hy
              by_cases d : a = -1
              · rw [if_pos d]
              · rw [if_neg d]
                cases y with
                | false => rfl
                | true =>
                  rw [if_pos rfl]
                  by_cases e1 : s.f2 ≥ 1
                  · rw [if_pos e1, decide_eq_false (fun e2 => hy rfl ⟨by omega, e1, e2⟩)]
                  · rw [if_neg e1]
            by_cases d1 : s.f1 > a
            · rw [if_pos d1]
              by_cases d2 : s.f1 ≤ 3
              · rw [if_pos d2]
                by_cases d3 : s.f1 = 2
                · rw [if_pos d3]
                  exact key _ (fun hy hh => c0 ⟨hh.1, d1, d2, fun _ => by simpa using hy, hh.2⟩)
                · rw [if_neg d3]
                  simpa using key true (fun _ hh => c0 ⟨hh.1, d1, d2, fun e => absurd e d3, hh.2⟩)
              · rw [if_neg d2]
                exact key _ (fun hy => by cases hy)
            · rw [if_neg d1]
              exact key _ (fun hy => by cases hy)
        · intro c hc
          split at hc
          · exact Option.some.inj hc
          · cases hc
      · simp only [if_neg h2]
        exact ⟨-1, by simp, by simp⟩
theorem check_l18 (l : List T_api_Step) (hl : l.length ≤ 1000) : ∀ (d k i : Nat) (a : Int), -1 ≤ a → i + d = l.length → d + 1 < k → place_Check.l18 k l a (i : Int) = some (if goes a (l.drop i) = true then 0 else 1) := by
  intro d
  induction d with
  | zero =>
    intro k i a ha hi hk
    obtain ⟨k, rfl⟩ : ∃ m, k = m + 1 := ⟨k - 1, by omega⟩
    rw [place_Check.l18_s, if_neg (by omega), List.drop_eq_nil_of_le (by omega)]
    rfl
  | succ d ih =>
    intro k i a ha hi hk
    obtain ⟨k, rfl⟩ : ∃ m, k = m + 2 := ⟨k - 2, by omega⟩
    have h1 : i < l.length := by omega
    rw [place_Check.l18_s, if_pos (by omega), if_pos (by omega), nth_get _ _ _ h1, w64n i (by omega), List.drop_eq_getElem_cons h1]
    obtain ⟨b, hb, hc⟩ := next a (⟨l[i].f0, l[i].f1, l[i].f2⟩ : T_api_Step) k ha
    rw [hb, Option.bind_some]
    dsimp only
    have hs : (⟨l[i].f0, l[i].f1, l[i].f2⟩ : T_api_Step) = l[i] := rfl
    rw [hs] at hc ⊢
    cases hst : step a l[i] with
    | none =>
      simp only [goes, hst, Option.isSome_none, Bool.false_eq_true, if_false]
    | some c =>
      obtain rfl := hc c hst
      simp only [goes, hst, Option.isSome_some, if_true]
      exact ih (k + 1) (i + 1) b (step_ge ha hst) (by omega) (by omega)
theorem check (l : List T_api_Step) (k : Nat) (hk : 1100 < k) : place_Check.f k l = some (if May l then 0 else 1) := by
  obtain ⟨k, rfl⟩ : ∃ m, k = m + 1 := ⟨k - 1, by omega⟩
  unfold place_Check.f
  by_cases h0 : (l.length : Int) = 0
  · rw [if_pos h0, place_Check.j6_s, if_pos rfl, if_neg (fun h : May l => by have := h.1.1; omega)]
  · rw [if_neg h0, place_Check.j6_s]
    by_cases h8 : (l.length : Int) > 8
    · rw [if_pos (decide_eq_true h8), if_neg (fun h : May l => by have := h.1.2; omega)]
    · rw [if_neg (by simpa using h8)]
      refine (check_l18 l (by omega) l.length k 0 (-1) (by omega) (by omega) (by omega)).trans ?_
      rw [List.drop_zero]
      by_cases h : goes (-1) l = true
      · rw [if_pos h, if_pos (show May l from ⟨⟨by omega, by omega⟩, h⟩)]
      · rw [if_neg h, if_neg (fun hh : May l => h hh.2)]
theorem may_l7 (l : List T_api_Step) (hl : l.length ≤ 1000) : ∀ (d k i : Nat) (a : Int), -1 ≤ a → i + d = l.length → 2 * d + 2 < k → windroseref07_May.l7 k l a (i : Int) = some (goes a (l.drop i) && decide (1 ≤ l.length ∧ l.length ≤ 8)) := by
  intro d
  induction d with
  | zero =>
    intro k i a ha hi hk
    obtain ⟨k, rfl⟩ : ∃ m, k = m + 1 := ⟨k - 1, by omega⟩
    rw [windroseref07_May.l7_s, if_neg (by omega), List.drop_eq_nil_of_le (by omega)]
    by_cases h1 : (l.length : Int) ≥ 1
    · rw [if_pos h1]
      congr 1
      simp only [goes, Bool.true_and, decide_eq_decide]
      omega
    · rw [if_neg h1, decide_eq_false (by omega)]
      simp
  | succ d ih =>
    intro k i a ha hi hk
    obtain ⟨k, rfl⟩ : ∃ m, k = m + 2 := ⟨k - 2, by omega⟩
    have h1 : i < l.length := by omega
    rw [windroseref07_May.l7_s, if_pos (by omega), if_pos (by omega), nth_get _ _ _ h1, List.drop_eq_getElem_cons h1]
    simp only [windroseref07_May.j32_s, windroseref07_May.j51_s, windroseref07_May.j65_s, nth_get _ _ _ h1, w64n i (by omega)]
    have go : ∀ b, -1 ≤ b → windroseref07_May.l7 k l b ((i + 1 : Nat) : Int) = some (goes b (l.drop (i + 1)) && decide (1 ≤ l.length ∧ l.length ≤ 8)) := fun b hb => ih k (i + 1) b hb (by omega) (by omega)
    generalize l[i] = s at *
    generalize hr : l.drop (i + 1) = r at *
    have fin : ∀ o, step a s = o → (match o with | some b => windroseref07_May.l7 k l b ((i + 1 : Nat) : Int) | none => some false) = some (goes a (s :: r) && decide (1 ≤ l.length ∧ l.length ≤ 8)) := by
      intro o ho
      cases o with
      | none => simp [goes, ho]
      | some b =>
        simp only [goes, ho]
        exact go b (step_ge ha ho)
    refine Eq.trans ?_ (fin (step a s) rfl)
    clear go fin ih
    unfold step
    by_cases q1 : s.f0 = 1
    · simp only [if_pos q1]
      by_cases c1 : a = -1
      · by_cases c2 : s.f1 = 0
        · by_cases c3 : s.f2 = 0
          · simp [c1, c2, c3]
          · simp [c1, c2, c3]
        · simp [c1, c2]
      · simp [c1]
    · simp only [if_neg q1]
      by_cases q3 : s.f0 = 3
      · have q2 : ¬ s.f0 = 2 := by omega
        simp only [if_pos q3, if_neg q2]
        by_cases c1 : a = 3
        · by_cases c2 : s.f1 = 0
          · by_cases c3 : s.f2 = 0
            · simp [c1, c2, c3]
            · simp [c1, c2, c3]
          · simp [c1, c2]
        · simp [c1]
      · by_cases q2 : s.f0 = 2
        · simp only [if_pos q2, if_neg q3]
          by_cases c1 : a < 0
          · rw [if_pos c1, if_pos trivial, if_neg (by omega)]
          · rw [if_neg c1]
            by_cases c2 : s.f1 ≤ a
            · rw [if_pos c2, if_pos trivial, if_neg (by omega)]
            · rw [if_neg c2]
              by_cases c3 : s.f1 > 3
              · rw [if_pos c3, if_pos trivial, if_neg (by omega)]
              · rw [if_neg c3]
                by_cases c4 : s.f1 = 2
                · rw [if_pos c4]
                  by_cases c5 : a = 1
                  · rw [if_pos c5]
                    by_cases c6 : s.f2 < 1
                    · rw [if_pos c6, if_pos trivial, if_neg (by omega)]
                    · rw [if_neg c6]
                      by_cases c7 : s.f2 > 12
                      · rw [if_pos (decide_eq_true c7), if_neg (by omega)]
                      · rw [if_neg (by simpa using c7), if_pos ⟨by omega, by omega, by omega, fun _ => c5, by omega, by omega⟩]
                  · rw [if_neg c5, if_pos trivial, if_neg (fun h => c5 (h.2.2.2.1 c4))]
                · rw [if_neg c4]
                  by_cases c6 : s.f2 < 1
                  · rw [if_pos c6, if_pos trivial, if_neg (by omega)]
                  · rw [if_neg c6]
                    by_cases c7 : s.f2 > 12
                    · rw [if_pos (decide_eq_true c7), if_neg (by omega)]
                    · rw [if_neg (by simpa using c7), if_pos ⟨by omega, by omega, by omega, fun e => absurd e c4, by omega, by omega⟩]
        · simp only [if_neg q2, if_neg q3]
theorem may (l : List T_api_Step) (k : Nat) (hl : l.length ≤ 1000) (hk : 2010 < k) : windroseref07_May.f k l = some (decide (May l)) := by
  unfold windroseref07_May.f
  refine (may_l7 l hl l.length k 0 (-1) (by omega) (by omega) (by omega)).trans (congrArg some ?_)
  rw [List.drop_zero, Bool.eq_iff_iff]
  rw [Bool.and_eq_true, decide_eq_true_eq, decide_eq_true_eq]
  exact And.comm
theorem common (k : Nat) (n : Int) : place_Common.f (k + 1) n = some (if 1 ≤ n ∧ n ≤ 3 then [(⟨1, 0, 0⟩ : T_api_Step), ⟨2, 1, n⟩, ⟨2, 2, 1⟩, ⟨2, 3, 1⟩, ⟨3, 0, 0⟩] else []) := by
  unfold place_Common.f
  simp only [place_Common.j6_s]
  by_cases h1 : n < 1
  · rw [if_pos h1, if_pos trivial, if_neg (by omega)]
  · rw [if_neg h1]
    by_cases h3 : n > 3
    · rw [if_pos (decide_eq_true h3), if_neg (by omega)]
    · rw [if_neg (by simpa using h3), if_pos ⟨by omega, by omega⟩]

theorem awake (k : Nat) : windroselaw07_awake.f (k + 400) = some true := by kernel_rfl
end Place
theorem purePlaceRules : PurePlaceRules := by
  intro rule size hr hs
  refine ⟨2500, ?_⟩
  have j50 : ∀ k, 2400 ≤ k → windroselaw07_PlaceRules.j50 k rule = some true := by
    intro k hk
    obtain ⟨k, rfl⟩ : ∃ m, k = m + 1 := ⟨k - 1, by omega⟩
    rw [windroselaw07_PlaceRules.j50_s]
    obtain ⟨m, rfl⟩ : ∃ m, k = m + 400 := ⟨k - 400, by omega⟩
    by_cases h : (rule.length : Int) > 1000
    · rw [if_pos h, Place.awake]
      rfl
    · rw [if_neg h, Place.check rule _ (by omega), Option.bind_some, Place.may rule _ (by omega) (by omega), Option.bind_some, if_pos ?_, Place.awake]
      · rfl
      · by_cases hm : Place.May rule
        · rw [if_pos hm, decide_eq_true hm]; rfl
        · rw [if_neg hm, decide_eq_false hm]; rfl
  unfold windroselaw07_PlaceRules.f
  rw [Place.common, Option.bind_some]
  by_cases h1 : size < 1
  · rw [if_neg (show ¬ (1 ≤ size ∧ size ≤ 3) by omega), if_pos h1, windroselaw07_PlaceRules.j15_s, if_pos rfl, if_pos (show ((([] : List T_api_Step).length : Nat) : Int) = 0 from rfl)]
    exact j50 _ (by omega)
  · rw [if_neg h1, windroselaw07_PlaceRules.j15_s]
    by_cases h2 : size > 3
    · rw [if_neg (show ¬ (1 ≤ size ∧ size ≤ 3) by omega), if_pos (decide_eq_true h2), if_pos (show ((([] : List T_api_Step).length : Nat) : Int) = 0 from rfl)]
      exact j50 _ (by omega)
    · rw [if_pos (show 1 ≤ size ∧ size ≤ 3 by omega), if_neg (by simpa using h2)]
      have : size = 1 ∨ size = 2 ∨ size = 3 := by omega
      have hc : (windroseref07_Common.f size).bind (fun t26 => (windroselaw07_rules.f 2499 [(⟨1, 0, 0⟩ : T_api_Step), ⟨2, 1, size⟩, ⟨2, 2, 1⟩, ⟨2, 3, 1⟩, ⟨3, 0, 0⟩] t26).bind fun t34 => if t34 = true then ((place_Check.f 2499 [(⟨1, 0, 0⟩ : T_api_Step), ⟨2, 1, size⟩, ⟨2, 2, 1⟩, ⟨2, 3, 1⟩, ⟨3, 0, 0⟩]).bind fun t38 => (windroselaw07_PlaceRules.j42 2499 rule (!(t38 == 0)))) else (windroselaw07_PlaceRules.j42 2499 rule true)) = windroselaw07_PlaceRules.j42 2499 rule false := by
        rcases this with rfl | rfl | rfl <;> kernel_rfl
      refine hc.trans ?_
      rw [windroselaw07_PlaceRules.j42_s, if_neg (by decide)]
      exact j50 _ (by omega)
end Go.Proofs.Ytihjknnhbgkinaa.SI
