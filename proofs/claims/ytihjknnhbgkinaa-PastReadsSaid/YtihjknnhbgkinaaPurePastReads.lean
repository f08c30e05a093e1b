/- The law PastReads, plain. -/
import Derived.Test.YtihjknnhbgkinaaSRoPastReads
namespace Go.Proofs.Ytihjknnhbgkinaa.SR
open Go Go.RowKit Go.Proofs.Ytihjknnhbgkinaa.Sl
set_option linter.unusedVariables false
set_option linter.unusedSimpArgs false
theorem w64n (i : Nat) (h : i < 9223372036854775807) : w64 ((i : Int) + 1) = ((i + 1 : Nat) : Int) := by rw [w64_of (by omega) (by omega)]; omega
theorem w64p (i : Nat) (h : i < 9223372036854775807) (h0 : 0 < i) : w64 ((i : Int) - 1) = ((i - 1 : Nat) : Int) := by rw [w64_of (by omega) (by omega)]; omega
theorem nth_get {α : Type} (z : α) (l : List α) (i : Nat) (h : i < l.length) : nth z l (i : Int) = l[i] := by simp [nth, h]
/-- In the end, with fuel enough, a run answers so. -/
def Ev {β : Type} (f : Nat → Option β) (v : β) : Prop := ∃ K, ∀ k, K ≤ k → f k = some v
theorem Ev.c {β : Type} (v : β) : Ev (fun _ => some v) v := ⟨0, fun _ _ => rfl⟩
theorem Ev.cv {β : Type} {v w : β} (h : v = w) : Ev (fun _ => some v) w := ⟨0, fun _ _ => congrArg some h⟩
theorem Ev.v {β : Type} {f : Nat → Option β} {v w : β} (h : Ev f v) (e : v = w) : Ev f w := e ▸ h
theorem Ev.s {β : Type} {f g : Nat → Option β} {v : β} (h : ∀ k, f (k + 1) = g k) (hg : Ev g v) : Ev f v := by
  obtain ⟨K, hK⟩ := hg
  refine ⟨K + 1, fun k hk => ?_⟩
  obtain ⟨k, rfl⟩ : ∃ m, k = m + 1 := ⟨k - 1, by omega⟩
  rw [h]
  exact hK k (by omega)
theorem Ev.e {β : Type} {f g : Nat → Option β} {v : β} (h : ∀ k, f k = g k) (hg : Ev g v) : Ev f v := by
  obtain ⟨K, hK⟩ := hg
  exact ⟨K, fun k hk => (h k).trans (hK k hk)⟩
theorem Ev.b {α β : Type} {f : Nat → Option α} {g : Nat → α → Option β} {a : α} {v : β} (hf : Ev f a) (hg : Ev (fun k => g k a) v) : Ev (fun k => (f k).bind (g k)) v := by
  obtain ⟨K, hK⟩ := hf
  obtain ⟨L, hL⟩ := hg
  refine ⟨K + L, fun k hk => ?_⟩
  show (f k).bind (g k) = some v
  rw [hK k (by omega), Option.bind_some]
  exact hL k (by omega)
theorem Ev.b0 {α β : Type} {o : Option α} {g : Nat → α → Option β} {a : α} {v : β} (ho : o = some a) (hg : Ev (fun k => g k a) v) : Ev (fun k => o.bind (g k)) v := Ev.b ⟨0, fun _ _ => ho⟩ hg
theorem Ev.i {β : Type} {c : Prop} [Decidable c] {f g : Nat → Option β} {v : β} (hf : c → Ev f v) (hg : ¬ c → Ev g v) : Ev (fun k => if c then f k else g k) v := by
  by_cases h : c
  · simpa only [if_pos h] using hf h
  · simpa only [if_neg h] using hg h
theorem Ev.t {β : Type} {c : Prop} [Decidable c] {f g : Nat → Option β} {v : β} (h : c) (hf : Ev f v) : Ev (fun k => if c then f k else g k) v := Ev.i (fun _ => hf) (fun n => absurd h n)
theorem Ev.n {β : Type} {c : Prop} [Decidable c] {f g : Nat → Option β} {v : β} (h : ¬ c) (hg : Ev g v) : Ev (fun k => if c then f k else g k) v := Ev.i (fun n => absurd n h) (fun _ => hg)
theorem Ev.and {α β : Type} {f : Nat → Option α} {g : Nat → Option β} {v : α} {w : β} (hf : Ev f v) (hg : Ev g w) : ∃ k, f k = some v ∧ g k = some w := by
  obtain ⟨K, hK⟩ := hf
  obtain ⟨L, hL⟩ := hg
  exact ⟨K + L, hK _ (by omega), hL _ (by omega)⟩
theorem Ev.one {α : Type} {f : Nat → Option α} {v : α} (hf : Ev f v) : ∃ k, f k = some v := by
  obtain ⟨K, hK⟩ := hf
  exact ⟨K, hK _ (by omega)⟩
/-- The answer's number: all well, or an argument that may not be. -/
def eno : Bool → Int
  | true => 0
  | false => 1

namespace Topo
/-! nodes -/
theorem tin (x a b : Int) : topo_in.f x a b = some (decide (a ≤ x ∧ x ≤ b)) := by
  unfold topo_in.f
  by_cases h : x ≥ a
  · rw [if_pos h]
    congr 1
    simp only [decide_eq_decide]
    omega
  · rw [if_neg h, decide_eq_false (by omega)]
def okN (n : T_api_Node) : Prop := (1 ≤ n.f0 ∧ n.f0 ≤ 999) ∧ (1 ≤ n.f1 ∧ n.f1 ≤ 9) ∧ (1 ≤ n.f2 ∧ n.f2 ≤ 9) ∧ 0 ≤ n.f3 ∧ n.f3 ≤ 65536
instance (n : T_api_Node) : Decidable (okN n) := inferInstanceAs (Decidable (_ ∧ _))
/-- Nodes that may be, their numbers rising from one on. -/
def rise : Int → List T_api_Node → Bool
  | _, [] => true
  | p, n :: l => decide (okN n ∧ p < n.f0) && rise n.f0 l
/-- The number ahead of a place. -/
def pre (l : List T_api_Node) (i : Nat) : Int := if i = 0 then 0 else (nth T_api_Node.z l (w64 ((i : Int) - 1))).f0
theorem pre_succ (l : List T_api_Node) (i : Nat) (h : i < l.length) (hl : l.length < 4611686018427387904) : pre l (i + 1) = l[i].f0 := by
  unfold pre
  rw [if_neg (by omega), w64p (i + 1) (by omega) (by omega), show i + 1 - 1 = i by omega, nth_get _ _ _ h]
def Nodes (l : List T_api_Node) : Prop := l.length ≤ 12 ∧ rise 0 l = true
instance (l : List T_api_Node) : Decidable (Nodes l) := inferInstanceAs (Decidable (_ ∧ _))
theorem check_l9 (l : List T_api_Node) (hl : l.length < 4611686018427387904) : ∀ (d i : Nat), i + d = l.length → Ev (fun k => topo_Check.l9 k l (i : Int)) (eno (rise (pre l i) (l.drop i))) := by
  intro d
  induction d with
  | zero =>
    intro i hi
    refine .s (fun k => topo_Check.l9_s k _ _) (.n (by omega) (.cv ?_))
    rw [List.drop_eq_nil_of_le (by omega)]
    rfl
  | succ d ih =>
    intro i hi
    have h1 : i < l.length := by omega
    refine .s (fun k => topo_Check.l9_s k _ _) (.t (by omega) (.t (by omega) ?_))
    have ih := ih (i + 1) (by omega)
    rw [pre_succ l i h1 hl] at ih
    rw [List.drop_eq_getElem_cons h1, nth_get _ _ _ h1]
    have hj : ∀ b : Bool, (b = true ↔ ¬ (okN l[i] ∧ pre l i < l[i].f0)) → Ev (fun k => topo_Check.j49 k l (i : Int) b) (eno (rise (pre l i) (l[i] :: l.drop (i + 1)))) := by
      intro b hb
      refine .s (fun k => topo_Check.j49_s k _ _ _) ?_
      simp only [rise]
      by_cases h : okN l[i] ∧ pre l i < l[i].f0
      · refine .n (fun e => (hb.1 e) h) ?_
        rw [w64n i (by omega), decide_eq_true h, Bool.true_and]
        exact ih
      · refine .t (hb.2 h) (.cv ?_)
        rw [decide_eq_false h, Bool.false_and]
        rfl
    clear ih
    have hp0 : i = 0 → pre l i = 0 := fun e => if_pos e
    have hp1 : i ≠ 0 → (nth T_api_Node.z l (w64 ((i : Int) - 1))).f0 = pre l i := fun e => (if_neg e).symm
    have hw : i ≠ 0 → w64 ((i : Int) - 1) = ((i - 1 : Nat) : Int) := fun e => w64p i (by omega) (by omega)
    unfold okN at hj
    generalize hv : eno (rise (pre l i) (l[i] :: l.drop (i + 1))) = v at hj ⊢
    clear hv
    generalize pre l i = p at *
    generalize (nth T_api_Node.z l (w64 ((i : Int) - 1))).f0 = q at *
    generalize l[i] = n at *
    repeat' (first | refine Ev.b0 (tin _ _ _) ?_ | refine Ev.i (fun _ => ?_) (fun _ => ?_))
    all_goals simp only [decide_eq_true_eq] at *
    all_goals first
      | exact hj _ (by simp only [decide_eq_true_eq, Bool.false_eq_true, true_iff, false_iff]; omega)
      | (exfalso; omega)
theorem check (l : List T_api_Node) (hl : l.length < 4611686018427387904) : Ev (fun k => topo_Check.f k l) (eno (decide (Nodes l))) := by
  unfold topo_Check.f
  refine .i (fun h => .cv ?_) (fun h => (check_l9 l hl l.length 0 (by omega)).v ?_)
  · rw [decide_eq_false (fun n : Nodes l => by have := n.1; omega)]
    rfl
  · rw [show pre l 0 = 0 from rfl, List.drop_zero]
    congr 1
    rw [Bool.eq_iff_iff, decide_eq_true_eq]
    exact ⟨fun h0 => ⟨by omega, h0⟩, fun n => n.2⟩
theorem may_l5 (l : List T_api_Node) (hl : l.length < 4611686018427387904) : ∀ (d i : Nat), i + d = l.length → Ev (fun k => windroseref06_May.l5 k l (i : Int)) (rise (pre l i) (l.drop i) && decide (l.length ≤ 12)) := by
  intro d
  induction d with
  | zero =>
    intro i hi
    refine .s (fun k => windroseref06_May.l5_s k _ _) (.n (by omega) (.cv ?_))
    rw [List.drop_eq_nil_of_le (by omega)]
    simp only [rise, Bool.true_and, decide_eq_decide]
    omega
  | succ d ih =>
    intro i hi
    have h1 : i < l.length := by omega
    refine .s (fun k => windroseref06_May.l5_s k _ _) (.t (by omega) (.t (by omega) ?_))
    have ih := ih (i + 1) (by omega)
    rw [pre_succ l i h1 hl] at ih
    rw [List.drop_eq_getElem_cons h1, nth_get _ _ _ h1]
    have hj : ∀ b : Bool, (b = true ↔ ¬ (okN l[i] ∧ pre l i < l[i].f0)) → Ev (fun k => windroseref06_May.j37 k l (i : Int) b) (rise (pre l i) (l[i] :: l.drop (i + 1)) && decide (l.length ≤ 12)) := by
      intro b hb
      refine .s (fun k => windroseref06_May.j37_s k _ _ _) ?_
      simp only [rise]
      by_cases h : okN l[i] ∧ pre l i < l[i].f0
      · refine .n (fun e => (hb.1 e) h) ?_
        rw [w64n i (by omega), decide_eq_true h, Bool.true_and]
        exact ih
      · refine .t (hb.2 h) (.cv ?_)
        rw [decide_eq_false h, Bool.false_and, Bool.false_and]
    clear ih
    have hp0 : i = 0 → pre l i = 0 := fun e => if_pos e
    have hp1 : i ≠ 0 → (nth T_api_Node.z l (w64 ((i : Int) - 1))).f0 = pre l i := fun e => (if_neg e).symm
    have hw : i ≠ 0 → w64 ((i : Int) - 1) = ((i - 1 : Nat) : Int) := fun e => w64p i (by omega) (by omega)
    unfold okN at hj
    generalize hv : (rise (pre l i) (l[i] :: l.drop (i + 1)) && decide (l.length ≤ 12)) = v at hj ⊢
    clear hv
    generalize pre l i = p at *
    generalize (nth T_api_Node.z l (w64 ((i : Int) - 1))).f0 = q at *
    generalize l[i] = n at *
    repeat' (first | refine Ev.i (fun _ => ?_) (fun _ => ?_))
    all_goals first
      | exact hj _ (by simp only [decide_eq_true_eq, Bool.false_eq_true, true_iff, false_iff]; omega)
      | (exfalso; omega)
theorem may (l : List T_api_Node) (hl : l.length < 4611686018427387904) : Ev (fun k => windroseref06_May.f k l) (decide (Nodes l)) := by
  unfold windroseref06_May.f
  refine (may_l5 l hl l.length 0 (by omega)).v ?_
  rw [show pre l 0 = 0 from rfl, List.drop_zero, Bool.eq_iff_iff, Bool.and_eq_true, decide_eq_true_eq, decide_eq_true_eq]
  exact And.comm

/-! nodes of unlike zones -/
theorem index_l5 (l : List Int) (v : Int) (hl : l.length < 4611686018427387904) : ∀ (d i : Nat), i + d = l.length → ∃ x, Ev (fun k => slices_Index__int_int.l5 k l v (i : Int)) x ∧ (0 ≤ x ↔ v ∈ l.drop i) := by
  intro d
  induction d with
  | zero =>
    intro i hi
    refine ⟨-1, .s (fun k => slices_Index__int_int.l5_s k _ _ _) (.n (by omega) (.c _)), ?_⟩
    rw [List.drop_eq_nil_of_le (by omega)]
    simp
  | succ d ih =>
    intro i hi
    have h1 : i < l.length := by omega
    obtain ⟨x, hx, hm⟩ := ih (i + 1) (by omega)
    by_cases h : v = l[i]
    · refine ⟨i, .s (fun k => slices_Index__int_int.l5_s k _ _ _) (.t (by omega) (.t (by omega) (.t (by rw [nth_get _ _ _ h1]; exact h) (.c _)))), ?_⟩
      rw [List.drop_eq_getElem_cons h1]
      exact ⟨fun _ => List.mem_cons.2 (.inl h), fun _ => by omega⟩
    · refine ⟨x, .s (fun k => slices_Index__int_int.l5_s k _ _ _) (.t (by omega) (.t (by omega) (.n (by rw [nth_get _ _ _ h1]; exact h) ?_))), ?_⟩
      · rw [w64n i (by omega)]
        exact hx
      · rw [List.drop_eq_getElem_cons h1, hm]
        exact ⟨fun m => List.mem_cons.2 (.inr m), fun m => (List.mem_cons.1 m).resolve_left h⟩
theorem contains (l : List Int) (v : Int) (hl : l.length < 4611686018427387904) : Ev (fun k => slices_Contains__int_int.f k l v) (decide (v ∈ l)) := by
  obtain ⟨x, hx, hm⟩ := index_l5 l v hl l.length 0 (by omega)
  unfold slices_Contains__int_int.f slices_Index__int_int.f
  refine .b hx (.cv ?_)
  rw [decide_eq_decide]
  exact hm
def apartT (l : List T_api_Node) : List Int → List Int → Bool
  | _, [] => true
  | met, id :: r => match l.find? (fun n => decide (n.f0 = id) && !decide (n.f1 ∈ met)) with
    | some n => apartT l (met ++ [n.f1]) r
    | none => false
def apartR (l : List T_api_Node) : List Int → List Int → Bool
  | _, [] => true
  | met, id :: r => match l.find? (fun n => decide (n.f0 = id)) with
    | some n => !decide (n.f1 ∈ met) && apartR l (met ++ [n.f1]) r
    | none => false
theorem apart_l35 (l : List T_api_Node) (ids met : List Int) (i : Nat) (w : Bool) (hl : l.length < 4611686018427387904) (hm : met.length < 1000000000000) (hi : i < ids.length) (hil : ids.length < 4611686018427387904)
    (hs : ∀ n, l.find? (fun n => decide (n.f0 = ids[i]) && !decide (n.f1 ∈ met)) = some n → Ev (fun k => topo_Apart.l18 k l ids (met ++ [n.f1]) ((i + 1 : Nat) : Int)) w)
    (hn : l.find? (fun n => decide (n.f0 = ids[i]) && !decide (n.f1 ∈ met)) = none → w = false) :
    ∀ (d j : Nat), j + d = l.length → (l.take j).find? (fun n => decide (n.f0 = ids[i]) && !decide (n.f1 ∈ met)) = none → Ev (fun k => topo_Apart.l35 k l ids met (i : Int) (j : Int)) w := by
  intro d
  induction d with
  | zero =>
    intro j hj ht
    refine .s (fun k => topo_Apart.l35_s k _ _ _ _ _) (.n (by omega) (.cv ?_))
    rw [List.take_of_length_le (by omega)] at ht
    exact (hn ht).symm
  | succ d ih =>
    intro j hj ht
    have h1 : j < l.length := by omega
    refine .s (fun k => topo_Apart.l35_s k _ _ _ _ _) (.t (by omega) (.t (by omega) ?_))
    have hb : ∀ b : Bool, b = (decide (l[j].f0 = ids[i]) && !decide (l[j].f1 ∈ met)) → Ev (fun k => topo_Apart.j58 k l ids met (i : Int) (j : Int) b) w := by
      intro b hb
      refine .s (fun k => topo_Apart.j58_s k _ _ _ _ _ _) ?_
      cases b with
      | true =>
        refine .t rfl (.t (by omega) ?_)
        rw [nth_get _ _ _ h1, w64n i (by omega)]
        refine hs _ ?_
        have e := congrArg (List.find? (fun n => decide (n.f0 = ids[i]) && !decide (n.f1 ∈ met))) (List.take_append_drop j l)
        rw [← e, List.find?_append, ht, List.drop_eq_getElem_cons h1, List.find?_cons_of_pos (p := fun n : T_api_Node => decide (n.f0 = ids[i]) && !decide (n.f1 ∈ met)) hb.symm]
        rfl
      | false =>
        refine .n (by decide) ?_
        rw [w64n j (by omega)]
        refine ih (j + 1) (by omega) ?_
        rw [List.take_add_one, List.find?_append, ht, List.getElem?_eq_getElem h1]
        simp only [Option.toList_some, Option.none_or]
        rw [List.find?_cons_of_neg]
        · rfl
        · rw [← hb]; decide
    rw [nth_get _ _ _ h1, nth_get _ _ _ hi]
    by_cases h : l[j].f0 = ids[i]
    · refine .t h (.b (contains met _ (by omega)) (hb _ ?_))
      rw [decide_eq_true h]; rfl
    · refine .n h (hb _ ?_)
      rw [decide_eq_false h]; rfl
theorem apart_l18 (l : List T_api_Node) (ids : List Int) (hl : l.length < 4611686018427387904) (hil : ids.length < 500000000000) : ∀ (d i : Nat) (met : List Int), i + d = ids.length → met.length = i → Ev (fun k => topo_Apart.l18 k l ids met (i : Int)) (apartT l met (ids.drop i)) := by
  intro d
  induction d with
  | zero =>
    intro i met hi hm
    refine .s (fun k => topo_Apart.l18_s k _ _ _ _) (.n (by omega) (.cv ?_))
    rw [List.drop_eq_nil_of_le (by omega)]
    rfl
  | succ d ih =>
    intro i met hi hm
    have h1 : i < ids.length := by omega
    refine .s (fun k => topo_Apart.l18_s k _ _ _ _) (.t (by omega) (.t (by omega) ?_))
    refine apart_l35 l ids met i _ hl (by omega) h1 (by omega) ?_ ?_ l.length 0 (by omega) rfl
    · intro n hn
      refine (ih (i + 1) _ (by omega) (by simp [hm])).v ?_
      rw [List.drop_eq_getElem_cons h1, apartT, hn]
    · intro hn
      rw [List.drop_eq_getElem_cons h1, apartT, hn]
theorem rise_lt : ∀ (p : Int) (l : List T_api_Node), rise p l = true → ∀ n ∈ l, p < n.f0
  | _, [], _, _, h => nomatch h
  | p, m :: l, h, n, hn => by
    simp only [rise, Bool.and_eq_true, decide_eq_true_eq] at h
    rcases List.mem_cons.1 hn with rfl | hn
    · exact h.1.2
    · exact Int.lt_trans h.1.2 (rise_lt _ l h.2 n hn)
theorem find_met (id : Int) (met : List Int) : ∀ (p : Int) (l : List T_api_Node), rise p l = true → l.find? (fun n => decide (n.f0 = id) && !decide (n.f1 ∈ met)) = match l.find? (fun n => decide (n.f0 = id)) with
    | some n => if n.f1 ∈ met then none else some n
    | none => none
  | _, [], _ => rfl
  | p, m :: l, h => by
    simp only [rise, Bool.and_eq_true, decide_eq_true_eq] at h
    by_cases hm : m.f0 = id
    · rw [List.find?_cons_of_pos (a := m) (p := fun n : T_api_Node => decide (n.f0 = id)) (by simpa using hm)]
      by_cases hz : m.f1 ∈ met
      · simp only [hz, if_true]
        rw [List.find?_eq_none]
        intro n hn
        rcases List.mem_cons.1 hn with rfl | hn
        · simp [hz]
        · have := rise_lt _ _ h.2 n hn
          have : ¬ n.f0 = id := by omega
          simp [this]
      · rw [List.find?_cons_of_pos (by simp [hm, hz])]
        simp only [hz, if_false]
    · rw [List.find?_cons_of_neg (by simp [hm]), List.find?_cons_of_neg (by simpa using hm)]
      exact find_met id met _ l h.2
theorem apart_same (l : List T_api_Node) (h : rise 0 l = true) : ∀ (ids met : List Int), apartT l met ids = apartR l met ids
  | [], _ => rfl
  | id :: r, met => by
    rw [apartT, apartR, find_met id met 0 l h]
    cases l.find? (fun n => decide (n.f0 = id)) with
    | none => rfl
    | some n =>
      by_cases hz : n.f1 ∈ met
      · simp [hz]
      · simp only [hz, if_false, decide_false, Bool.not_false, Bool.true_and]
        exact apart_same l h r _
theorem apart (l : List T_api_Node) (ids : List Int) (hl : l.length < 4611686018427387904) (hil : ids.length < 500000000000) : Ev (fun k => topo_Apart.f k l ids) (decide (Nodes l) && apartR l [] ids) := by
  unfold topo_Apart.f
  refine .b (check l hl) ?_
  by_cases h : Nodes l
  · rw [decide_eq_true h]
    refine .t rfl ((apart_l18 l ids hl hil ids.length 0 [] (by omega) rfl).v ?_)
    rw [List.drop_zero, apart_same l h.2, Bool.true_and]
  · rw [decide_eq_false h]
    exact .n (by decide) (.c _)
/-- A node by its number. -/
def find (l : List T_api_Node) (id : Int) : T_api_Node × Bool := match l.find? (fun n => decide (n.f0 = id)) with
  | some n => (n, true)
  | none => (⟨0, 0, 0, 0, false, false⟩, false)
theorem find_l7 (l : List T_api_Node) (id : Int) (hl : l.length < 4611686018427387904) : ∀ (d i : Nat), i + d = l.length → Ev (fun k => windroseref06_Find.l7 k l id (i : Int)) (find (l.drop i) id) := by
  intro d
  induction d with
  | zero =>
    intro i hi
    refine .s (fun k => windroseref06_Find.l7_s k _ _ _) (.n (by omega) (.cv ?_))
    rw [List.drop_eq_nil_of_le (by omega)]
    rfl
  | succ d ih =>
    intro i hi
    have h1 : i < l.length := by omega
    refine .s (fun k => windroseref06_Find.l7_s k _ _ _) (.t (by omega) (.t (by omega) ?_))
    rw [List.drop_eq_getElem_cons h1, nth_get _ _ _ h1]
    by_cases h : l[i].f0 = id
    · refine .t h (.cv ?_)
      rw [find, List.find?_cons_of_pos (by simpa using h)]
    · refine .n h ?_
      rw [w64n i (by omega)]
      refine (ih (i + 1) (by omega)).v ?_
      rw [find, find, List.find?_cons_of_neg (by simpa using h)]
theorem reffind (l : List T_api_Node) (id : Int) (hl : l.length < 4611686018427387904) : Ev (fun k => windroseref06_Find.f k l id) (find l id) := by
  unfold windroseref06_Find.f
  exact find_l7 l id hl l.length 0 (by omega)
def zn (l : List T_api_Node) (id : Int) : Int := (find l id).1.f1
theorem apart_l31 (l : List T_api_Node) (ids : List Int) (i : Nat) (t : T_api_Node × Bool) (w : Bool) (hl : l.length < 4611686018427387904) (hi : i < ids.length) (hil : ids.length < 4611686018427387904) : ∀ (d j : Nat), j + d = i →
    (t.1.f1 ∈ ((ids.take i).drop j).map (zn l) → w = false) → (¬ t.1.f1 ∈ ((ids.take i).drop j).map (zn l) → Ev (fun k => windroseref06_Apart.l5 k l ids ((i + 1 : Nat) : Int)) w) →
    Ev (fun k => windroseref06_Apart.l31 k l ids (i : Int) t (j : Int)) w := by
  intro d
  induction d with
  | zero =>
    intro j hj _ hn
    refine .s (fun k => windroseref06_Apart.l31_s k _ _ _ _ _) (.n (by omega) ?_)
    rw [w64n i (by omega)]
    refine hn ?_
    rw [List.drop_eq_nil_of_le (by simp; omega)]
    simp
  | succ d ih =>
    intro j hj hy hn
    have h1 : j < ids.length := by omega
    have h2 : j < (ids.take i).length := by simp; omega
    rw [List.drop_eq_getElem_cons h2, List.getElem_take, List.map_cons, List.mem_cons] at hy hn
    refine .s (fun k => windroseref06_Apart.l31_s k _ _ _ _ _) (.t (by omega) (.t (by omega) ?_))
    rw [nth_get _ _ _ h1]
    refine .b (reffind l _ hl) ?_
    by_cases h : t.1.f1 = zn l ids[j]
    · exact .t h (.cv (hy (.inl h)).symm)
    · refine .n h ?_
      rw [w64n j (by omega)]
      exact ih (j + 1) (by omega) (fun m => hy (.inr m)) (fun m => hn (fun o => o.elim h m))
theorem apart_l5 (l : List T_api_Node) (ids : List Int) (hl : l.length < 4611686018427387904) (hil : ids.length < 500000000000) : ∀ (d i : Nat), i + d = ids.length → Ev (fun k => windroseref06_Apart.l5 k l ids (i : Int)) (apartR l ((ids.take i).map (zn l)) (ids.drop i)) := by
  intro d
  induction d with
  | zero =>
    intro i hi
    refine .s (fun k => windroseref06_Apart.l5_s k _ _ _) (.n (by omega) (.cv ?_))
    rw [List.drop_eq_nil_of_le (by omega)]
    rfl
  | succ d ih =>
    intro i hi
    have h1 : i < ids.length := by omega
    refine .s (fun k => windroseref06_Apart.l5_s k _ _ _) (.t (by omega) (.t (by omega) ?_))
    rw [nth_get _ _ _ h1, List.drop_eq_getElem_cons h1, apartR]
    have ih := ih (i + 1) (by omega)
    rw [List.take_add_one, List.getElem?_eq_getElem h1, Option.toList_some, List.map_append, List.map_singleton] at ih
    refine .b (reffind l _ hl) ?_
    have e : zn l ids[i] = (find l ids[i]).1.f1 := rfl
    unfold find at e ⊢
    cases hf : l.find? (fun n => decide (n.f0 = ids[i])) with
    | none => exact .n (by decide) (.c _)
    | some n =>
      rw [hf] at e
      rw [e] at ih
      refine .t rfl ?_
      refine apart_l31 l ids i (n, true) _ hl h1 (by omega) i 0 (by omega) ?_ ?_
      · intro h
        rw [List.drop_zero] at h
        show (!decide (n.f1 ∈ _) && _) = false
        rw [decide_eq_true h]
        rfl
      · intro h
        rw [List.drop_zero] at h
        refine ih.v ?_
        show _ = (!decide (n.f1 ∈ _) && _)
        rw [decide_eq_false h]
        rfl
theorem refapart (l : List T_api_Node) (ids : List Int) (hl : l.length < 4611686018427387904) (hil : ids.length < 500000000000) : Ev (fun k => windroseref06_Apart.f k l ids) (apartR l [] ids) := by
  unfold windroseref06_Apart.f
  exact apart_l5 l ids hl hil ids.length 0 (by omega)

end Topo
namespace Maps
/-! maps that may be -/
theorem min' (x a b : Int) : maps_in.f x a b = some (decide (a ≤ x ∧ x ≤ b)) := by
  unfold maps_in.f
  by_cases h : x ≥ a
  · rw [if_pos h]
    congr 1
    simp only [decide_eq_decide]
    omega
  · rw [if_neg h, decide_eq_false (by omega)]
def temps (m : T_api_Map) : Int → List T_api_Temp → Bool
  | _, [] => true
  | p, t :: l => (decide ((0 ≤ t.f0 ∧ t.f0 < m.f3) ∧ p < t.f0 ∧ 1 ≤ (t.f1.length : Int) ∧ (t.f1.length : Int) ≤ m.f1) && Topo.apartR m.f4 [] t.f1) && temps m t.f0 l
def riseI : Int → List Int → Bool
  | _, [] => true
  | p, n :: l => decide ((1 ≤ n ∧ n ≤ 999) ∧ p < n) && riseI n l
def past (m : T_api_Map) (since : Int) : Int → List T_api_Span → List T_api_Span → Bool
  | _, _, [] => true
  | p, seen, s :: l => (decide ((0 ≤ s.f0 ∧ s.f0 < since) ∧ p < s.f0 ∧ m.f2 ≤ (s.f1.length : Int) ∧ (s.f1.length : Int) ≤ m.f1) && riseI 0 s.f1 && !decide (∃ x ∈ seen, x.f1 = s.f1)) && past m since s.f0 (seen ++ [s]) l
def trails (m : T_api_Map) : List T_api_Trail → Bool
  | [] => true
  | t :: l => (decide (0 ≤ t.f0 ∧ t.f0 ≤ m.f0) && past m t.f0 (-1) [] t.f1) && trails m l
def Flat (m : T_api_Map) : Prop := (0 ≤ m.f0 ∧ m.f0 ≤ 2147483647) ∧ (1 ≤ m.f1 ∧ m.f1 ≤ 3) ∧ (1 ≤ m.f2 ∧ m.f2 ≤ m.f1) ∧ (1 ≤ m.f3 ∧ m.f3 ≤ 8) ∧ Topo.Nodes m.f4
instance (m : T_api_Map) : Decidable (Flat m) := inferInstanceAs (Decidable (_ ∧ _))
def May (m : T_api_Map) : Prop := Flat m ∧ temps m (-1) m.f5 = true ∧ (m.f6.length : Int) = m.f3 ∧ trails m m.f6 = true
instance (m : T_api_Map) : Decidable (May m) := inferInstanceAs (Decidable (_ ∧ _))
/-- Rows of a length that the counts can tell. -/
structure Small (m : T_api_Map) : Prop where
  h4 : m.f4.length < 4611686018427387904
  h5 : m.f5.length < 4611686018427387904
  h6 : m.f6.length < 4611686018427387904
  hp : ∀ t ∈ m.f6, t.f1.length < 4611686018427387904
  hs : ∀ t ∈ m.f6, ∀ s ∈ t.f1, s.f1.length < 4611686018427387904
theorem small_i {m : T_api_Map} (h : Small m) : True := trivial
def preT (l : List T_api_Temp) (i : Nat) : Int := if i = 0 then -1 else (nth T_api_Temp.z l (w64 ((i : Int) - 1))).f0
theorem preT_succ (l : List T_api_Temp) (i : Nat) (h : i < l.length) (hl : l.length < 4611686018427387904) : preT l (i + 1) = l[i].f0 := by
  unfold preT
  rw [if_neg (by omega), w64p (i + 1) (by omega) (by omega), show i + 1 - 1 = i by omega, nth_get _ _ _ h]
def preS (l : List T_api_Span) (i : Nat) : Int := if i = 0 then -1 else (nth T_api_Span.z l (w64 ((i : Int) - 1))).f0
theorem preS_succ (l : List T_api_Span) (i : Nat) (h : i < l.length) (hl : l.length < 4611686018427387904) : preS l (i + 1) = l[i].f0 := by
  unfold preS
  rw [if_neg (by omega), w64p (i + 1) (by omega) (by omega), show i + 1 - 1 = i by omega, nth_get _ _ _ h]
def preI (l : List Int) (i : Nat) : Int := if i = 0 then 0 else nth 0 l (w64 ((i : Int) - 1))
theorem preI_succ (l : List Int) (i : Nat) (h : i < l.length) (hl : l.length < 4611686018427387904) : preI l (i + 1) = l[i] := by
  unfold preI
  rw [if_neg (by omega), w64p (i + 1) (by omega) (by omega), show i + 1 - 1 = i by omega, nth_get _ _ _ h]
/-! rows of numbers alike -/
theorem drop_eq {α : Type} (a b : List α) (i : Nat) (ha : i < a.length) (hb : i < b.length) : (a.drop i = b.drop i) ↔ (a[i] = b[i] ∧ a.drop (i + 1) = b.drop (i + 1)) := by
  rw [List.drop_eq_getElem_cons ha, List.drop_eq_getElem_cons hb, List.cons.injEq]
theorem equal_l9 (a b : List Int) (hab : a.length = b.length) (hl : a.length < 4611686018427387904) : ∀ (d i : Nat), i + d = a.length → Ev (fun k => slices_Equal__int_int.l9 k a b (i : Int)) (decide (a.drop i = b.drop i)) := by
  intro d
  induction d with
  | zero =>
    intro i hi
    refine .s (fun k => slices_Equal__int_int.l9_s k _ _ _) (.n (by omega) (.cv ?_))
    rw [List.drop_eq_nil_of_le (by omega), List.drop_eq_nil_of_le (by omega)]
    rfl
  | succ d ih =>
    intro i hi
    have h1 : i < a.length := by omega
    have h2 : i < b.length := by omega
    refine .s (fun k => slices_Equal__int_int.l9_s k _ _ _) (.t (by omega) (.t (by omega) (.t (by omega) ?_)))
    rw [nth_get _ _ _ h1, nth_get _ _ _ h2, w64n i (by omega)]
    refine .i (fun h => (ih (i + 1) (by omega)).v ?_) (fun h => .cv ?_)
    · simp only [drop_eq a b i h1 h2, h, true_and]
    · simp only [drop_eq a b i h1 h2, h, false_and, decide_false]
theorem equal (a b : List Int) (hl : a.length < 4611686018427387904) : Ev (fun k => slices_Equal__int_int.f k a b) (decide (a = b)) := by
  unfold slices_Equal__int_int.f
  refine .i (fun h => equal_l9 a b (by omega) hl a.length 0 (by omega)) (fun h => .cv ?_)
  exact (decide_eq_false (fun e => h (by rw [e]))).symm
theorem ints_l9 (a b : List Int) (hab : a.length = b.length) (hl : a.length < 4611686018427387904) : ∀ (d i : Nat), i + d = a.length → Ev (fun k => windroseref02_Ints.l9 k a b (i : Int)) (decide (a.drop i = b.drop i)) := by
  intro d
  induction d with
  | zero =>
    intro i hi
    refine .s (fun k => windroseref02_Ints.l9_s k _ _ _) (.n (by omega) (.cv ?_))
    rw [List.drop_eq_nil_of_le (by omega), List.drop_eq_nil_of_le (by omega)]
    rfl
  | succ d ih =>
    intro i hi
    have h1 : i < a.length := by omega
    have h2 : i < b.length := by omega
    refine .s (fun k => windroseref02_Ints.l9_s k _ _ _) (.t (by omega) (.t (by omega) (.t (by omega) ?_)))
    rw [nth_get _ _ _ h1, nth_get _ _ _ h2, w64n i (by omega)]
    refine .i (fun h => (ih (i + 1) (by omega)).v ?_) (fun h => .cv ?_)
    · simp only [drop_eq a b i h1 h2, h, true_and]
    · simp only [drop_eq a b i h1 h2, h, false_and, decide_false]
theorem ints (a b : List Int) (hl : a.length < 4611686018427387904) : Ev (fun k => windroseref02_Ints.f k a b) (decide (a = b)) := by
  unfold windroseref02_Ints.f
  refine .i (fun h => ints_l9 a b (by omega) hl a.length 0 (by omega)) (fun h => .cv ?_)
  exact (decide_eq_false (fun e => h (by rw [e]))).symm
/-! the past, as the program looks at it -/
theorem seen_l5 (l : List T_api_Span) (s : T_api_Span) (hl : l.length < 4611686018427387904) (hs : ∀ x ∈ l, x.f1.length < 4611686018427387904) : ∀ (d i : Nat), i + d = l.length → ∃ x, Ev (fun k => slices_IndexFunc__api_Span_api_Span_of_maps_past_1.l5 k l s (i : Int)) x ∧ (0 ≤ x ↔ ∃ y ∈ l.drop i, y.f1 = s.f1) := by
  intro d
  induction d with
  | zero =>
    intro i hi
    refine ⟨-1, .s (fun k => slices_IndexFunc__api_Span_api_Span_of_maps_past_1.l5_s k _ _ _) (.n (by omega) (.c _)), ?_⟩
    rw [List.drop_eq_nil_of_le (by omega)]
    simp
  | succ d ih =>
    intro i hi
    have h1 : i < l.length := by omega
    obtain ⟨x, hx, hm⟩ := ih (i + 1) (by omega)
    have hq : Ev (fun k => maps_past_1.f k l[i] s) (decide (l[i].f1 = s.f1)) := by
      unfold maps_past_1.f
      exact .b (equal _ _ (hs _ (List.getElem_mem h1))) (.c _)
    by_cases h : l[i].f1 = s.f1
    · refine ⟨i, .s (fun k => slices_IndexFunc__api_Span_api_Span_of_maps_past_1.l5_s k _ _ _) (.t (by omega) (.t (by omega) ?_)), ?_⟩
      · rw [nth_get _ _ _ h1]
        exact .b hq (.t (decide_eq_true h) (.c _))
      · rw [List.drop_eq_getElem_cons h1]
        exact ⟨fun _ => ⟨_, List.mem_cons_self, h⟩, fun _ => by omega⟩
    · refine ⟨x, .s (fun k => slices_IndexFunc__api_Span_api_Span_of_maps_past_1.l5_s k _ _ _) (.t (by omega) (.t (by omega) ?_)), ?_⟩
      · rw [nth_get _ _ _ h1, w64n i (by omega)]
        exact .b hq (.n (by simpa using h) hx)
      · rw [List.drop_eq_getElem_cons h1, hm]
        exact ⟨fun ⟨y, m, e⟩ => ⟨y, List.mem_cons.2 (.inr m), e⟩, fun ⟨y, m, e⟩ => ⟨y, (List.mem_cons.1 m).resolve_left (fun q => h (q ▸ e)), e⟩⟩
theorem seen (l : List T_api_Span) (s : T_api_Span) (hl : l.length < 4611686018427387904) (hs : ∀ x ∈ l, x.f1.length < 4611686018427387904) : Ev (fun k => slices_ContainsFunc__api_Span_api_Span_of_maps_past_1.f k l s) (decide (∃ y ∈ l, y.f1 = s.f1)) := by
  obtain ⟨x, hx, hm⟩ := seen_l5 l s hl hs l.length 0 (by omega)
  unfold slices_ContainsFunc__api_Span_api_Span_of_maps_past_1.f slices_IndexFunc__api_Span_api_Span_of_maps_past_1.f
  refine .b hx (.cv ?_)
  rw [decide_eq_decide]
  exact hm
theorem past_l61 (m : T_api_Map) (t : T_api_Trail) (i : Nat) (hl : t.f1.length < 4611686018427387904) (hs : ∀ s ∈ t.f1, s.f1.length < 4611686018427387904) (hi : i < t.f1.length) (w : Bool)
    (hc : riseI 0 t.f1[i].f1 = true → (∃ y ∈ t.f1.take i, y.f1 = t.f1[i].f1) → w = false)
    (hn : riseI 0 t.f1[i].f1 = true → (¬ ∃ y ∈ t.f1.take i, y.f1 = t.f1[i].f1) → Ev (fun k => maps_past.l9 k m t ((i + 1 : Nat) : Int)) w)
    (hr : ¬ riseI 0 t.f1[i].f1 = true → w = false) : ∀ (d j : Nat), j + d = t.f1[i].f1.length → (riseI 0 t.f1[i].f1 = riseI (preI t.f1[i].f1 j) (t.f1[i].f1.drop j)) → Ev (fun k => maps_past.l61 k m t (i : Int) (j : Int)) w := by
  have hz := nth_get T_api_Span.z _ _ hi
  have hsl := hs _ (List.getElem_mem hi)
  intro d
  induction d with
  | zero =>
    intro j hj he
    refine .s (fun k => maps_past.l61_s k _ _ _ _) ?_
    rw [hz]
    rw [List.drop_eq_nil_of_le (by omega)] at he
    refine .n (by omega) (.t (by omega) ?_)
    rw [show cutl t.f1 0 (i : Int) = t.f1.take i by simp [cutl], w64n i (by omega)]
    refine .b (seen _ _ (by simp; omega) (fun x m => hs x (List.mem_of_mem_take m))) ?_
    refine .i (fun h => .cv (hc he ?_).symm) (fun h => hn he ?_)
    · simpa using h
    · simpa using h
  | succ d ih =>
    intro j hj he
    have h1 : j < t.f1[i].f1.length := by omega
    refine .s (fun k => maps_past.l61_s k _ _ _ _) ?_
    rw [hz]
    refine .t (by omega) (.t (by omega) ?_)
    rw [List.drop_eq_getElem_cons h1] at he
    simp only [riseI] at he
    have hb : ∀ b : Bool, (b = true ↔ ¬ ((1 ≤ t.f1[i].f1[j] ∧ t.f1[i].f1[j] ≤ 999) ∧ preI t.f1[i].f1 j < t.f1[i].f1[j])) → Ev (fun k => maps_past.j86 k m t (i : Int) (j : Int) b) w := by
      intro b hb
      refine .s (fun k => maps_past.j86_s k _ _ _ _ _) ?_
      by_cases h : (1 ≤ t.f1[i].f1[j] ∧ t.f1[i].f1[j] ≤ 999) ∧ preI t.f1[i].f1 j < t.f1[i].f1[j]
      · refine .n (fun e => (hb.1 e) h) ?_
        rw [w64n j (by omega)]
        refine ih (j + 1) (by omega) ?_
        rw [he, preI_succ _ j h1 hsl, decide_eq_true h, Bool.true_and]
      · refine .t (hb.2 h) (.cv (hr ?_).symm)
        rw [he, decide_eq_false h]
        simp
    clear he ih hr hn hc
    rw [nth_get _ _ _ h1]
    have hp0 : j = 0 → preI t.f1[i].f1 j = 0 := fun e => if_pos e
    have hp1 : j ≠ 0 → nth 0 t.f1[i].f1 (w64 ((j : Int) - 1)) = preI t.f1[i].f1 j := fun e => (if_neg e).symm
    have hw : j ≠ 0 → w64 ((j : Int) - 1) = ((j - 1 : Nat) : Int) := fun e => w64p j (by omega) (by omega)
    generalize preI t.f1[i].f1 j = p at *
    generalize nth 0 t.f1[i].f1 (w64 ((j : Int) - 1)) = q at *
    generalize t.f1[i].f1[j] = n at *
    repeat' (first | refine Ev.b0 (min' _ _ _) ?_ | refine Ev.i (fun _ => ?_) (fun _ => ?_))
    all_goals simp only [decide_eq_true_eq] at *
    all_goals first
      | exact hb _ (by simp only [decide_eq_true_eq, Bool.false_eq_true, true_iff, false_iff]; omega)
      | (exfalso; omega)
theorem past_l9 (m : T_api_Map) (t : T_api_Trail) (hl : t.f1.length < 4611686018427387904) (hs : ∀ s ∈ t.f1, s.f1.length < 4611686018427387904) (ht : 0 ≤ t.f0 ∧ t.f0 ≤ 2147483647) : ∀ (d i : Nat), i + d = t.f1.length → Ev (fun k => maps_past.l9 k m t (i : Int)) (past m t.f0 (preS t.f1 i) (t.f1.take i) (t.f1.drop i)) := by
  intro d
  induction d with
  | zero =>
    intro i hi
    refine .s (fun k => maps_past.l9_s k _ _ _) (.n (by omega) (.cv ?_))
    rw [List.drop_eq_nil_of_le (by omega)]
    rfl
  | succ d ih =>
    intro i hi
    have h1 : i < t.f1.length := by omega
    refine .s (fun k => maps_past.l9_s k _ _ _) (.t (by omega) (.t (by omega) ?_))
    have ih := ih (i + 1) (by omega)
    rw [preS_succ _ i h1 hl, List.take_add_one, List.getElem?_eq_getElem h1, Option.toList_some] at ih
    rw [nth_get _ _ _ h1, List.drop_eq_getElem_cons h1]
    simp only [past]
    have hj : ∀ b : Bool, (b = true ↔ ¬ ((0 ≤ t.f1[i].f0 ∧ t.f1[i].f0 < t.f0) ∧ preS t.f1 i < t.f1[i].f0 ∧ m.f2 ≤ (t.f1[i].f1.length : Int) ∧ (t.f1[i].f1.length : Int) ≤ m.f1)) → Ev (fun k => maps_past.j51 k m t (i : Int) b) (decide ((0 ≤ t.f1[i].f0 ∧ t.f1[i].f0 < t.f0) ∧ preS t.f1 i < t.f1[i].f0 ∧ m.f2 ≤ (t.f1[i].f1.length : Int) ∧ (t.f1[i].f1.length : Int) ≤ m.f1) && riseI 0 t.f1[i].f1 && !decide (∃ x ∈ t.f1.take i, x.f1 = t.f1[i].f1) && past m t.f0 t.f1[i].f0 (t.f1.take i ++ [t.f1[i]]) (t.f1.drop (i + 1))) := by
      intro b hb
      refine .s (fun k => maps_past.j51_s k _ _ _ _) ?_
      by_cases h : (0 ≤ t.f1[i].f0 ∧ t.f1[i].f0 < t.f0) ∧ preS t.f1 i < t.f1[i].f0 ∧ m.f2 ≤ (t.f1[i].f1.length : Int) ∧ (t.f1[i].f1.length : Int) ≤ m.f1
      · refine .n (fun e => (hb.1 e) h) ?_
        rw [decide_eq_true h, Bool.true_and]
        refine past_l61 m t i hl hs h1 _ ?_ ?_ ?_ t.f1[i].f1.length 0 (by omega) (by rw [List.drop_zero]; rfl)
        · intro h2 h3
          rw [h2, decide_eq_true h3]
          simp
        · intro h2 h3
          refine ih.v ?_
          rw [h2, decide_eq_false h3]
          simp
        · intro h2
          simp [h2]
      · refine .t (hb.2 h) (.cv ?_)
        rw [decide_eq_false h]
        simp
    clear ih
    have hp0 : i = 0 → preS t.f1 i = -1 := fun e => if_pos e
    have hp1 : i ≠ 0 → (nth T_api_Span.z t.f1 (w64 ((i : Int) - 1))).f0 = preS t.f1 i := fun e => (if_neg e).symm
    have hw : i ≠ 0 → w64 ((i : Int) - 1) = ((i - 1 : Nat) : Int) := fun e => w64p i (by omega) (by omega)
    have hw2 : w64 (t.f0 - 1) = t.f0 - 1 := w64_of (by omega) (by omega)
    rw [hw2]
    generalize hv : (decide ((0 ≤ t.f1[i].f0 ∧ t.f1[i].f0 < t.f0) ∧ preS t.f1 i < t.f1[i].f0 ∧ m.f2 ≤ (t.f1[i].f1.length : Int) ∧ (t.f1[i].f1.length : Int) ≤ m.f1) && riseI 0 t.f1[i].f1 && !decide (∃ x ∈ t.f1.take i, x.f1 = t.f1[i].f1) && past m t.f0 t.f1[i].f0 (t.f1.take i ++ [t.f1[i]]) (t.f1.drop (i + 1))) = v at hj ⊢
    clear hv
    generalize preS t.f1 i = p at *
    generalize (nth T_api_Span.z t.f1 (w64 ((i : Int) - 1))).f0 = q at *
    generalize t.f1[i] = n at *
    repeat' (first | refine Ev.b0 (min' _ _ _) ?_ | refine Ev.i (fun _ => ?_) (fun _ => ?_))
    all_goals simp only [decide_eq_true_eq] at *
    all_goals first
      | exact hj _ (by simp only [decide_eq_true_eq, Bool.false_eq_true, true_iff, false_iff, Bool.not_eq_true', decide_eq_false_iff_not]; omega)
      | (exfalso; omega)
theorem pastf (m : T_api_Map) (t : T_api_Trail) (hl : t.f1.length < 4611686018427387904) (hs : ∀ s ∈ t.f1, s.f1.length < 4611686018427387904) (ht : 0 ≤ t.f0 ∧ t.f0 ≤ 2147483647) : Ev (fun k => maps_past.f k m t) (past m t.f0 (-1) [] t.f1) := by
  unfold maps_past.f
  exact past_l9 m t hl hs ht t.f1.length 0 (by omega)
theorem trails_l11 (m : T_api_Map) (hm : Small m) (h0 : m.f0 ≤ 2147483647) : ∀ (d i : Nat), i + d = m.f6.length → Ev (fun k => maps_trails.l11 k m (i : Int)) (eno (trails m (m.f6.drop i))) := by
  have h6 := hm.h6
  intro d
  induction d with
  | zero =>
    intro i hi
    refine .s (fun k => maps_trails.l11_s k _ _) (.n (by omega) (.cv ?_))
    rw [List.drop_eq_nil_of_le (by omega)]
    rfl
  | succ d ih =>
    intro i hi
    have h1 : i < m.f6.length := by omega
    refine .s (fun k => maps_trails.l11_s k _ _) (.t (by omega) (.t (by omega) ?_))
    have ih := ih (i + 1) (by omega)
    rw [nth_get _ _ _ h1, List.drop_eq_getElem_cons h1, trails]
    refine .b0 (min' _ _ _) (.i (fun h => ?_) (fun h => ?_))
    · have h := of_decide_eq_true h
      refine .b (pastf m m.f6[i] (hm.hp _ (List.getElem_mem h1)) (hm.hs _ (List.getElem_mem h1)) (by omega)) (.s (fun k => maps_trails.j40_s k _ _ _) ?_)
      rw [decide_eq_true h, Bool.true_and, w64n i (by omega)]
      cases past m m.f6[i].f0 (-1) [] m.f6[i].f1 with
      | true => exact .n (by decide) ih
      | false => exact .t rfl (.c _)
    · refine .s (fun k => maps_trails.j40_s k _ _ _) (.t rfl (.cv ?_))
      have h : ¬ (0 ≤ m.f6[i].f0 ∧ m.f6[i].f0 ≤ m.f0) := fun e => h (decide_eq_true e)
      rw [decide_eq_false h]
      rfl
theorem trailsf (m : T_api_Map) (hm : Small m) (h0 : m.f0 ≤ 2147483647) : Ev (fun k => maps_trails.f k m) (eno (decide ((m.f6.length : Int) = m.f3 ∧ trails m m.f6 = true))) := by
  unfold maps_trails.f
  refine .i (fun h => (trails_l11 m hm h0 m.f6.length 0 (by omega)).v ?_) (fun h => .cv ?_)
  · rw [List.drop_zero]
    congr 1
    simp [h]
  · rw [decide_eq_false (fun e => h e.1)]
    rfl
theorem check_l36 (m : T_api_Map) (hm : Small m) (hf : Flat m) : ∀ (d i : Nat), i + d = m.f5.length → Ev (fun k => maps_Check.l36 k m (i : Int)) (eno (temps m (preT m.f5 i) (m.f5.drop i) && decide ((m.f6.length : Int) = m.f3 ∧ trails m m.f6 = true))) := by
  have h5 := hm.h5
  have hg := hf.2.2.2.1
  intro d
  induction d with
  | zero =>
    intro i hi
    refine .s (fun k => maps_Check.l36_s k _ _) (.n (by omega) (.b (trailsf m hm hf.1.2) (.cv ?_)))
    rw [List.drop_eq_nil_of_le (by omega)]
    rfl
  | succ d ih =>
    intro i hi
    have h1 : i < m.f5.length := by omega
    refine .s (fun k => maps_Check.l36_s k _ _) (.t (by omega) (.t (by omega) ?_))
    have ih := ih (i + 1) (by omega)
    rw [preT_succ _ i h1 h5] at ih
    rw [nth_get _ _ _ h1, List.drop_eq_getElem_cons h1, temps]
    have hj : ∀ b : Bool, (b = !(decide ((0 ≤ m.f5[i].f0 ∧ m.f5[i].f0 < m.f3) ∧ preT m.f5 i < m.f5[i].f0 ∧ 1 ≤ (m.f5[i].f1.length : Int) ∧ (m.f5[i].f1.length : Int) ≤ m.f1) && Topo.apartR m.f4 [] m.f5[i].f1)) → Ev (fun k => maps_Check.j85 k m (i : Int) b) (eno (((decide ((0 ≤ m.f5[i].f0 ∧ m.f5[i].f0 < m.f3) ∧ preT m.f5 i < m.f5[i].f0 ∧ 1 ≤ (m.f5[i].f1.length : Int) ∧ (m.f5[i].f1.length : Int) ≤ m.f1) && Topo.apartR m.f4 [] m.f5[i].f1) && temps m m.f5[i].f0 (m.f5.drop (i + 1))) && decide ((m.f6.length : Int) = m.f3 ∧ trails m m.f6 = true))) := by
      intro b hb
      refine .s (fun k => maps_Check.j85_s k _ _ _) ?_
      rw [w64n i (by omega)]
      generalize (decide ((0 ≤ m.f5[i].f0 ∧ m.f5[i].f0 < m.f3) ∧ preT m.f5 i < m.f5[i].f0 ∧ 1 ≤ (m.f5[i].f1.length : Int) ∧ (m.f5[i].f1.length : Int) ≤ m.f1) && Topo.apartR m.f4 [] m.f5[i].f1) = c at hb ⊢
      subst hb
      cases c with
      | true => exact .n (by decide) ih
      | false => exact .t rfl (.c _)
    clear ih
    have hj1 : ¬ ((0 ≤ m.f5[i].f0 ∧ m.f5[i].f0 < m.f3) ∧ preT m.f5 i < m.f5[i].f0 ∧ 1 ≤ (m.f5[i].f1.length : Int) ∧ (m.f5[i].f1.length : Int) ≤ m.f1) → Ev (fun k => maps_Check.j85 k m (i : Int) true) _ := fun h => hj true (by rw [decide_eq_false h]; rfl)
    have hj2 : ((0 ≤ m.f5[i].f0 ∧ m.f5[i].f0 < m.f3) ∧ preT m.f5 i < m.f5[i].f0 ∧ 1 ≤ (m.f5[i].f1.length : Int) ∧ (m.f5[i].f1.length : Int) ≤ m.f1) → Ev (fun k => (topo_Apart.f k m.f4 m.f5[i].f1).bind fun t75 => maps_Check.j85 k m (i : Int) (!t75)) _ := fun h => .b (Topo.apart m.f4 m.f5[i].f1 hm.h4 (by have := hf.2.1; omega)) (hj _ (by rw [decide_eq_true h, decide_eq_true hf.2.2.2.2]))
    have hp0 : i = 0 → preT m.f5 i = -1 := fun e => if_pos e
    have hp1 : i ≠ 0 → (nth T_api_Temp.z m.f5 (w64 ((i : Int) - 1))).f0 = preT m.f5 i := fun e => (if_neg e).symm
    have hw : i ≠ 0 → w64 ((i : Int) - 1) = ((i - 1 : Nat) : Int) := fun e => w64p i (by omega) (by omega)
    have hw2 : w64 (m.f3 - 1) = m.f3 - 1 := w64_of (by omega) (by omega)
    rw [hw2]
    clear hj
    generalize (eno (((decide ((0 ≤ m.f5[i].f0 ∧ m.f5[i].f0 < m.f3) ∧ preT m.f5 i < m.f5[i].f0 ∧ 1 ≤ (m.f5[i].f1.length : Int) ∧ (m.f5[i].f1.length : Int) ≤ m.f1) && Topo.apartR m.f4 [] m.f5[i].f1) && temps m m.f5[i].f0 (m.f5.drop (i + 1))) && decide ((m.f6.length : Int) = m.f3 ∧ trails m m.f6 = true))) = v at hj1 hj2 ⊢
    generalize preT m.f5 i = p at *
    generalize (nth T_api_Temp.z m.f5 (w64 ((i : Int) - 1))).f0 = q at *
    generalize m.f5[i] = n at *
    repeat' (first | refine Ev.b0 (min' _ _ _) ?_ | refine Ev.i (fun _ => ?_) (fun _ => ?_))
    all_goals simp only [decide_eq_true_eq] at *
    all_goals first
      | exact hj1 (by omega)
      | exact hj2 (by omega)
      | (exfalso; omega)
theorem check (m : T_api_Map) (hm : Small m) : Ev (fun k => maps_Check.f k m) (eno (decide (May m))) := by
  have hj1 : ¬ Flat m → Ev (fun k => maps_Check.j26 k m true) (eno (decide (May m))) := fun h => .s (fun k => maps_Check.j26_s k _ _) (.t rfl (.cv (by rw [decide_eq_false (fun e : May m => h e.1)]; rfl)))
  have hj2 : Flat m → Ev (fun k => maps_Check.j26 k m false) (eno (decide (May m))) := fun h => .s (fun k => maps_Check.j26_s k _ _) (.n (by decide) ((check_l36 m hm h m.f5.length 0 (by omega)).v (by
    rw [List.drop_zero]
    congr 1
    rw [Bool.eq_iff_iff, Bool.and_eq_true, decide_eq_true_eq, decide_eq_true_eq]
    exact ⟨fun e => ⟨h, e⟩, fun e => e.2⟩)))
  unfold maps_Check.f
  generalize eno (decide (May m)) = v at *
  unfold Flat at hj1 hj2
  refine .b0 (min' _ _ _) (.i (fun h => .b0 (min' _ _ _) (.i (fun h => .b0 (min' _ _ _) (.i (fun h => .b0 (min' _ _ _) (.i (fun h => .b (Topo.check m.f4 hm.h4) ?_) (fun h => ?_))) (fun h => ?_))) (fun h => ?_))) (fun h => ?_))
  all_goals simp only [decide_eq_true_eq] at *
  · by_cases hN : Topo.Nodes m.f4
    · rw [decide_eq_true hN]
      refine hj2 ⟨?_, ?_, ?_, ?_, hN⟩ <;> omega
    · rw [decide_eq_false hN]
      exact hj1 (fun e => hN e.2.2.2.2)
  all_goals refine hj1 (fun e => ?_)
  all_goals have := e.1
  all_goals have := e.2.1
  all_goals have := e.2.2.1
  all_goals have := e.2.2.2.1
  all_goals omega
/-! the same, as the document tells it -/
/-- A span's past so far, as the document looks at it: all ahead of it. -/
def ahead (s : T_api_Span) (seen : List T_api_Span) : Bool := decide (∀ x ∈ seen, x.f0 < s.f0 ∧ x.f1 ≠ s.f1)
def pastR (m : T_api_Map) (since : Int) : List T_api_Span → List T_api_Span → Bool
  | _, [] => true
  | seen, s :: l => (decide ((0 ≤ s.f0 ∧ s.f0 < since) ∧ m.f2 ≤ (s.f1.length : Int) ∧ (s.f1.length : Int) ≤ m.f1) && riseI 0 s.f1 && ahead s seen) && pastR m since (seen ++ [s]) l
theorem past_same (m : T_api_Map) (since : Int) : ∀ (l seen : List T_api_Span) (p : Int), (∀ x ∈ seen, x.f0 ≤ p) → (p = -1 ∨ ∃ x ∈ seen, x.f0 = p) → past m since p seen l = pastR m since seen l
  | [], _, _, _, _ => rfl
  | s :: l, seen, p, h1, h2 => by
    rw [past, pastR]
    by_cases h : (0 ≤ s.f0 ∧ s.f0 < since) ∧ p < s.f0 ∧ m.f2 ≤ (s.f1.length : Int) ∧ (s.f1.length : Int) ≤ m.f1
    · have h' : (0 ≤ s.f0 ∧ s.f0 < since) ∧ m.f2 ≤ (s.f1.length : Int) ∧ (s.f1.length : Int) ≤ m.f1 := ⟨h.1, h.2.2⟩
      have ha : (!decide (∃ x ∈ seen, x.f1 = s.f1)) = ahead s seen := by
        unfold ahead
        rw [Bool.eq_iff_iff, Bool.not_eq_true', decide_eq_false_iff_not, decide_eq_true_eq]
        exact ⟨fun e x hx => ⟨Int.lt_of_le_of_lt (h1 x hx) h.2.1, fun q => e ⟨x, hx, q⟩⟩, fun e ⟨x, hx, q⟩ => (e x hx).2 q⟩
      rw [decide_eq_true h, decide_eq_true h', ha, past_same m since l (seen ++ [s]) s.f0 ?_ (.inr ⟨s, by simp, rfl⟩)]
      · intro x hx
        rcases List.mem_append.1 hx with hx | hx
        · have := h1 x hx
          omega
        · simp only [List.mem_cons, List.not_mem_nil, or_false] at hx
          rw [hx]
          exact Int.le_refl _
    · rw [decide_eq_false h]
      simp only [Bool.false_and]
      by_cases h3 : (0 ≤ s.f0 ∧ s.f0 < since) ∧ m.f2 ≤ (s.f1.length : Int) ∧ (s.f1.length : Int) ≤ m.f1
      · have : ahead s seen = false := by
          unfold ahead
          rw [decide_eq_false_iff_not]
          intro e
          rcases h2 with rfl | ⟨x, hx, rfl⟩
          · exact h ⟨h3.1, by omega, h3.2⟩
          · exact h ⟨h3.1, (e x hx).1, h3.2⟩
        rw [this]
        simp
      · rw [decide_eq_false h3]
        simp
def trailsR (m : T_api_Map) : List T_api_Trail → Bool
  | [] => true
  | t :: l => (decide (0 ≤ t.f0 ∧ t.f0 ≤ m.f0) && pastR m t.f0 [] t.f1) && trailsR m l
theorem trails_same (m : T_api_Map) : ∀ l : List T_api_Trail, trails m l = trailsR m l
  | [] => rfl
  | t :: l => by
    rw [trails, trailsR, trails_same m l, past_same m t.f0 t.f1 [] (-1) (fun _ h => nomatch h) (.inl rfl)]
/-- What is to come behind a span of a trail. -/
def restR (m : T_api_Map) (i x : Nat) (t : T_api_Trail) : Bool := pastR m t.f0 (t.f1.take x) (t.f1.drop x) && trailsR m (m.f6.drop (i + 1)) && decide ((m.f6.length : Int) = m.f3)
theorem pasts_l113 (m : T_api_Map) (hm : Small m) (i x : Nat) (hi : i < m.f6.length) (hx : x < m.f6[i].f1.length) (w : Bool)
    (hy : ahead m.f6[i].f1[x] (m.f6[i].f1.take x) = false → w = false)
    (hn : ahead m.f6[i].f1[x] (m.f6[i].f1.take x) = true → Ev (fun k => windroseref08_pasts.l40 k m (i : Int) ((x + 1 : Nat) : Int)) w) :
    ∀ (d j : Nat), j + d = x → (∀ y ∈ m.f6[i].f1.take j, y.f0 < m.f6[i].f1[x].f0 ∧ y.f1 ≠ m.f6[i].f1[x].f1) → Ev (fun k => windroseref08_pasts.l113 k m (i : Int) (x : Int) (j : Int)) w := by
  have hz := nth_get T_api_Trail.z _ _ hi
  have hz2 := nth_get T_api_Span.z _ _ hx
  have hp := hm.hp _ (List.getElem_mem hi)
  have hs := hm.hs _ (List.getElem_mem hi)
  intro d
  induction d with
  | zero =>
    intro j hj h
    refine .s (fun k => windroseref08_pasts.l113_s k _ _ _ _) (.n (by omega) ?_)
    obtain rfl : j = x := by omega
    rw [w64n j (by omega)]
    exact hn (decide_eq_true h)
  | succ d ih =>
    intro j hj h
    have h1 : j < m.f6[i].f1.length := by omega
    refine .s (fun k => windroseref08_pasts.l113_s k _ _ _ _) ?_
    rw [hz, hz2, nth_get _ _ _ h1]
    refine .t (by omega) (.t (by omega) ?_)
    have hin : m.f6[i].f1[j] ∈ m.f6[i].f1.take x := List.mem_take_iff_getElem.2 ⟨j, by omega, rfl⟩
    refine .i (fun h2 => ?_) (fun h2 => .b (ints _ _ (hs _ (List.getElem_mem h1))) ?_)
    · refine .s (fun k => windroseref08_pasts.j137_s k _ _ _ _ _) (.t rfl (.cv (hy ?_).symm))
      exact decide_eq_false (fun e => by have := (e _ hin).1; omega)
    · refine .s (fun k => windroseref08_pasts.j137_s k _ _ _ _ _) (.i (fun h3 => .cv (hy ?_).symm) (fun h3 => ?_))
      · exact decide_eq_false (fun e => (e _ hin).2 (of_decide_eq_true h3))
      · rw [w64n j (by omega)]
        refine ih (j + 1) (by omega) ?_
        intro y hy
        rw [List.take_add_one, List.getElem?_eq_getElem h1, Option.toList_some] at hy
        rcases List.mem_append.1 hy with hy | hy
        · exact h y hy
        · simp only [List.mem_cons, List.not_mem_nil, or_false] at hy
          rw [hy]
          exact ⟨by omega, fun e => h3 (decide_eq_true e)⟩
theorem pasts_l76 (m : T_api_Map) (hm : Small m) (i x : Nat) (hi : i < m.f6.length) (hx : x < m.f6[i].f1.length) (w : Bool)
    (hc : riseI 0 m.f6[i].f1[x].f1 = true → Ev (fun k => windroseref08_pasts.l113 k m (i : Int) (x : Int) 0) w)
    (hr : riseI 0 m.f6[i].f1[x].f1 = false → w = false) : ∀ (d j : Nat), j + d = m.f6[i].f1[x].f1.length → (riseI 0 m.f6[i].f1[x].f1 = riseI (preI m.f6[i].f1[x].f1 j) (m.f6[i].f1[x].f1.drop j)) → Ev (fun k => windroseref08_pasts.l76 k m (i : Int) (x : Int) (j : Int)) w := by
  have hz := nth_get T_api_Trail.z _ _ hi
  have hz2 := nth_get T_api_Span.z _ _ hx
  have hsl := hm.hs _ (List.getElem_mem hi) _ (List.getElem_mem hx)
  generalize hs : m.f6[i].f1[x] = s at *
  intro d
  induction d with
  | zero =>
    intro j hj he
    refine .s (fun k => windroseref08_pasts.l76_s k _ _ _ _) ?_
    rw [hz, hz2]
    rw [List.drop_eq_nil_of_le (by omega)] at he
    exact .n (by omega) (hc he)
  | succ d ih =>
    intro j hj he
    have h1 : j < s.f1.length := by omega
    refine .s (fun k => windroseref08_pasts.l76_s k _ _ _ _) ?_
    rw [hz, hz2]
    refine .t (by omega) (.t (by omega) ?_)
    rw [List.drop_eq_getElem_cons h1] at he
    simp only [riseI] at he
    have hb : ∀ b : Bool, (b = true ↔ ¬ ((1 ≤ s.f1[j] ∧ s.f1[j] ≤ 999) ∧ preI s.f1 j < s.f1[j])) → Ev (fun k => windroseref08_pasts.j104 k m (i : Int) (x : Int) (j : Int) b) w := by
      intro b hb
      refine .s (fun k => windroseref08_pasts.j104_s k _ _ _ _ _) ?_
      by_cases h : (1 ≤ s.f1[j] ∧ s.f1[j] ≤ 999) ∧ preI s.f1 j < s.f1[j]
      · refine .n (fun e => (hb.1 e) h) ?_
        rw [w64n j (by omega)]
        refine ih (j + 1) (by omega) ?_
        rw [he, preI_succ _ j h1 hsl, decide_eq_true h, Bool.true_and]
      · refine .t (hb.2 h) (.cv (hr ?_).symm)
        rw [he, decide_eq_false h]
        simp
    clear he ih hr hc
    rw [nth_get _ _ _ h1]
    have hp0 : j = 0 → preI s.f1 j = 0 := fun e => if_pos e
    have hp1 : j ≠ 0 → nth 0 s.f1 (w64 ((j : Int) - 1)) = preI s.f1 j := fun e => (if_neg e).symm
    have hw : j ≠ 0 → w64 ((j : Int) - 1) = ((j - 1 : Nat) : Int) := fun e => w64p j (by omega) (by omega)
    generalize preI s.f1 j = p at *
    generalize nth 0 s.f1 (w64 ((j : Int) - 1)) = q at *
    generalize s.f1[j] = n at *
    clear hs hz hz2
    repeat' (first | refine Ev.i (fun _ => ?_) (fun _ => ?_))
    all_goals first
      | exact hb _ (by simp only [decide_eq_true_eq, Bool.false_eq_true, true_iff, false_iff]; omega)
      | (exfalso; omega)
theorem pasts_l40 (m : T_api_Map) (hm : Small m) (i : Nat) (hi : i < m.f6.length) (w : Bool → Bool)
    (hn : Ev (fun k => windroseref08_pasts.l7 k m ((i + 1 : Nat) : Int)) (w true)) (hw : w false = false) :
    ∀ (d j : Nat), j + d = m.f6[i].f1.length → Ev (fun k => windroseref08_pasts.l40 k m (i : Int) (j : Int)) (w (pastR m m.f6[i].f0 (m.f6[i].f1.take j) (m.f6[i].f1.drop j))) := by
  have hz := nth_get T_api_Trail.z _ _ hi
  have hp := hm.hp _ (List.getElem_mem hi)
  have h6 := hm.h6
  intro d
  induction d with
  | zero =>
    intro j hj
    refine .s (fun k => windroseref08_pasts.l40_s k _ _ _) ?_
    rw [hz]
    refine .n (by omega) ?_
    rw [List.drop_eq_nil_of_le (by omega), w64n i (by omega)]
    exact hn
  | succ d ih =>
    intro j hj
    have h1 : j < m.f6[i].f1.length := by omega
    refine .s (fun k => windroseref08_pasts.l40_s k _ _ _) ?_
    rw [hz]
    refine .t (by omega) (.t (by omega) ?_)
    have ih := ih (j + 1) (by omega)
    rw [List.take_add_one, List.getElem?_eq_getElem h1, Option.toList_some] at ih
    rw [nth_get _ _ _ h1, List.drop_eq_getElem_cons h1]
    simp only [pastR]
    have hb : ∀ b : Bool, (b = true ↔ ¬ ((0 ≤ m.f6[i].f1[j].f0 ∧ m.f6[i].f1[j].f0 < m.f6[i].f0) ∧ m.f2 ≤ (m.f6[i].f1[j].f1.length : Int) ∧ (m.f6[i].f1[j].f1.length : Int) ≤ m.f1)) → Ev (fun k => windroseref08_pasts.j66 k m (i : Int) (j : Int) b) (w ((decide ((0 ≤ m.f6[i].f1[j].f0 ∧ m.f6[i].f1[j].f0 < m.f6[i].f0) ∧ m.f2 ≤ (m.f6[i].f1[j].f1.length : Int) ∧ (m.f6[i].f1[j].f1.length : Int) ≤ m.f1) && riseI 0 m.f6[i].f1[j].f1 && ahead m.f6[i].f1[j] (m.f6[i].f1.take j)) && pastR m m.f6[i].f0 (m.f6[i].f1.take j ++ [m.f6[i].f1[j]]) (m.f6[i].f1.drop (j + 1)))) := by
      intro b hb
      refine .s (fun k => windroseref08_pasts.j66_s k _ _ _ _) ?_
      by_cases h : (0 ≤ m.f6[i].f1[j].f0 ∧ m.f6[i].f1[j].f0 < m.f6[i].f0) ∧ m.f2 ≤ (m.f6[i].f1[j].f1.length : Int) ∧ (m.f6[i].f1[j].f1.length : Int) ≤ m.f1
      · refine .n (fun e => (hb.1 e) h) ?_
        rw [decide_eq_true h, Bool.true_and]
        refine pasts_l76 m hm i j hi h1 _ ?_ ?_ m.f6[i].f1[j].f1.length 0 (by omega) (by rw [List.drop_zero]; rfl)
        · intro h2
          refine pasts_l113 m hm i j hi h1 _ ?_ ?_ j 0 (by omega) (fun _ hy => by rw [List.take_zero] at hy; cases hy)
          · intro h3
            rw [h3, Bool.and_false, Bool.false_and]
            exact hw
          · intro h3
            refine ih.v ?_
            rw [h2, h3]
            rfl
        · intro h2
          rw [h2]
          exact hw
      · refine .t (hb.2 h) (.cv ?_)
        rw [decide_eq_false h]
        exact hw.symm
    clear ih hn
    generalize (w ((decide ((0 ≤ m.f6[i].f1[j].f0 ∧ m.f6[i].f1[j].f0 < m.f6[i].f0) ∧ m.f2 ≤ (m.f6[i].f1[j].f1.length : Int) ∧ (m.f6[i].f1[j].f1.length : Int) ≤ m.f1) && riseI 0 m.f6[i].f1[j].f1 && ahead m.f6[i].f1[j] (m.f6[i].f1.take j)) && pastR m m.f6[i].f0 (m.f6[i].f1.take j ++ [m.f6[i].f1[j]]) (m.f6[i].f1.drop (j + 1)))) = v at hb ⊢
    generalize m.f6[i].f1[j] = n at *
    generalize m.f6[i].f0 = q at *
    clear hz
    repeat' (first | refine Ev.i (fun _ => ?_) (fun _ => ?_))
    all_goals first
      | exact hb _ (by simp only [decide_eq_true_eq, Bool.false_eq_true, true_iff, false_iff]; omega)
      | (exfalso; omega)
theorem pasts_l7 (m : T_api_Map) (hm : Small m) : ∀ (d i : Nat), i + d = m.f6.length → Ev (fun k => windroseref08_pasts.l7 k m (i : Int)) (trailsR m (m.f6.drop i) && decide ((m.f6.length : Int) = m.f3)) := by
  have h6 := hm.h6
  intro d
  induction d with
  | zero =>
    intro i hi
    refine .s (fun k => windroseref08_pasts.l7_s k _ _) (.n (by omega) (.cv ?_))
    rw [List.drop_eq_nil_of_le (by omega), trailsR, Bool.true_and]
    rw [Bool.eq_iff_iff, decide_eq_true_eq, beq_iff_eq]
  | succ d ih =>
    intro i hi
    have h1 : i < m.f6.length := by omega
    refine .s (fun k => windroseref08_pasts.l7_s k _ _) (.t (by omega) (.t (by omega) ?_))
    have ih := ih (i + 1) (by omega)
    rw [nth_get _ _ _ h1, List.drop_eq_getElem_cons h1, trailsR]
    have hj : ∀ b : Bool, (b = true ↔ ¬ (0 ≤ m.f6[i].f0 ∧ m.f6[i].f0 ≤ m.f0)) → Ev (fun k => windroseref08_pasts.j31 k m (i : Int) b) (decide (0 ≤ m.f6[i].f0 ∧ m.f6[i].f0 ≤ m.f0) && pastR m m.f6[i].f0 [] m.f6[i].f1 && trailsR m (m.f6.drop (i + 1)) && decide ((m.f6.length : Int) = m.f3)) := by
      intro b hb
      refine .s (fun k => windroseref08_pasts.j31_s k _ _ _) ?_
      by_cases h : 0 ≤ m.f6[i].f0 ∧ m.f6[i].f0 ≤ m.f0
      · refine .n (fun e => (hb.1 e) h) ?_
        rw [decide_eq_true h, Bool.true_and]
        have := pasts_l40 m hm i h1 (fun b => b && trailsR m (m.f6.drop (i + 1)) && decide ((m.f6.length : Int) = m.f3)) ih rfl m.f6[i].f1.length 0 (by omega)
        rw [List.take_zero, List.drop_zero] at this
        exact this
      · refine .t (hb.2 h) (.cv ?_)
        rw [decide_eq_false h]
        simp
    refine .i (fun h => hj _ ?_) (fun h => hj _ ?_)
    · simp only [true_iff]; omega
    · simp only [decide_eq_true_eq]; omega
theorem pasts (m : T_api_Map) (hm : Small m) : Ev (fun k => windroseref08_pasts.f k m) (decide ((m.f6.length : Int) = m.f3 ∧ trails m m.f6 = true)) := by
  unfold windroseref08_pasts.f
  refine (pasts_l7 m hm m.f6.length 0 (by omega)).v ?_
  rw [List.drop_zero, ← trails_same, Bool.eq_iff_iff, Bool.and_eq_true, decide_eq_true_eq, decide_eq_true_eq]
  exact And.comm
theorem may_l28 (m : T_api_Map) (hm : Small m) (hf : Flat m) : ∀ (d i : Nat), i + d = m.f5.length → Ev (fun k => windroseref08_May.l28 k m (i : Int)) (temps m (preT m.f5 i) (m.f5.drop i) && decide ((m.f6.length : Int) = m.f3 ∧ trails m m.f6 = true)) := by
  have h5 := hm.h5
  have hg := hf.2.2.2.1
  intro d
  induction d with
  | zero =>
    intro i hi
    refine .s (fun k => windroseref08_May.l28_s k _ _) (.n (by omega) (.b (pasts m hm) (.cv ?_)))
    rw [List.drop_eq_nil_of_le (by omega)]
    rfl
  | succ d ih =>
    intro i hi
    have h1 : i < m.f5.length := by omega
    refine .s (fun k => windroseref08_May.l28_s k _ _) (.t (by omega) (.t (by omega) ?_))
    have ih := ih (i + 1) (by omega)
    rw [preT_succ _ i h1 h5] at ih
    rw [nth_get _ _ _ h1, List.drop_eq_getElem_cons h1, temps]
    have hj : ∀ b : Bool, (b = !(decide ((0 ≤ m.f5[i].f0 ∧ m.f5[i].f0 < m.f3) ∧ preT m.f5 i < m.f5[i].f0 ∧ 1 ≤ (m.f5[i].f1.length : Int) ∧ (m.f5[i].f1.length : Int) ≤ m.f1) && Topo.apartR m.f4 [] m.f5[i].f1)) → Ev (fun k => windroseref08_May.j71 k m (i : Int) b) (((decide ((0 ≤ m.f5[i].f0 ∧ m.f5[i].f0 < m.f3) ∧ preT m.f5 i < m.f5[i].f0 ∧ 1 ≤ (m.f5[i].f1.length : Int) ∧ (m.f5[i].f1.length : Int) ≤ m.f1) && Topo.apartR m.f4 [] m.f5[i].f1) && temps m m.f5[i].f0 (m.f5.drop (i + 1))) && decide ((m.f6.length : Int) = m.f3 ∧ trails m m.f6 = true)) := by
      intro b hb
      refine .s (fun k => windroseref08_May.j71_s k _ _ _) ?_
      rw [w64n i (by omega)]
      generalize (decide ((0 ≤ m.f5[i].f0 ∧ m.f5[i].f0 < m.f3) ∧ preT m.f5 i < m.f5[i].f0 ∧ 1 ≤ (m.f5[i].f1.length : Int) ∧ (m.f5[i].f1.length : Int) ≤ m.f1) && Topo.apartR m.f4 [] m.f5[i].f1) = c at hb ⊢
      subst hb
      cases c with
      | true => exact .n (by decide) ih
      | false => exact .t rfl (.c _)
    clear ih
    have hj1 : ¬ ((0 ≤ m.f5[i].f0 ∧ m.f5[i].f0 < m.f3) ∧ preT m.f5 i < m.f5[i].f0 ∧ 1 ≤ (m.f5[i].f1.length : Int) ∧ (m.f5[i].f1.length : Int) ≤ m.f1) → Ev (fun k => windroseref08_May.j71 k m (i : Int) true) _ := fun h => hj true (by rw [decide_eq_false h]; rfl)
    have hj2 : ((0 ≤ m.f5[i].f0 ∧ m.f5[i].f0 < m.f3) ∧ preT m.f5 i < m.f5[i].f0 ∧ 1 ≤ (m.f5[i].f1.length : Int) ∧ (m.f5[i].f1.length : Int) ≤ m.f1) → Ev (fun k => (windroseref06_Apart.f k m.f4 m.f5[i].f1).bind fun t75 => windroseref08_May.j71 k m (i : Int) (!t75)) _ := fun h => .b (Topo.refapart m.f4 m.f5[i].f1 hm.h4 (by have := hf.2.1; omega)) (hj _ (by rw [decide_eq_true h]; rfl))
    have hp0 : i = 0 → preT m.f5 i = -1 := fun e => if_pos e
    have hp1 : i ≠ 0 → (nth T_api_Temp.z m.f5 (w64 ((i : Int) - 1))).f0 = preT m.f5 i := fun e => (if_neg e).symm
    have hw : i ≠ 0 → w64 ((i : Int) - 1) = ((i - 1 : Nat) : Int) := fun e => w64p i (by omega) (by omega)
    clear hj
    generalize (((decide ((0 ≤ m.f5[i].f0 ∧ m.f5[i].f0 < m.f3) ∧ preT m.f5 i < m.f5[i].f0 ∧ 1 ≤ (m.f5[i].f1.length : Int) ∧ (m.f5[i].f1.length : Int) ≤ m.f1) && Topo.apartR m.f4 [] m.f5[i].f1) && temps m m.f5[i].f0 (m.f5.drop (i + 1))) && decide ((m.f6.length : Int) = m.f3 ∧ trails m m.f6 = true)) = v at hj1 hj2 ⊢
    generalize preT m.f5 i = p at *
    generalize (nth T_api_Temp.z m.f5 (w64 ((i : Int) - 1))).f0 = q at *
    generalize m.f5[i] = n at *
    repeat' (first | refine Ev.i (fun _ => ?_) (fun _ => ?_))
    all_goals first
      | exact hj1 (by omega)
      | exact hj2 (by omega)
      | (exfalso; omega)
theorem may (m : T_api_Map) (hm : Small m) : Ev (fun k => windroseref08_May.f k m) (decide (May m)) := by
  have hj1 : ¬ Flat m → Ev (fun k => windroseref08_May.j18 k m true) (decide (May m)) := fun h => .s (fun k => windroseref08_May.j18_s k _ _) (.t rfl (.cv (decide_eq_false (fun e : May m => h e.1)).symm))
  have hj2 : Flat m → Ev (fun k => windroseref08_May.j18 k m false) (decide (May m)) := fun h => .s (fun k => windroseref08_May.j18_s k _ _) (.n (by decide) ((may_l28 m hm h m.f5.length 0 (by omega)).v (by
    rw [List.drop_zero, Bool.eq_iff_iff, Bool.and_eq_true, decide_eq_true_eq, decide_eq_true_eq]
    exact ⟨fun e => ⟨h, e⟩, fun e => e.2⟩)))
  have hj3 : (0 ≤ m.f0 ∧ m.f0 ≤ 2147483647) ∧ (1 ≤ m.f1 ∧ m.f1 ≤ 3) ∧ (1 ≤ m.f2 ∧ m.f2 ≤ m.f1) ∧ (1 ≤ m.f3 ∧ m.f3 ≤ 8) → Ev (fun k => (windroseref06_May.f k m.f4).bind fun t15 => windroseref08_May.j18 k m (!t15)) (decide (May m)) := by
    intro h
    refine .b (Topo.may m.f4 hm.h4) ?_
    by_cases hN : Topo.Nodes m.f4
    · rw [decide_eq_true hN]
      exact hj2 ⟨h.1, h.2.1, h.2.2.1, h.2.2.2, hN⟩
    · rw [decide_eq_false hN]
      exact hj1 (fun e => hN e.2.2.2.2)
  unfold windroseref08_May.f
  generalize decide (May m) = v at *
  have hj4 : ¬ ((0 ≤ m.f0 ∧ m.f0 ≤ 2147483647) ∧ (1 ≤ m.f1 ∧ m.f1 ≤ 3) ∧ (1 ≤ m.f2 ∧ m.f2 ≤ m.f1) ∧ (1 ≤ m.f3 ∧ m.f3 ≤ 8)) → Ev (fun k => windroseref08_May.j18 k m true) v := fun h => hj1 (fun e => h ⟨e.1, e.2.1, e.2.2.1, e.2.2.2.1⟩)
  clear hj1 hj2
  repeat' (first | refine Ev.i (fun _ => ?_) (fun _ => ?_))
  all_goals first
    | exact hj4 (by omega)
    | exact hj3 (by omega)

/-! maps alike -/
theorem nodes_same (l : List T_api_Node) (hl : l.length < 4611686018427387904) : ∀ (d i : Nat), i + d = l.length → Ev (fun k => windroseref06_Same.l9 k l l (i : Int)) true := by
  intro d
  induction d with
  | zero => exact fun i hi => .s (fun k => windroseref06_Same.l9_s k _ _ _) (.n (by omega) (.c _))
  | succ d ih =>
    intro i hi
    refine .s (fun k => windroseref06_Same.l9_s k _ _ _) (.t (by omega) (.t (by omega) (.t (by omega) (.t rfl ?_))))
    rw [w64n i (by omega)]
    exact ih (i + 1) (by omega)
theorem spans_same (l : List T_api_Span) (hl : l.length < 4611686018427387904) (hs : ∀ s ∈ l, s.f1.length < 4611686018427387904) : ∀ (d i : Nat), i + d = l.length → Ev (fun k => windroseref08_Spans.l9 k l l (i : Int)) true := by
  intro d
  induction d with
  | zero => exact fun i hi => .s (fun k => windroseref08_Spans.l9_s k _ _ _) (.n (by omega) (.c _))
  | succ d ih =>
    intro i hi
    have h1 : i < l.length := by omega
    refine .s (fun k => windroseref08_Spans.l9_s k _ _ _) (.t (by omega) (.t (by omega) (.t (by omega) (.t rfl ?_))))
    rw [nth_get _ _ _ h1]
    refine .b (ints _ _ (hs _ (List.getElem_mem h1))) (.s (fun k => windroseref08_Spans.j45_s k _ _ _ _) ?_)
    rw [decide_eq_true rfl, w64n i (by omega)]
    exact .n (by decide) (ih (i + 1) (by omega))
theorem trails_refl (l : List T_api_Trail) (hl : l.length < 4611686018427387904) (hp : ∀ t ∈ l, t.f1.length < 4611686018427387904) (hs : ∀ t ∈ l, ∀ s ∈ t.f1, s.f1.length < 4611686018427387904) : ∀ (d i : Nat), i + d = l.length → Ev (fun k => windroseref08_trails.l9 k l l (i : Int)) true := by
  intro d
  induction d with
  | zero => exact fun i hi => .s (fun k => windroseref08_trails.l9_s k _ _ _) (.n (by omega) (.c _))
  | succ d ih =>
    intro i hi
    have h1 : i < l.length := by omega
    have hsp : Ev (fun k => windroseref08_Spans.f k l[i].f1 l[i].f1) true := by
      unfold windroseref08_Spans.f
      exact .t rfl (spans_same _ (hp _ (List.getElem_mem h1)) (hs _ (List.getElem_mem h1)) _ 0 (Nat.zero_add _))
    refine .s (fun k => windroseref08_trails.l9_s k _ _ _) (.t (by omega) (.t (by omega) (.t (by omega) (.t rfl ?_))))
    rw [nth_get _ _ _ h1]
    refine .b hsp (.s (fun k => windroseref08_trails.j45_s k _ _ _ _) (.n (by decide) ?_))
    rw [w64n i (by omega)]
    exact ih (i + 1) (by omega)
theorem same_refl (m : T_api_Map) (hm : Small m) (ht : ∀ t ∈ m.f5, t.f1.length < 4611686018427387904) : Ev (fun k => windroseref08_Same.f k m m) true := by
  have h4 := hm.h4
  have h5 := hm.h5
  have h6 := hm.h6
  have hN : Ev (fun k => windroseref06_Same.f k m.f4 m.f4) true := by
    unfold windroseref06_Same.f
    exact .t rfl (nodes_same _ h4 _ 0 (Nat.zero_add _))
  have hT : Ev (fun k => windroseref08_trails.f k m.f6 m.f6) true := by
    unfold windroseref08_trails.f
    exact .t rfl (trails_refl _ h6 hm.hp hm.hs _ 0 (Nat.zero_add _))
  have hL : ∀ (d i : Nat), i + d = m.f5.length → Ev (fun k => windroseref08_Same.l27 k m m (i : Int)) true := by
    intro d
    induction d with
    | zero => exact fun i hi => .s (fun k => windroseref08_Same.l27_s k _ _ _) (.n (by omega) (.b hT (.c _)))
    | succ d ih =>
      intro i hi
      have h1 : i < m.f5.length := by omega
      refine .s (fun k => windroseref08_Same.l27_s k _ _ _) (.t (by omega) (.t (by omega) (.t (by omega) (.t rfl ?_))))
      rw [nth_get _ _ _ h1]
      refine .b (ints _ _ (ht _ (List.getElem_mem h1))) (.s (fun k => windroseref08_Same.j63_s k _ _ _ _) ?_)
      rw [decide_eq_true rfl, w64n i (by omega)]
      exact .n (by decide) (ih (i + 1) (by omega))
  unfold windroseref08_Same.f
  refine .t rfl (.t rfl (.t rfl (.t rfl (.b hN (.t rfl (.s (fun k => windroseref08_Same.j17_s k _ _ _) ?_))))))
  rw [show ((m.f5.length : Int) == (m.f5.length : Int)) = true from beq_self_eq_true _]
  exact .n (by decide) (hL _ 0 (Nat.zero_add _))

end Maps
namespace Read
/-- A run answers in the end, and the answer is such. -/
def Ht {β : Type} (f : Nat → Option β) (P : β → Prop) : Prop := ∃ v, Ev f v ∧ P v
theorem Ht.c {β : Type} {v : β} {P : β → Prop} (h : P v) : Ht (fun _ => some v) P := ⟨v, .c v, h⟩
theorem Ht.s {β : Type} {f g : Nat → Option β} {P : β → Prop} (h : ∀ k, f (k + 1) = g k) : Ht g P → Ht f P := fun ⟨v, e, p⟩ => ⟨v, .s h e, p⟩
theorem Ht.b {α β : Type} {f : Nat → Option α} {g : Nat → α → Option β} {Q : α → Prop} {P : β → Prop} : Ht f Q → (∀ a, Q a → Ht (fun k => g k a) P) → Ht (fun k => (f k).bind (g k)) P := fun ⟨a, e, q⟩ h => by
  obtain ⟨v, e2, p⟩ := h a q
  exact ⟨v, .b e e2, p⟩
theorem Ht.e {α β : Type} {f : Nat → Option α} {g : Nat → α → Option β} {a : α} {P : β → Prop} (e : Ev f a) : Ht (fun k => g k a) P → Ht (fun k => (f k).bind (g k)) P := fun ⟨v, e2, p⟩ => ⟨v, .b e e2, p⟩
theorem Ht.o {α β : Type} {o : Option α} {g : Nat → α → Option β} {a : α} {P : β → Prop} (e : o = some a) : Ht (fun k => g k a) P → Ht (fun k => o.bind (g k)) P := fun ⟨v, e2, p⟩ => ⟨v, .b0 e e2, p⟩
theorem Ht.i {β : Type} {c : Prop} [Decidable c] {f g : Nat → Option β} {P : β → Prop} (hf : c → Ht f P) (hg : ¬ c → Ht g P) : Ht (fun k => if c then f k else g k) P := by
  by_cases h : c
  · simpa only [if_pos h] using hf h
  · simpa only [if_neg h] using hg h
theorem Ht.t {β : Type} {c : Prop} [Decidable c] {f g : Nat → Option β} {P : β → Prop} (h : c) (hf : Ht f P) : Ht (fun k => if c then f k else g k) P := .i (fun _ => hf) (fun n => absurd h n)
theorem Ht.n {β : Type} {c : Prop} [Decidable c] {f g : Nat → Option β} {P : β → Prop} (h : ¬ c) (hg : Ht g P) : Ht (fun k => if c then f k else g k) P := .i (fun n => absurd n h) (fun _ => hg)
theorem Ht.m {β : Type} {f : Nat → Option β} {P Q : β → Prop} (h : ∀ v, P v → Q v) : Ht f P → Ht f Q := fun ⟨v, e, p⟩ => ⟨v, e, h v p⟩
/-! data of maps -/
def bit : Bool → Int
  | true => 1
  | false => 0
def encN (n : T_api_Node) : List Int := [n.f0, n.f1, n.f2, n.f3, bit n.f4, bit n.f5]
def encT (t : T_api_Temp) : List Int := t.f0 :: (t.f1.length : Int) :: t.f1
def encS (s : T_api_Span) : List Int := s.f0 :: (s.f1.length : Int) :: s.f1
def encTr (t : T_api_Trail) : List Int := t.f0 :: (t.f1.length : Int) :: t.f1.flatMap encS
def enc (m : T_api_Map) : List Int := m.f0 :: m.f1 :: m.f2 :: m.f3 :: (m.f4.length : Int) :: (m.f4.flatMap encN ++ (m.f5.length : Int) :: (m.f5.flatMap encT ++ m.f6.flatMap encTr))
theorem flat_ge {α : Type} (f : α → List Int) (n : Nat) : ∀ l : List α, (∀ x ∈ l, n ≤ (f x).length) → l.length * n ≤ (l.flatMap f).length
  | [], _ => by simp
  | x :: l, h => by
    have h1 := flat_ge f n l (fun y m => h y (List.mem_cons_of_mem _ m))
    have h2 := h x List.mem_cons_self
    rw [List.flatMap_cons, List.length_append, List.length_cons, Nat.succ_mul]
    omega
theorem flat_le {α : Type} (f : α → List Int) (n : Nat) : ∀ l : List α, (∀ x ∈ l, (f x).length ≤ n) → (l.flatMap f).length ≤ l.length * n
  | [], _ => by simp
  | x :: l, h => by
    have h1 := flat_le f n l (fun y m => h y (List.mem_cons_of_mem _ m))
    have h2 := h x List.mem_cons_self
    rw [List.flatMap_cons, List.length_append, List.length_cons, Nat.succ_mul]
    omega
/-! the reader's steps -/
def nx (r : T_past_reader) : Int × T_past_reader := match r.f0 with
  | [] => (0, ⟨[], true⟩)
  | n :: l => (n, ⟨l, r.f1⟩)
theorem next (r : T_past_reader) : past_reader_next.f r = some (nx r) := by
  obtain ⟨l, b⟩ := r
  unfold past_reader_next.f nx
  cases l with
  | nil => rfl
  | cons n l =>
    dsimp only [List.length_cons]
    rw [if_neg (by omega), if_pos (by omega), if_pos (by omega)]
    simp [nth, cutl]
theorem nx_sound (r : T_past_reader) (h : (nx r).2.f1 = false) : r.f1 = false ∧ r.f0 = (nx r).1 :: (nx r).2.f0 := by
  obtain ⟨l, b⟩ := r
  cases l with
  | nil => cases h
  | cons n l => exact ⟨h, rfl⟩
theorem nx_len (r : T_past_reader) : (nx r).2.f0.length ≤ r.f0.length := by
  obtain ⟨l, b⟩ := r
  cases l with
  | nil => exact Nat.le_refl _
  | cons n l => exact Nat.le_succ _
def cnt (r : T_past_reader) (e : Int) : Int × T_past_reader := if (nx r).1 < 0 ∨ (nx r).1 > (((nx r).2.f0.length : Int).tdiv e) then (0, ⟨(nx r).2.f0, true⟩) else nx r
theorem count (r : T_past_reader) (e : Int) (he : 1 ≤ e) (hl : r.f0.length < 4611686018427387904) : Ev (fun k => past_reader_count.f k r e) (cnt r e) := by
  have h1 := nx_len r
  unfold past_reader_count.f cnt
  have hd : 0 ≤ (((nx r).2.f0.length : Int).tdiv e) ∧ (((nx r).2.f0.length : Int).tdiv e) ≤ ((nx r).2.f0.length : Int) := by
    rw [Int.tdiv_eq_ediv_of_nonneg (by omega)]
    exact ⟨Int.ediv_nonneg (by omega) (by omega), Int.ediv_le_self _ (by omega)⟩
  refine .b0 (next r) ?_
  rw [w64_of (by omega) (by omega)]
  generalize (((nx r).2.f0.length : Int).tdiv e) = x at *
  generalize nx r = q at *
  refine .i (fun h => .s (fun k => past_reader_count.j15_s k _ _) (.t rfl (.cv ?_))) (fun h => .t (by omega) (.s (fun k => past_reader_count.j15_s k _ _) (.i (fun h2 => .cv ?_) (fun h2 => .cv ?_))))
  · rw [if_pos (.inl h)]
  · rw [if_pos (.inr (of_decide_eq_true h2))]
  · rw [if_neg (fun o => o.elim h (fun n => h2 (decide_eq_true n)))]
theorem cnt_sound (r : T_past_reader) (e : Int) (h : (cnt r e).2.f1 = false) : r.f1 = false ∧ r.f0 = (cnt r e).1 :: (cnt r e).2.f0 := by
  unfold cnt at *
  split at h
  · cases h
  · rename_i h2
    rw [if_neg h2]
    exact nx_sound r h
theorem cnt_le (r : T_past_reader) (e : Int) (he : 1 ≤ e) : 0 ≤ (cnt r e).1 ∧ (cnt r e).1 ≤ (((cnt r e).2.f0.length : Int).tdiv e) ∧ (cnt r e).1 ≤ ((cnt r e).2.f0.length : Int) ∧ (cnt r e).2.f0.length ≤ r.f0.length := by
  have h1 := nx_len r
  have hd : ∀ n : Nat, 0 ≤ (n : Int).tdiv e ∧ (n : Int).tdiv e ≤ (n : Int) := by
    intro n
    rw [Int.tdiv_eq_ediv_of_nonneg (by omega)]
    exact ⟨Int.ediv_nonneg (by omega) (by omega), Int.ediv_le_self _ (by omega)⟩
  have hd := hd (nx r).2.f0.length
  unfold cnt
  by_cases h : (nx r).1 < 0 ∨ (nx r).1 > (((nx r).2.f0.length : Int).tdiv e)
  · rw [if_pos h]
    exact ⟨by omega, hd.1, by omega, h1⟩
  · rw [if_neg h]
    exact ⟨by omega, by omega, by omega, h1⟩
theorem cnt_cons (n e : Int) (l : List Int) (b : Bool) (he : 1 ≤ e) (h0 : 0 ≤ n) (h : n * e ≤ (l.length : Int)) : cnt ⟨n :: l, b⟩ e = (n, ⟨l, b⟩) := by
  unfold cnt
  refine if_neg ?_
  show ¬ (n < 0 ∨ n > ((l.length : Int).tdiv e))
  rw [Int.tdiv_eq_ediv_of_nonneg (by omega)]
  have := (Int.le_ediv_iff_mul_le (show 0 < e by omega)).2 h
  omega
def lst (r : T_past_reader) : List Int × T_past_reader := ((cnt r 1).2.f0.take (cnt r 1).1.toNat, ⟨(cnt r 1).2.f0.drop (cnt r 1).1.toNat, (cnt r 1).2.f1⟩)
theorem list (r : T_past_reader) (hl : r.f0.length < 1000000) : Ev (fun k => past_reader_list.f k r) (lst r) := by
  have h := cnt_le r 1 (by omega)
  unfold past_reader_list.f
  refine .b (count r 1 (by omega) (by omega)) (.t (by omega) ?_)
  obtain ⟨n, hn⟩ : ∃ n : Nat, (cnt r 1).1 = n := ⟨(cnt r 1).1.toNat, by omega⟩
  have e1 : cutl (cnt r 1).2.f0 0 (cnt r 1).1 = (cnt r 1).2.f0.take (cnt r 1).1.toNat := by simp [cutl]
  have e2 : cutl (cnt r 1).2.f0 (cnt r 1).1 ((cnt r 1).2.f0.length : Int) = (cnt r 1).2.f0.drop (cnt r 1).1.toNat := by
    simp only [cutl]
    first
      | rfl
      | (rw [List.take_of_length_le]; simp; omega)
      | simp
  refine .b0 (a := (cnt r 1).2.f0.take (cnt r 1).1.toNat) ?_ (.cv ?_)
  · unfold slices_Clone__int_int.f
    rw [e1, if_pos]
    · rfl
    · simp only [List.length_nil, List.length_take]
      omega
  · rw [e2]
    rfl
theorem lst_sound (r : T_past_reader) (h : (lst r).2.f1 = false) : r.f1 = false ∧ r.f0 = ((lst r).1.length : Int) :: ((lst r).1 ++ (lst r).2.f0) := by
  have h1 := cnt_le r 1 (by omega)
  obtain ⟨h2, h3⟩ := cnt_sound r 1 h
  refine ⟨h2, ?_⟩
  rw [h3]
  unfold lst
  rw [List.take_append_drop]
  congr 1
  simp only [List.length_take]
  omega
theorem lst_len (r : T_past_reader) : (lst r).1.length ≤ r.f0.length ∧ (lst r).2.f0.length ≤ r.f0.length := by
  have h1 := cnt_le r 1 (by omega)
  unfold lst
  simp only [List.length_take, List.length_drop]
  omega
theorem lst_cons (v l : List Int) (b : Bool) : lst ⟨(v.length : Int) :: (v ++ l), b⟩ = (v, ⟨l, b⟩) := by
  unfold lst
  rw [cnt_cons _ _ _ _ (by omega) (by omega) (by simp; omega)]
  simp
def fl (r : T_past_reader) : Bool × T_past_reader := ((nx r).1 == 1, ⟨(nx r).2.f0, (nx r).2.f1 || decide ((nx r).1 < 0) || decide ((nx r).1 > 1)⟩)
theorem flag (r : T_past_reader) : past_reader_flag.f r = some (fl r) := by
  unfold past_reader_flag.f fl
  rw [next, Option.bind_some]
  generalize nx r = q
  cases h : q.2.f1 with
  | true => simp
  | false =>
    by_cases h2 : q.1 < 0
    · simp [h2]
    · simp [h2]
theorem fl_sound (r : T_past_reader) (h : (fl r).2.f1 = false) : r.f1 = false ∧ r.f0 = bit (fl r).1 :: (fl r).2.f0 := by
  unfold fl at h ⊢
  simp only [Bool.or_eq_false_iff, decide_eq_false_iff_not] at h
  obtain ⟨h1, h2⟩ := nx_sound r h.1.1
  refine ⟨h1, ?_⟩
  rw [h2]
  congr 1
  have : (nx r).1 = 0 ∨ (nx r).1 = 1 := by omega
  rcases this with e | e <;> rw [e] <;> rfl
theorem fl_len (r : T_past_reader) : (fl r).2.f0.length ≤ r.f0.length := nx_len r
theorem fl_cons (v : Bool) (l : List Int) : fl ⟨bit v :: l, false⟩ = (v, ⟨l, false⟩) := by
  cases v <;> rfl

/-! a trail -/
def PostT (r : T_past_reader) (w : T_api_Trail × T_past_reader) : Prop := w.2.f0.length ≤ 400 ∧ w.1.f1.length ≤ 400 ∧ (∀ s ∈ w.1.f1, s.f1.length ≤ 400) ∧ (w.2.f1 = false → r.f1 = false ∧ r.f0 = encTr w.1 ++ w.2.f0) ∧ (∀ t rest, r = ⟨encTr t ++ rest, false⟩ → w = (t, ⟨rest, false⟩))
theorem trail_l35 (r : T_past_reader) (t6 t18 : Int × T_past_reader) (hN : t18.1 ≤ 400) : ∀ (d i : Nat) (l : List Int) (b : Bool) (sp : List T_api_Span), (i : Int) + d = t18.1 → l.length ≤ 400 → sp.length = i → (∀ s ∈ sp, s.f1.length ≤ 400) → (b = false → r.f1 = false ∧ r.f0 = t6.1 :: t18.1 :: (sp.flatMap encS ++ l)) → (∀ t rest, r = ⟨encTr t ++ rest, false⟩ → b = false ∧ t6.1 = t.f0 ∧ t18.1 = t.f1.length ∧ sp = t.f1.take i ∧ l = (t.f1.drop i).flatMap encS ++ rest) → Ht (fun k => past_reader_trail.l35 k t6 t18 (i : Int) l b sp) (PostT r) := by
  intro d
  induction d with
  | zero =>
    intro i l b sp hi hl hsl hs h1 h2
    refine .s (fun k => past_reader_trail.l35_s k _ _ _ _ _ _) (.n (by omega) (.c ⟨hl, by show sp.length ≤ 400; omega, hs, ?_, ?_⟩))
    · intro hb
      obtain ⟨q1, q2⟩ := h1 hb
      refine ⟨q1, ?_⟩
      rw [q2]
      show _ = t6.1 :: (sp.length : Int) :: sp.flatMap encS ++ l
      rw [hsl, show t18.1 = (i : Int) by omega]
      rfl
    · intro t rest hr
      obtain ⟨rfl, q1, q2, q3, q4⟩ := h2 t rest hr
      have hti : t.f1.length = i := by omega
      rw [List.take_of_length_le (by omega)] at q3
      rw [List.drop_eq_nil_of_le (by omega)] at q4
      rw [q1, q3, q4]
      rfl
  | succ d ih =>
    intro i l b sp hi hl hsl hs h1 h2
    refine .s (fun k => past_reader_trail.l35_s k _ _ _ _ _ _) (.t (by omega) (.o (next _) ?_))
    have n1 := nx_len ⟨l, b⟩
    have l1 := lst_len (nx ⟨l, b⟩).2
    have n1 : (nx ⟨l, b⟩).2.f0.length ≤ l.length := n1
    refine .e (list _ (by omega)) (.t (by omega) ?_)
    rw [w64n i (by omega)]
    refine ih (i + 1) _ _ _ (by omega) (by omega) (by simp [hsl]) ?_ ?_ ?_
    · intro s hm
      rcases List.mem_append.1 hm with hm | hm
      · exact hs s hm
      · simp only [List.mem_cons, List.not_mem_nil, or_false] at hm
        rw [hm]
        show (lst (nx ⟨l, b⟩).2).1.length ≤ 400
        omega
    · intro hb
      obtain ⟨q1, q2⟩ := lst_sound _ hb
      obtain ⟨q3, q4⟩ := nx_sound _ q1
      obtain ⟨q5, q6⟩ := h1 q3
      refine ⟨q5, ?_⟩
      have q4 : l = _ := q4
      have e1 : l = encS ⟨(nx ⟨l, b⟩).1, (lst (nx ⟨l, b⟩).2).1⟩ ++ (lst (nx ⟨l, b⟩).2).2.f0 := q4.trans (by rw [q2]; rfl)
      rw [q6, List.flatMap_append, List.append_assoc, List.flatMap_singleton, ← e1]
    · intro t rest hr
      obtain ⟨rfl, q1, q2, q3, q4⟩ := h2 t rest hr
      have hti : i < t.f1.length := by omega
      rw [List.drop_eq_getElem_cons hti, List.flatMap_cons, List.append_assoc] at q4
      subst q4
      have e1 : nx ⟨encS t.f1[i] ++ ((t.f1.drop (i + 1)).flatMap encS ++ rest), false⟩ = (t.f1[i].f0, ⟨(t.f1[i].f1.length : Int) :: (t.f1[i].f1 ++ ((t.f1.drop (i + 1)).flatMap encS ++ rest)), false⟩) := rfl
      rw [e1, lst_cons]
      refine ⟨rfl, q1, q2, ?_, rfl⟩
      rw [q3, List.take_add_one, List.getElem?_eq_getElem hti]
      rfl
theorem trail (r : T_past_reader) (hl : r.f0.length ≤ 400) : Ht (fun k => past_reader_trail.f k r) (PostT r) := by
  unfold past_reader_trail.f
  refine .o (next r) (.e (count _ 2 (by omega) (by have := nx_len r; omega)) ?_)
  have n1 := nx_len r
  have c1 := cnt_le (nx r).2 2 (by omega)
  obtain ⟨n, hn⟩ : ∃ n : Nat, (cnt (nx r).2 2).1 = n := ⟨(cnt (nx r).2 2).1.toNat, by omega⟩
  refine trail_l35 r _ _ (by omega) n 0 _ _ _ (by omega) (by omega) rfl (fun _ h => nomatch h) ?_ ?_
  · intro hb
    obtain ⟨q1, q2⟩ := cnt_sound _ _ hb
    obtain ⟨q3, q4⟩ := nx_sound _ q1
    exact ⟨q3, by rw [q4, q2]; rfl⟩
  · intro t rest hr
    have e1 : nx r = (t.f0, ⟨(t.f1.length : Int) :: (t.f1.flatMap encS ++ rest), false⟩) := by rw [hr]; rfl
    have := flat_ge encS 2 t.f1 (fun x _ => by simp [encS])
    rw [e1, cnt_cons _ _ _ _ (by omega) (by omega) (by simp only [List.length_append]; omega)]
    exact ⟨rfl, rfl, rfl, rfl, rfl⟩

/-! the program reads a map -/
def Good (x : T_api_Data) (m : T_api_Map) : Prop := Maps.May m ∧ enc m = x.f0 ∧ x.f1 = []
def PostM (x : T_api_Data) (w : T_api_Map × Int) : Prop := (w.2 = 0 ∧ Good x w.1 ∧ Maps.Small w.1 ∧ ∀ m, Good x m → m = w.1) ∨ (w = ((⟨0, 0, 0, 0, [], [], []⟩ : T_api_Map), 2) ∧ ∀ m, ¬ Good x m)
theorem map_l199 (x : T_api_Data) (t11 t18 t25 t32 : Int × T_past_reader) (ns : List T_api_Node) (ts : List T_api_Temp) (n : Nat) (hn8 : n ≤ 8) (hn : ∀ g : Nat, (g : Int) < (if 8 < t32.1 then 8 else t32.1) ↔ g < n) (hns : ns.length ≤ 400) (hts : ts.length ≤ 400) : ∀ (d g : Nat) (l : List Int) (b : Bool) (trs : List T_api_Trail), g + d = n → l.length ≤ 400 → trs.length = g → (∀ t ∈ trs, t.f1.length ≤ 400) → (∀ t ∈ trs, ∀ s ∈ t.f1, s.f1.length ≤ 400) → (b = false → x.f0 = t11.1 :: t18.1 :: t25.1 :: t32.1 :: (ns.length : Int) :: (ns.flatMap encN ++ (ts.length : Int) :: (ts.flatMap encT ++ (trs.flatMap encTr ++ l)))) → (∀ m, Good x m → b = false ∧ t11.1 = m.f0 ∧ t18.1 = m.f1 ∧ t25.1 = m.f2 ∧ t32.1 = m.f3 ∧ ns = m.f4 ∧ ts = m.f5 ∧ trs = m.f6.take g ∧ l = (m.f6.drop g).flatMap encTr) → Ht (fun k => past_ReadMap.l199 k x t11 t18 t25 t32 ns ts (g : Int) l b trs) (PostM x) := by
  intro d
  induction d with
  | zero =>
    intro g l b trs hg hl htl ht hs h1 h2
    refine .s (fun k => past_ReadMap.l199_s k _ _ _ _ _ _ _ _ _ _ _) (.n (fun e => by have := (hn g).1 e; omega) ?_)
    have hsm : Maps.Small ⟨t11.1, t18.1, t25.1, t32.1, ns, ts, trs⟩ := ⟨by show ns.length < _; omega, by show ts.length < _; omega, by show trs.length < _; omega, fun t hm => by have := ht t hm; omega, fun t hm s hm2 => by have := hs t hm s hm2; omega⟩
    have hm : ∀ m, Good x m → b = false ∧ l = [] ∧ m = ⟨t11.1, t18.1, t25.1, t32.1, ns, ts, trs⟩ := by
      intro m hm
      obtain ⟨q0, q1, q2, q3, q4, q5, q6, q7, q8⟩ := h2 m hm
      have hf := hm.1.1.2.2.2.1
      have hl6 := hm.1.2.2.1
      have hg : m.f6.length ≤ g := by
        by_cases hc : m.f6.length ≤ g
        · exact hc
        · exfalso
          have : ¬ (8 : Int) < t32.1 := by omega
          have := (hn g).1 (by rw [if_neg this]; omega)
          omega
      rw [List.take_of_length_le hg] at q7
      rw [List.drop_eq_nil_of_le hg] at q8
      refine ⟨q0, q8, ?_⟩
      rw [q1, q2, q3, q4, q5, q6, q7]
    have hbad : (∀ m, ¬ Good x m) → Ht (fun k => past_ReadMap.j240 k t11 t18 t25 t32 ns ts trs true) (PostM x) := fun h => .s (fun k => past_ReadMap.j240_s k _ _ _ _ _ _ _ _) (.t rfl (.c (.inr ⟨rfl, h⟩)))
    refine .i (fun e => hbad (fun m g => by have := (hm m g).1; rw [e] at this; cases this)) (fun e => .i (fun e2 => hbad (fun m g => by have := (hm m g).2.1; rw [this] at e2; simp at e2)) (fun e2 => .i (fun e3 => hbad (fun m g => by rw [g.2.2] at e3; simp at e3)) (fun e3 => .e (Maps.check _ hsm) ?_)))
    by_cases hM : Maps.May ⟨t11.1, t18.1, t25.1, t32.1, ns, ts, trs⟩
    · rw [decide_eq_true hM]
      refine .s (fun k => past_ReadMap.j240_s k _ _ _ _ _ _ _ _) (.n (by decide) (.c (.inl ⟨rfl, ⟨hM, ?_, ?_⟩, hsm, fun m g => (hm m g).2.2⟩)))
      · have hb : b = false := by simpa using e
        have hl0 : l = [] := List.eq_nil_of_length_eq_zero (by omega)
        have := h1 hb
        rw [hl0, List.append_nil] at this
        exact this.symm
      · exact List.eq_nil_of_length_eq_zero (by omega)
    · rw [decide_eq_false hM]
      refine hbad (fun m g => hM ?_)
      rw [← (hm m g).2.2]
      exact g.1
  | succ d ih =>
    intro g l b trs hg hl htl ht hs h1 h2
    refine .s (fun k => past_ReadMap.l199_s k _ _ _ _ _ _ _ _ _ _ _) (.t ((hn g).2 (by omega)) (.b (trail _ hl) ?_))
    intro w hw
    obtain ⟨p1, p2, p3, p4, p5⟩ := hw
    refine .t (by omega) ?_
    rw [w64n g (by omega)]
    refine ih (g + 1) _ _ _ (by omega) p1 (by simp [htl]) ?_ ?_ ?_ ?_
    · intro t hm
      rcases List.mem_append.1 hm with hm | hm
      · exact ht t hm
      · simp only [List.mem_cons, List.not_mem_nil, or_false] at hm
        rw [hm]
        exact p2
    · intro t hm
      rcases List.mem_append.1 hm with hm | hm
      · exact hs t hm
      · simp only [List.mem_cons, List.not_mem_nil, or_false] at hm
        rw [hm]
        exact p3
    · intro hb
      obtain ⟨q1, q2⟩ := p4 hb
      have q2 : l = encTr w.1 ++ w.2.f0 := q2
      rw [h1 q1, List.flatMap_append, List.flatMap_singleton, List.append_assoc, q2]
    · intro m hm
      obtain ⟨q0, q1, q2, q3, q4, q5, q6, q7, q8⟩ := h2 m hm
      have hf := hm.1.1.2.2.2.1
      have hl6 := hm.1.2.2.1
      have hgl : g < m.f6.length := by
        have := (hn g).2 (by omega)
        rw [if_neg (by omega)] at this
        omega
      rw [List.drop_eq_getElem_cons hgl, List.flatMap_cons] at q8
      have := p5 m.f6[g] ((m.f6.drop (g + 1)).flatMap encTr) (by rw [q0, q8])
      rw [this]
      refine ⟨rfl, q1, q2, q3, q4, q5, q6, ?_, rfl⟩
      rw [q7, List.take_add_one, List.getElem?_eq_getElem hgl]
      rfl
theorem map_l142 (x : T_api_Data) (t11 t18 t25 t32 t125 : Int × T_past_reader) (ns : List T_api_Node) (hN : t125.1 ≤ 400) (hns : ns.length ≤ 400) : ∀ (d i : Nat) (l : List Int) (b : Bool) (ts : List T_api_Temp), (i : Int) + d = t125.1 → l.length ≤ 400 → ts.length = i → (b = false → x.f0 = t11.1 :: t18.1 :: t25.1 :: t32.1 :: (ns.length : Int) :: (ns.flatMap encN ++ t125.1 :: (ts.flatMap encT ++ l))) → (∀ m, Good x m → b = false ∧ t11.1 = m.f0 ∧ t18.1 = m.f1 ∧ t25.1 = m.f2 ∧ t32.1 = m.f3 ∧ ns = m.f4 ∧ t125.1 = m.f5.length ∧ ts = m.f5.take i ∧ l = (m.f5.drop i).flatMap encT ++ m.f6.flatMap encTr) → Ht (fun k => past_ReadMap.l142 k x t11 t18 t25 t32 ns t125 (i : Int) l b ts) (PostM x) := by
  intro d
  induction d with
  | zero =>
    intro i l b ts hi hl htl h1 h2
    refine .s (fun k => past_ReadMap.l142_s k _ _ _ _ _ _ _ _ _ _ _) (.n (by omega) ?_)
    obtain ⟨n, hn8, hn⟩ : ∃ n : Nat, n ≤ 8 ∧ ∀ g : Nat, (g : Int) < (if 8 < t32.1 then 8 else t32.1) ↔ g < n := by
      refine ⟨(if 8 < t32.1 then 8 else t32.1).toNat, ?_, ?_⟩
      · split <;> omega
      · intro g
        split <;> omega
    refine map_l199 x t11 t18 t25 t32 ns ts n hn8 hn hns (by omega) n 0 l b [] (by omega) hl rfl (fun _ h => nomatch h) (fun _ h => nomatch h) ?_ ?_
    · intro hb
      rw [h1 hb, htl, show t125.1 = (i : Int) by omega]
      rfl
    · intro m hm
      obtain ⟨q0, q1, q2, q3, q4, q5, q6, q7, q8⟩ := h2 m hm
      rw [List.take_of_length_le (by omega)] at q7
      rw [List.drop_eq_nil_of_le (by omega)] at q8
      exact ⟨q0, q1, q2, q3, q4, q5, q7, rfl, q8⟩
  | succ d ih =>
    intro i l b ts hi hl htl h1 h2
    refine .s (fun k => past_ReadMap.l142_s k _ _ _ _ _ _ _ _ _ _ _) (.t (by omega) (.o (next _) ?_))
    have n1 := nx_len ⟨l, b⟩
    have l1 := lst_len (nx ⟨l, b⟩).2
    have n1 : (nx ⟨l, b⟩).2.f0.length ≤ l.length := n1
    refine .e (list _ (by omega)) (.t (by omega) ?_)
    rw [w64n i (by omega)]
    refine ih (i + 1) _ _ _ (by omega) (by omega) (by simp [htl]) ?_ ?_
    · intro hb
      obtain ⟨q1, q2⟩ := lst_sound _ hb
      obtain ⟨q3, q4⟩ := nx_sound _ q1
      have q4 : l = _ := q4
      have e1 : l = encT ⟨(nx ⟨l, b⟩).1, (lst (nx ⟨l, b⟩).2).1⟩ ++ (lst (nx ⟨l, b⟩).2).2.f0 := q4.trans (by rw [q2]; rfl)
      rw [h1 q3, List.flatMap_append, List.append_assoc, List.flatMap_singleton, ← e1]
    · intro m hm
      obtain ⟨rfl, q1, q2, q3, q4, q5, q6, q7, q8⟩ := h2 m hm
      have hti : i < m.f5.length := by omega
      rw [List.drop_eq_getElem_cons hti, List.flatMap_cons, List.append_assoc] at q8
      subst q8
      have e1 : nx ⟨encT m.f5[i] ++ ((m.f5.drop (i + 1)).flatMap encT ++ m.f6.flatMap encTr), false⟩ = (m.f5[i].f0, ⟨(m.f5[i].f1.length : Int) :: (m.f5[i].f1 ++ ((m.f5.drop (i + 1)).flatMap encT ++ m.f6.flatMap encTr)), false⟩) := rfl
      rw [e1, lst_cons]
      refine ⟨rfl, q1, q2, q3, q4, q5, q6, ?_, rfl⟩
      rw [q7, List.take_add_one, List.getElem?_eq_getElem hti]
      rfl
theorem map_l61 (x : T_api_Data) (t11 t18 t25 t32 t44 : Int × T_past_reader) (hN : t44.1 ≤ 400) : ∀ (d i : Nat) (l : List Int) (b : Bool) (ns : List T_api_Node), (i : Int) + d = t44.1 → l.length ≤ 400 → ns.length = i → (b = false → x.f0 = t11.1 :: t18.1 :: t25.1 :: t32.1 :: t44.1 :: (ns.flatMap encN ++ l)) → (∀ m, Good x m → b = false ∧ t11.1 = m.f0 ∧ t18.1 = m.f1 ∧ t25.1 = m.f2 ∧ t32.1 = m.f3 ∧ t44.1 = m.f4.length ∧ ns = m.f4.take i ∧ l = (m.f4.drop i).flatMap encN ++ (m.f5.length : Int) :: (m.f5.flatMap encT ++ m.f6.flatMap encTr)) → Ht (fun k => past_ReadMap.l61 k x t11 t18 t25 t32 t44 (i : Int) l b ns) (PostM x) := by
  intro d
  induction d with
  | zero =>
    intro i l b ns hi hl hnl h1 h2
    refine .s (fun k => past_ReadMap.l61_s k _ _ _ _ _ _ _ _ _ _) (.n (by omega) (.e (count _ 2 (by omega) (by show l.length < _; omega)) ?_))
    have c1 := cnt_le ⟨l, b⟩ 2 (by omega)
    have c2 : (cnt ⟨l, b⟩ 2).2.f0.length ≤ l.length := c1.2.2.2
    obtain ⟨n, hn⟩ : ∃ n : Nat, (cnt ⟨l, b⟩ 2).1 = n := ⟨(cnt ⟨l, b⟩ 2).1.toNat, by omega⟩
    refine map_l142 x t11 t18 t25 t32 _ ns (by omega) (by omega) n 0 _ _ [] (by omega) (by omega) rfl ?_ ?_
    · intro hb
      obtain ⟨q1, q2⟩ := cnt_sound _ _ hb
      have q2 : l = _ := q2
      rw [h1 q1, hnl, show t44.1 = (i : Int) by omega]
      congr 6
    · intro m hm
      obtain ⟨rfl, q1, q2, q3, q4, q5, q6, q7⟩ := h2 m hm
      rw [List.take_of_length_le (by omega)] at q6
      rw [List.drop_eq_nil_of_le (by omega)] at q7
      have q7 : l = (m.f5.length : Int) :: (m.f5.flatMap encT ++ m.f6.flatMap encTr) := q7
      have := flat_ge encT 2 m.f5 (fun x _ => by simp [encT])
      rw [q7, cnt_cons _ _ _ _ (by omega) (by omega) (by simp only [List.length_append]; omega)]
      exact ⟨rfl, q1, q2, q3, q4, q6, rfl, rfl, rfl⟩
  | succ d ih =>
    intro i l b ns hi hl hnl h1 h2
    refine .s (fun k => past_ReadMap.l61_s k _ _ _ _ _ _ _ _ _ _) (.t (by omega) (.o (next _) (.o (next _) (.o (next _) (.o (next _) (.o (flag _) (.o (flag _) (.t (by omega) ?_))))))))
    have n1 : (nx ⟨l, b⟩).2.f0.length ≤ l.length := nx_len ⟨l, b⟩
    generalize hr1 : nx ⟨l, b⟩ = r1 at *
    have n2 := nx_len r1.2
    generalize hr2 : nx r1.2 = r2 at *
    have n3 := nx_len r2.2
    generalize hr3 : nx r2.2 = r3 at *
    have n4 := nx_len r3.2
    generalize hr4 : nx r3.2 = r4 at *
    have n5 := fl_len r4.2
    generalize hr5 : fl r4.2 = r5 at *
    have n6 := fl_len r5.2
    generalize hr6 : fl r5.2 = r6 at *
    rw [w64n i (by omega)]
    refine ih (i + 1) _ _ _ (by omega) (by omega) (by simp [hnl]) ?_ ?_
    · intro hb
      obtain ⟨p6, q6⟩ := fl_sound r5.2 (by rw [hr6]; exact hb)
      obtain ⟨p5, q5⟩ := fl_sound r4.2 (by rw [hr5]; exact p6)
      obtain ⟨p4, q4⟩ := nx_sound r3.2 (by rw [hr4]; exact p5)
      obtain ⟨p3, q3⟩ := nx_sound r2.2 (by rw [hr3]; exact p4)
      obtain ⟨p2, q2⟩ := nx_sound r1.2 (by rw [hr2]; exact p3)
      obtain ⟨p1, q1⟩ := nx_sound ⟨l, b⟩ (by rw [hr1]; exact p2)
      rw [hr1] at q1
      rw [hr2] at q2
      rw [hr3] at q3
      rw [hr4] at q4
      rw [hr5] at q5
      rw [hr6] at q6
      have q1 : l = _ := q1
      have e1 : l = encN ⟨r1.1, r2.1, r3.1, r4.1, r5.1, r6.1⟩ ++ r6.2.f0 := by
        rw [q1, q2, q3, q4, q5, q6]
        rfl
      rw [h1 p1, List.flatMap_append, List.append_assoc, List.flatMap_singleton, ← e1]
    · intro m hm
      obtain ⟨rfl, q1, q2, q3, q4, q5, q6, q7⟩ := h2 m hm
      have hti : i < m.f4.length := by omega
      rw [List.drop_eq_getElem_cons hti, List.flatMap_cons, List.append_assoc] at q7
      subst q7
      generalize (m.f4.drop (i + 1)).flatMap encN ++ (m.f5.length : Int) :: (m.f5.flatMap encT ++ m.f6.flatMap encTr) = rest at *
      obtain rfl : (m.f4[i].f0, (⟨[m.f4[i].f1, m.f4[i].f2, m.f4[i].f3, bit m.f4[i].f4, bit m.f4[i].f5] ++ rest, false⟩ : T_past_reader)) = r1 := hr1
      obtain rfl : (m.f4[i].f1, (⟨[m.f4[i].f2, m.f4[i].f3, bit m.f4[i].f4, bit m.f4[i].f5] ++ rest, false⟩ : T_past_reader)) = r2 := hr2
      obtain rfl : (m.f4[i].f2, (⟨[m.f4[i].f3, bit m.f4[i].f4, bit m.f4[i].f5] ++ rest, false⟩ : T_past_reader)) = r3 := hr3
      obtain rfl : (m.f4[i].f3, (⟨[bit m.f4[i].f4, bit m.f4[i].f5] ++ rest, false⟩ : T_past_reader)) = r4 := hr4
      obtain rfl : (m.f4[i].f4, (⟨[bit m.f4[i].f5] ++ rest, false⟩ : T_past_reader)) = r5 := (fl_cons _ _).symm.trans hr5
      obtain rfl : (m.f4[i].f5, (⟨rest, false⟩ : T_past_reader)) = r6 := (fl_cons _ _).symm.trans hr6
      refine ⟨rfl, q1, q2, q3, q4, q5, ?_, rfl⟩
      rw [q6, List.take_add_one, List.getElem?_eq_getElem hti]
      rfl
theorem map (x : T_api_Data) (hl : x.f0.length ≤ 400) : Ht (fun k => past_ReadMap.f k x) (PostM x) := by
  unfold past_ReadMap.f
  refine .o (next _) (.o (next _) (.o (next _) (.o (next _) (.e (count _ 6 (by omega) ?_) ?_))))
  · have n1 := nx_len ⟨x.f0, false⟩
    have n2 := nx_len (nx ⟨x.f0, false⟩).2
    have n3 := nx_len (nx (nx ⟨x.f0, false⟩).2).2
    have n4 := nx_len (nx (nx (nx ⟨x.f0, false⟩).2).2).2
    have n1 : (nx ⟨x.f0, false⟩).2.f0.length ≤ x.f0.length := n1
    omega
  have n1 : (nx ⟨x.f0, false⟩).2.f0.length ≤ x.f0.length := nx_len _
  generalize hr1 : nx ⟨x.f0, false⟩ = r1 at *
  have n2 := nx_len r1.2
  generalize hr2 : nx r1.2 = r2 at *
  have n3 := nx_len r2.2
  generalize hr3 : nx r2.2 = r3 at *
  have n4 := nx_len r3.2
  generalize hr4 : nx r3.2 = r4 at *
  have c1 := cnt_le r4.2 6 (by omega)
  generalize hr5 : cnt r4.2 6 = r5 at *
  obtain ⟨n, hn⟩ : ∃ n : Nat, r5.1 = n := ⟨r5.1.toNat, by omega⟩
  refine map_l61 x r1 r2 r3 r4 r5 (by omega) n 0 _ _ [] (by omega) (by omega) rfl ?_ ?_
  · intro hb
    obtain ⟨p5, q5⟩ := cnt_sound r4.2 6 (by rw [hr5]; exact hb)
    obtain ⟨p4, q4⟩ := nx_sound r3.2 (by rw [hr4]; exact p5)
    obtain ⟨p3, q3⟩ := nx_sound r2.2 (by rw [hr3]; exact p4)
    obtain ⟨p2, q2⟩ := nx_sound r1.2 (by rw [hr2]; exact p3)
    obtain ⟨p1, q1⟩ := nx_sound ⟨x.f0, false⟩ (by rw [hr1]; exact p2)
    rw [hr1] at q1
    rw [hr2] at q2
    rw [hr3] at q3
    rw [hr4] at q4
    rw [hr5] at q5
    have q1 : x.f0 = _ := q1
    rw [q1, q2, q3, q4, q5]
    rfl
  · intro m hm
    have hx := hm.2.1
    have := flat_ge encN 6 m.f4 (fun x _ => by simp [encN])
    unfold enc at hx
    generalize hrest : (m.f5.length : Int) :: (m.f5.flatMap encT ++ m.f6.flatMap encTr) = rest at *
    rw [← hx] at hr1
    obtain rfl : (m.f0, (⟨m.f1 :: m.f2 :: m.f3 :: (m.f4.length : Int) :: (m.f4.flatMap encN ++ rest), false⟩ : T_past_reader)) = r1 := hr1
    obtain rfl : (m.f1, (⟨m.f2 :: m.f3 :: (m.f4.length : Int) :: (m.f4.flatMap encN ++ rest), false⟩ : T_past_reader)) = r2 := hr2
    obtain rfl : (m.f2, (⟨m.f3 :: (m.f4.length : Int) :: (m.f4.flatMap encN ++ rest), false⟩ : T_past_reader)) = r3 := hr3
    obtain rfl : (m.f3, (⟨(m.f4.length : Int) :: (m.f4.flatMap encN ++ rest), false⟩ : T_past_reader)) = r4 := hr4
    obtain rfl : ((m.f4.length : Int), (⟨m.f4.flatMap encN ++ rest, false⟩ : T_past_reader)) = r5 := (cnt_cons _ _ _ _ (by omega) (by omega) (by simp only [List.length_append]; omega)).symm.trans hr5
    exact ⟨rfl, rfl, rfl, rfl, rfl, rfl, rfl, rfl⟩

/-! the document's data of a map -/
theorem reflist (l : List Int) (h : l.length ≤ 1000000000) : windroseref27_list.f l = some ((l.length : Int) :: l) := by
  unfold windroseref27_list.f
  rw [if_pos]
  · rfl
  · simp only [List.length_singleton]
    omega
theorem refbit (b : Bool) : windroseref27_bit.f b = some (bit b) := by
  cases b <;> rfl
theorem enc_l150 (m : T_api_Map) (hm : Maps.Small m) (hb : (enc m).length ≤ 1000000000) (g : Nat) (hg : g < m.f6.length) (v : T_api_Data) (hc : ∀ l, l ++ (m.f6.drop (g + 1)).flatMap encTr = enc m → Ev (fun k => windroseref27_Map.l114 k m l ((g + 1 : Nat) : Int)) v) : ∀ (d i : Nat) (l : List Int), i + d = m.f6[g].f1.length → l ++ ((m.f6[g].f1.drop i).flatMap encS ++ (m.f6.drop (g + 1)).flatMap encTr) = enc m → Ev (fun k => windroseref27_Map.l150 k m (g : Int) l (i : Int)) v := by
  have hz := nth_get T_api_Trail.z _ _ hg
  have hp := hm.hp _ (List.getElem_mem hg)
  have h6 := hm.h6
  intro d
  induction d with
  | zero =>
    intro i l hi he
    refine .s (fun k => windroseref27_Map.l150_s k _ _ _ _) ?_
    rw [hz]
    refine .n (by omega) ?_
    rw [List.drop_eq_nil_of_le (by omega)] at he
    rw [w64n g (by omega)]
    exact hc l he
  | succ d ih =>
    intro i l hi he
    have h1 : i < m.f6[g].f1.length := by omega
    refine .s (fun k => windroseref27_Map.l150_s k _ _ _ _) ?_
    rw [hz]
    rw [List.drop_eq_getElem_cons h1, List.flatMap_cons] at he
    have hlen := congrArg List.length he
    simp only [List.length_append] at hlen
    have hes : (encS m.f6[g].f1[i]).length = m.f6[g].f1[i].f1.length + 2 := by simp [encS]
    refine .t (by omega) (.t (by omega) (.t (by omega) ?_))
    rw [nth_get _ _ _ h1, w64n i (by omega)]
    refine .b0 (reflist _ (by omega)) (.t (by simp only [List.length_append, List.length_cons, List.length_nil]; omega) (ih (i + 1) _ (by omega) ?_))
    rw [← he]
    simp [encS]
theorem enc_l114 (m : T_api_Map) (hm : Maps.Small m) (hb : (enc m).length ≤ 1000000000) : ∀ (d g : Nat) (l : List Int), g + d = m.f6.length → l ++ (m.f6.drop g).flatMap encTr = enc m → Ev (fun k => windroseref27_Map.l114 k m l (g : Int)) ⟨enc m, []⟩ := by
  have h6 := hm.h6
  intro d
  induction d with
  | zero =>
    intro g l hg he
    refine .s (fun k => windroseref27_Map.l114_s k _ _ _) (.n (by omega) (.cv ?_))
    rw [List.drop_eq_nil_of_le (by omega)] at he
    rw [← he]
    simp
  | succ d ih =>
    intro g l hg he
    have h1 : g < m.f6.length := by omega
    rw [List.drop_eq_getElem_cons h1, List.flatMap_cons] at he
    have hlen := congrArg List.length he
    simp only [List.length_append, encTr, List.length_cons] at hlen
    refine .s (fun k => windroseref27_Map.l114_s k _ _ _) (.t (by omega) (.t (by omega) (.t (by omega) ?_)))
    rw [nth_get _ _ _ h1]
    refine enc_l150 m hm hb g h1 _ (fun l' h => ih (g + 1) l' (by omega) h) _ 0 _ (Nat.zero_add _) ?_
    rw [← he]
    simp [encTr]
theorem enc_l66 (m : T_api_Map) (hm : Maps.Small m) (hb : (enc m).length ≤ 1000000000) : ∀ (d i : Nat) (l : List Int), i + d = m.f5.length → l ++ ((m.f5.drop i).flatMap encT ++ m.f6.flatMap encTr) = enc m → Ev (fun k => windroseref27_Map.l66 k m l (i : Int)) ⟨enc m, []⟩ := by
  have h5 := hm.h5
  intro d
  induction d with
  | zero =>
    intro i l hi he
    refine .s (fun k => windroseref27_Map.l66_s k _ _ _) (.n (by omega) ?_)
    rw [List.drop_eq_nil_of_le (by omega)] at he
    exact enc_l114 m hm hb _ 0 l (Nat.zero_add _) he
  | succ d ih =>
    intro i l hi he
    have h1 : i < m.f5.length := by omega
    rw [List.drop_eq_getElem_cons h1, List.flatMap_cons] at he
    have hlen := congrArg List.length he
    simp only [List.length_append] at hlen
    have hes : (encT m.f5[i]).length = m.f5[i].f1.length + 2 := by simp [encT]
    refine .s (fun k => windroseref27_Map.l66_s k _ _ _) (.t (by omega) (.t (by omega) (.t (by omega) ?_)))
    rw [nth_get _ _ _ h1, w64n i (by omega)]
    refine .b0 (reflist _ (by omega)) (.t (by simp only [List.length_append, List.length_cons, List.length_nil]; omega) (ih (i + 1) _ (by omega) ?_))
    rw [← he]
    simp [encT]
theorem enc_l18 (m : T_api_Map) (hm : Maps.Small m) (hb : (enc m).length ≤ 1000000000) : ∀ (d i : Nat) (l : List Int), i + d = m.f4.length → l ++ ((m.f4.drop i).flatMap encN ++ (m.f5.length : Int) :: (m.f5.flatMap encT ++ m.f6.flatMap encTr)) = enc m → Ev (fun k => windroseref27_Map.l18 k m l (i : Int)) ⟨enc m, []⟩ := by
  have h4 := hm.h4
  intro d
  induction d with
  | zero =>
    intro i l hi he
    rw [List.drop_eq_nil_of_le (by omega)] at he
    have hlen := congrArg List.length he
    simp only [List.length_append, List.length_cons] at hlen
    refine .s (fun k => windroseref27_Map.l18_s k _ _ _) (.n (by omega) (.t (by omega) ?_))
    refine enc_l66 m hm hb _ 0 _ (Nat.zero_add _) ?_
    rw [← he]
    simp
  | succ d ih =>
    intro i l hi he
    have h1 : i < m.f4.length := by omega
    rw [List.drop_eq_getElem_cons h1, List.flatMap_cons] at he
    have hlen := congrArg List.length he
    simp only [List.length_append] at hlen
    have hes : (encN m.f4[i]).length = 6 := rfl
    refine .s (fun k => windroseref27_Map.l18_s k _ _ _) (.t (by omega) (.t (by omega) (.b0 (refbit _) (.b0 (refbit _) (.t (by omega) ?_)))))
    rw [nth_get _ _ _ h1, w64n i (by omega)]
    refine ih (i + 1) _ (by omega) ?_
    rw [← he]
    simp [encN]
theorem encmap (m : T_api_Map) (hm : Maps.Small m) (hb : (enc m).length ≤ 1000000000) : Ev (fun k => windroseref27_Map.f k m) ⟨enc m, []⟩ := by
  unfold windroseref27_Map.f
  exact enc_l18 m hm hb _ 0 _ (Nat.zero_add _) rfl

/-! the document reads a map -/
def tk (l : List Int) (a : Nat) : Int := (l.drop a).headD 0
theorem take (l : List Int) (a : Nat) : windroseref27_take.f l (a : Int) = some (tk l a) := by
  unfold windroseref27_take.f tk
  by_cases h : a < l.length
  · rw [if_pos (by omega), if_pos (by omega), nth_get _ _ _ h, List.drop_eq_getElem_cons h]
    rfl
  · rw [if_neg (by omega), List.drop_eq_nil_of_le (by omega)]
    rfl
theorem tk_of {l : List Int} {a : Nat} {n : Int} {r : List Int} (h : l.drop a = n :: r) : tk l a = n ∧ l.drop (a + 1) = r := by
  refine ⟨by rw [tk, h]; rfl, ?_⟩
  rw [← List.drop_drop, h]
  rfl
theorem wadd (a b : Nat) (h : a + b < 9223372036854775807) : w64 ((a : Int) + (b : Int)) = ((a + b : Nat) : Int) := by rw [w64_of (by omega) (by omega)]; omega
def PostN (xs : List Int) (a : Nat) (w : List Int × Int) : Prop := w.1.length ≤ 20 ∧ w.2 = ((a + 1 + w.1.length : Nat) : Int) ∧ ∀ v rest, v.length ≤ 20 → xs.drop a = (v.length : Int) :: (v ++ rest) → w.1 = v ∧ xs.drop (a + 1 + w.1.length) = rest
theorem nodes_l18 (xs : List Int) (a : Nat) (ha : a < 1000000) (t4 : Int) : ∀ (d i : Nat) (out : List Int), i + d = 20 → out.length = i → (∀ v rest, v.length ≤ 20 → xs.drop a = (v.length : Int) :: (v ++ rest) → t4 = v.length ∧ out = v.take i ∧ xs.drop (a + 1 + i) = v.drop i ++ rest) → Ht (fun k => windroseref27_nodes.l18 k xs (a : Int) t4 out (i : Int)) (PostN xs a) := by
  have stop : ∀ (i : Nat) (out : List Int), i ≤ 20 → out.length = i → (∀ v rest, v.length ≤ 20 → xs.drop a = (v.length : Int) :: (v ++ rest) → t4 = v.length ∧ out = v.take i ∧ xs.drop (a + 1 + i) = v.drop i ++ rest) → (¬ (i : Int) < t4 ∨ i = 20) → Ht (fun k => windroseref27_nodes.j26 k xs (a : Int) t4 out (i : Int) false) (PostN xs a) := by
    intro i out hi ho h hs
    refine .s (fun k => windroseref27_nodes.j26_s k _ _ _ _ _ _) (.n (by decide) (.c ⟨by show out.length ≤ 20; omega, ?_, ?_⟩))
    · show w64 (w64 ((a : Int) + 1) + (out.length : Int)) = _
      rw [w64n a (by omega), wadd _ _ (by omega)]
    · intro v rest hv hd
      obtain ⟨q1, q2, q3⟩ := h v rest hv hd
      have : v.length ≤ i := by omega
      rw [List.take_of_length_le this] at q2
      rw [List.drop_eq_nil_of_le this] at q3
      refine ⟨q2, ?_⟩
      show xs.drop (a + 1 + out.length) = rest
      rw [ho]
      exact q3
  intro d
  induction d with
  | zero =>
    intro i out hi ho h
    refine .s (fun k => windroseref27_nodes.l18_s k _ _ _ _ _) (.i (fun _ => ?_) (fun hc => stop i out (by omega) ho h (.inl hc)))
    rw [decide_eq_false (by omega)]
    exact stop i out (by omega) ho h (.inr (by omega))
  | succ d ih =>
    intro i out hi ho h
    refine .s (fun k => windroseref27_nodes.l18_s k _ _ _ _ _) (.i (fun hc => ?_) (fun hc => stop i out (by omega) ho h (.inl hc)))
    rw [decide_eq_true (by omega)]
    refine .s (fun k => windroseref27_nodes.j26_s k _ _ _ _ _ _) (.t rfl ?_)
    rw [w64n a (by omega), wadd _ _ (by omega), w64n i (by omega)]
    refine .o (take _ _) (.t (by omega) (ih (i + 1) _ (by omega) (by simp [ho]) ?_))
    intro v rest hv hd
    obtain ⟨q1, q2, q3⟩ := h v rest hv hd
    have hiv : i < v.length := by omega
    rw [List.drop_eq_getElem_cons hiv] at q3
    obtain ⟨q4, q5⟩ := tk_of q3
    refine ⟨q1, ?_, q5⟩
    rw [q2, q4, List.take_add_one, List.getElem?_eq_getElem hiv]
    rfl
theorem nodes (xs : List Int) (a : Nat) (ha : a < 1000000) : Ht (fun k => windroseref27_nodes.f k xs (a : Int)) (PostN xs a) := by
  unfold windroseref27_nodes.f
  refine .o (take _ _) (nodes_l18 xs a ha _ 20 0 [] rfl rfl ?_)
  intro v rest hv hd
  obtain ⟨q1, q2⟩ := tk_of hd
  exact ⟨q1, rfl, q2⟩
/-! what may be is small -/
theorem temps_len (m : T_api_Map) : ∀ (p : Int) (l : List T_api_Temp), p ≤ m.f3 - 1 → Maps.temps m p l = true → (l.length : Int) ≤ m.f3 - 1 - p
  | p, [], h, _ => by simp; omega
  | p, t :: l, h, ht => by
    simp only [Maps.temps, Bool.and_eq_true, decide_eq_true_eq] at ht
    have := temps_len m t.f0 l (by omega) ht.2
    simp only [List.length_cons]
    omega
theorem temps_le (m : T_api_Map) : ∀ (p : Int) (l : List T_api_Temp), Maps.temps m p l = true → ∀ t ∈ l, (t.f1.length : Int) ≤ m.f1
  | _, [], _, _, h => nomatch h
  | p, t :: l, ht, u, hu => by
    simp only [Maps.temps, Bool.and_eq_true, decide_eq_true_eq] at ht
    rcases List.mem_cons.1 hu with rfl | hu
    · exact ht.1.1.2.2.2
    · exact temps_le m t.f0 l ht.2 u hu
theorem past_le (m : T_api_Map) (since : Int) : ∀ (p : Int) (seen l : List T_api_Span), Maps.past m since p seen l = true → ∀ s ∈ l, (s.f1.length : Int) ≤ m.f1
  | _, _, [], _, _, h => nomatch h
  | p, seen, s :: l, hp, u, hu => by
    simp only [Maps.past, Bool.and_eq_true, decide_eq_true_eq] at hp
    rcases List.mem_cons.1 hu with rfl | hu
    · exact hp.1.1.1.2.2.2
    · exact past_le m since s.f0 _ l hp.2 u hu
theorem trails_le (m : T_api_Map) : ∀ (l : List T_api_Trail), Maps.trails m l = true → ∀ t ∈ l, ∀ s ∈ t.f1, (s.f1.length : Int) ≤ m.f1
  | [], _, _, h => nomatch h
  | t :: l, ht, u, hu => by
    simp only [Maps.trails, Bool.and_eq_true, decide_eq_true_eq] at ht
    rcases List.mem_cons.1 hu with rfl | hu
    · exact past_le m _ _ _ _ ht.1.2
    · exact trails_le m l ht.2 u hu
theorem good_f5 {x : T_api_Data} {m : T_api_Map} (h : Good x m) : m.f5.length ≤ 8 ∧ (∀ t ∈ m.f5, t.f1.length ≤ 20) := by
  have hf := h.1.1
  have := temps_len m (-1) m.f5 (by have := hf.2.2.2.1; omega) h.1.2.1
  refine ⟨by have := hf.2.2.2.1; omega, fun t ht => ?_⟩
  have := temps_le m (-1) m.f5 h.1.2.1 t ht
  have := hf.2.1
  omega
theorem good_f6 {x : T_api_Data} {m : T_api_Map} (h : Good x m) : (m.f6.length : Int) = m.f3 ∧ m.f6.length ≤ 8 ∧ (∀ t ∈ m.f6, ∀ s ∈ t.f1, s.f1.length ≤ 20) := by
  have hf := h.1.1
  refine ⟨h.1.2.2.1, by have := hf.2.2.2.1; have := h.1.2.2.1; omega, fun t ht s hs => ?_⟩
  have := trails_le m m.f6 h.1.2.2.2 t ht s hs
  have := hf.2.1
  omega
def PostR (x : T_api_Data) (w : T_api_Map × Bool) : Prop := (w.2 = true ∧ Good x w.1) ∨ (w = ((⟨0, 0, 0, 0, [], [], []⟩ : T_api_Map), false) ∧ ∀ m, ¬ Good x m)
theorem strings (l : List ByteArray) : Ev (fun k => windroseref02_Strings.f k [] l) (decide (l = [])) := by
  unfold windroseref02_Strings.f
  cases l with
  | nil => exact .t rfl (.s (fun k => windroseref02_Strings.l9_s k _ _ _) (.n (by decide) (.c _)))
  | cons s l => exact .n (by simp only [List.length_cons, List.length_nil]; omega) (.c _)
theorem same_data (l : List Int) (x : T_api_Data) (hl : l.length ≤ 1000000000) : Ev (fun k => windroseref02_Same.f k (⟨l, []⟩ : T_api_Data) x) (decide (l = x.f0 ∧ x.f1 = [])) := by
  unfold windroseref02_Same.f
  refine .b (Maps.ints l x.f0 (by omega)) (.i (fun h => .b (strings _) (.cv ?_)) (fun h => .cv ?_))
  · have h := of_decide_eq_true h
    rw [decide_eq_decide]
    exact ⟨fun e => ⟨h, e⟩, fun e => e.2⟩
  · exact (decide_eq_false (fun e => h (decide_eq_true e.1))).symm

/-! the document's reading -/
def I146 (x : T_api_Data) (t9 t12 t15 t18 : Int) (ns : List T_api_Node) (ts : List T_api_Temp) (g a : Nat) (trs : List T_api_Trail) : Prop := a ≤ 1000 + 500 * g ∧ trs.length = g ∧ (∀ t ∈ trs, t.f1.length ≤ 401) ∧ (∀ t ∈ trs, ∀ s ∈ t.f1, s.f1.length ≤ 20) ∧ ∀ m, Good x m → t9 = m.f0 ∧ t12 = m.f1 ∧ t15 = m.f2 ∧ t18 = m.f3 ∧ ns = m.f4 ∧ ts = m.f5 ∧ trs = m.f6.take g ∧ x.f0.drop a = (m.f6.drop g).flatMap encTr
theorem ref_l182 (x : T_api_Data) (t9 t12 t15 t18 : Int) (ns : List T_api_Node) (ts : List T_api_Temp) (g : Nat) (trs : List T_api_Trail) (t163 t170 : Int) (hx : x.f0.length ≤ 400) (hg : g < 8) (htl : trs.length = g) (h1 : ∀ t ∈ trs, t.f1.length ≤ 401) (h2 : ∀ t ∈ trs, ∀ s ∈ t.f1, s.f1.length ≤ 20) (P : T_api_Map × Bool → Prop)
    (hc : ∀ (a : Nat) trs', I146 x t9 t12 t15 t18 ns ts (g + 1) a trs' → Ht (fun k => windroseref27_ReadMap.l146 k x t9 t12 t15 t18 ns ts (a : Int) ((g + 1 : Nat) : Int) trs') P) :
    ∀ (d i a : Nat) (sp : List T_api_Span), x.f0.length + 1 ≤ a + d → a ≤ 1002 + 500 * g → sp.length = i → 2 * i ≤ a → i ≤ 401 → (∀ s ∈ sp, s.f1.length ≤ 20) → (∀ m, Good x m → ∃ h : g < m.f6.length, t9 = m.f0 ∧ t12 = m.f1 ∧ t15 = m.f2 ∧ t18 = m.f3 ∧ ns = m.f4 ∧ ts = m.f5 ∧ trs = m.f6.take g ∧ t163 = m.f6[g].f0 ∧ t170 = m.f6[g].f1.length ∧ sp = m.f6[g].f1.take i ∧ x.f0.drop a = (m.f6[g].f1.drop i).flatMap encS ++ (m.f6.drop (g + 1)).flatMap encTr) →
    Ht (fun k => windroseref27_ReadMap.l182 k x t9 t12 t15 t18 ns ts (g : Int) trs t163 t170 (a : Int) (i : Int) sp) P := by
  have stop : ∀ (i a : Nat) (sp : List T_api_Span), a ≤ 1002 + 500 * g → sp.length = i → i ≤ 401 → (∀ s ∈ sp, s.f1.length ≤ 20) → (∀ m, Good x m → ∃ h : g < m.f6.length, t9 = m.f0 ∧ t12 = m.f1 ∧ t15 = m.f2 ∧ t18 = m.f3 ∧ ns = m.f4 ∧ ts = m.f5 ∧ trs = m.f6.take g ∧ t163 = m.f6[g].f0 ∧ t170 = m.f6[g].f1.length ∧ sp = m.f6[g].f1.take i ∧ x.f0.drop a = (m.f6[g].f1.drop i).flatMap encS ++ (m.f6.drop (g + 1)).flatMap encTr) → (¬ (i : Int) < t170 ∨ x.f0.length ≤ a) → Ht (fun k => windroseref27_ReadMap.j190 k x t9 t12 t15 t18 ns ts (g : Int) trs t163 t170 (a : Int) (i : Int) sp false) P := by
    intro i a sp ha hsl hi hs h hst
    refine .s (fun k => windroseref27_ReadMap.j190_s k _ _ _ _ _ _ _ _ _ _ _ _ _ _ _) (.n (by decide) (.t (by omega) ?_))
    rw [w64n g (by omega)]
    refine hc a _ ⟨by omega, by simp [htl], ?_, ?_, ?_⟩
    · intro t ht
      rcases List.mem_append.1 ht with ht | ht
      · exact h1 t ht
      · simp only [List.mem_cons, List.not_mem_nil, or_false] at ht
        rw [ht]
        show sp.length ≤ 401
        omega
    · intro t ht
      rcases List.mem_append.1 ht with ht | ht
      · exact h2 t ht
      · simp only [List.mem_cons, List.not_mem_nil, or_false] at ht
        rw [ht]
        exact hs
    · intro m hm
      obtain ⟨hgl, q1, q2, q3, q4, q5, q6, q7, q8, q9, q10, q11⟩ := h m hm
      have hle : m.f6[g].f1.length ≤ i := by
        rcases hst with hst | hst
        · omega
        · by_cases hlt : m.f6[g].f1.length ≤ i
          · exact hlt
          · exfalso
            rw [List.drop_eq_nil_of_le hst, List.drop_eq_getElem_cons (by omega : i < m.f6[g].f1.length), List.flatMap_cons] at q11
            simp [encS] at q11
      rw [List.take_of_length_le hle] at q10
      rw [List.drop_eq_nil_of_le hle] at q11
      refine ⟨q1, q2, q3, q4, q5, q6, ?_, q11⟩
      rw [q7, q8, q10, List.take_add_one, List.getElem?_eq_getElem hgl]
      rfl
  intro d
  induction d with
  | zero =>
    intro i a sp hd ha hsl h2i hi hs h
    refine .s (fun k => windroseref27_ReadMap.l182_s k _ _ _ _ _ _ _ _ _ _ _ _ _ _) (.i (fun _ => ?_) (fun hn => stop i a sp ha hsl hi hs h (.inl hn)))
    rw [decide_eq_false (by omega)]
    exact stop i a sp ha hsl hi hs h (.inr (by omega))
  | succ d ih =>
    intro i a sp hd ha hsl h2i hi hs h
    refine .s (fun k => windroseref27_ReadMap.l182_s k _ _ _ _ _ _ _ _ _ _ _ _ _ _) (.i (fun hlt => ?_) (fun hn => stop i a sp ha hsl hi hs h (.inl hn)))
    by_cases hal : a < x.f0.length
    · rw [decide_eq_true (by omega)]
      refine .s (fun k => windroseref27_ReadMap.j190_s k _ _ _ _ _ _ _ _ _ _ _ _ _ _ _) (.t rfl (.o (take _ _) ?_))
      rw [w64n a (by omega), w64n i (by omega)]
      refine .b (nodes _ (a + 1) (by omega)) ?_
      intro w hw
      obtain ⟨p1, p2, p3⟩ := hw
      refine .t (by omega) ?_
      rw [p2]
      refine ih (i + 1) _ _ (by omega) (by omega) (by simp [hsl]) (by omega) (by omega) ?_ ?_
      · intro s hm
        rcases List.mem_append.1 hm with hm | hm
        · exact hs s hm
        · simp only [List.mem_cons, List.not_mem_nil, or_false] at hm
          rw [hm]
          exact p1
      · intro m hm
        obtain ⟨hgl, q1, q2, q3, q4, q5, q6, q7, q8, q9, q10, q11⟩ := h m hm
        have hil : i < m.f6[g].f1.length := by omega
        rw [List.drop_eq_getElem_cons hil, List.flatMap_cons, List.append_assoc] at q11
        obtain ⟨r1, r2⟩ := tk_of q11
        obtain ⟨r3, r4⟩ := p3 m.f6[g].f1[i].f1 _ ((good_f6 hm).2.2 _ (List.getElem_mem hgl) _ (List.getElem_mem hil)) r2
        refine ⟨hgl, q1, q2, q3, q4, q5, q6, q7, q8, q9, ?_, r4⟩
        rw [q10, r1, r3, List.take_add_one, List.getElem?_eq_getElem hil]
        rfl
    · rw [decide_eq_false (by omega)]
      exact stop i a sp ha hsl hi hs h (.inr (by omega))
theorem ref_l146 (x : T_api_Data) (t9 t12 t15 t18 : Int) (ns : List T_api_Node) (ts : List T_api_Temp) (hx : x.f0.length ≤ 400) (hns : ns.length ≤ 20) (hts : ts.length ≤ 20) (htn : ∀ t ∈ ts, t.f1.length ≤ 20) : ∀ (d g a : Nat) (trs : List T_api_Trail), g + d = 8 → I146 x t9 t12 t15 t18 ns ts g a trs → Ht (fun k => windroseref27_ReadMap.l146 k x t9 t12 t15 t18 ns ts (a : Int) (g : Int) trs) (PostR x) := by
  have stop : ∀ (g a : Nat) (trs : List T_api_Trail), g ≤ 8 → I146 x t9 t12 t15 t18 ns ts g a trs → (¬ (g : Int) < t18 ∨ g = 8) → Ht (fun k => windroseref27_ReadMap.j154 k x t9 t12 t15 t18 ns ts (a : Int) (g : Int) trs false) (PostR x) := by
    intro g a trs hg ⟨i1, i2, i3, i4, i5⟩ hst
    have hsm : Maps.Small ⟨t9, t12, t15, t18, ns, ts, trs⟩ := ⟨by show ns.length < _; omega, by show ts.length < _; omega, by show trs.length < _; omega, fun t hm => by have := i3 t hm; omega, fun t hm s hm2 => by have := i4 t hm s hm2; omega⟩
    have hm : ∀ m, Good x m → m = ⟨t9, t12, t15, t18, ns, ts, trs⟩ := by
      intro m hm
      obtain ⟨q1, q2, q3, q4, q5, q6, q7, q8⟩ := i5 m hm
      have h6 := good_f6 hm
      rw [List.take_of_length_le (by omega)] at q7
      rw [q1, q2, q3, q4, q5, q6, q7]
    have hbad : (∀ m, ¬ Good x m) → Ht (fun k => windroseref27_ReadMap.j278 k t9 t12 t15 t18 true ns ts trs) (PostR x) := fun h => .s (fun k => windroseref27_ReadMap.j278_s k _ _ _ _ _ _ _ _) (.t rfl (.c (.inr ⟨rfl, h⟩)))
    refine .s (fun k => windroseref27_ReadMap.j154_s k _ _ _ _ _ _ _ _ _ _ _) (.n (by decide) (.e (Maps.may _ hsm) (.i (fun hM => ?_) (fun hM => hbad (fun m h => hM (decide_eq_true (hm m h ▸ h.1)))))))
    have hM := of_decide_eq_true hM
    have hlen : (enc ⟨t9, t12, t15, t18, ns, ts, trs⟩).length ≤ 1000000 := by
      have e1 := flat_le encN 6 ns (fun _ _ => Nat.le_refl _)
      have e2 := flat_le encT 22 ts (fun t ht => by have := htn t ht; simp [encT]; omega)
      have e3 := flat_le encTr 9000 trs (fun t ht => by
        have := flat_le encS 22 t.f1 (fun s hs => by have := i4 t ht s hs; simp [encS]; omega)
        have := i3 t ht
        simp only [encTr, List.length_cons]
        omega)
      simp only [enc, List.length_cons, List.length_append]
      omega
    refine .e (encmap _ hsm (by omega)) (.e (same_data _ x (by omega)) ?_)
    by_cases hE : enc ⟨t9, t12, t15, t18, ns, ts, trs⟩ = x.f0 ∧ x.f1 = []
    · rw [decide_eq_true hE]
      exact .s (fun k => windroseref27_ReadMap.j278_s k _ _ _ _ _ _ _ _) (.n (by decide) (.c (.inl ⟨rfl, hM, hE⟩)))
    · rw [decide_eq_false hE]
      exact hbad (fun m h => hE (hm m h ▸ h.2))
  intro d
  induction d with
  | zero =>
    intro g a trs hg hI
    refine .s (fun k => windroseref27_ReadMap.l146_s k _ _ _ _ _ _ _ _ _ _) (.i (fun _ => ?_) (fun hn => stop g a trs (by omega) hI (.inl hn)))
    rw [decide_eq_false (by omega)]
    exact stop g a trs (by omega) hI (.inr (by omega))
  | succ d ih =>
    intro g a trs hg hI
    refine .s (fun k => windroseref27_ReadMap.l146_s k _ _ _ _ _ _ _ _ _ _) (.i (fun hlt => ?_) (fun hn => stop g a trs (by omega) hI (.inl hn)))
    rw [decide_eq_true (by omega)]
    have hI2 := hI
    obtain ⟨i1, i2, i3, i4, i5⟩ := hI2
    refine .s (fun k => windroseref27_ReadMap.j154_s k _ _ _ _ _ _ _ _ _ _ _) (.t rfl (.o (take _ _) ?_))
    rw [w64n a (by omega), show w64 ((a : Int) + 2) = ((a + 2 : Nat) : Int) from wadd a 2 (by omega)]
    refine .o (take _ _) ?_
    refine ref_l182 x t9 t12 t15 t18 ns ts g trs _ _ hx (by omega) i2 i3 i4 _ (fun a' trs' h => ih (g + 1) a' trs' (by omega) h) (x.f0.length + 1) 0 (a + 2) [] (by omega) (by omega) rfl (by omega) (by omega) (fun _ h => nomatch h) ?_
    intro m hm
    obtain ⟨q1, q2, q3, q4, q5, q6, q7, q8⟩ := i5 m hm
    have h6 := good_f6 hm
    have hgl : g < m.f6.length := by omega
    rw [List.drop_eq_getElem_cons hgl, List.flatMap_cons] at q8
    obtain ⟨r1, r2⟩ := tk_of q8
    obtain ⟨r3, r4⟩ := tk_of r2
    exact ⟨hgl, q1, q2, q3, q4, q5, q6, q7, r1, r3, rfl, r4⟩
theorem ref_l93 (x : T_api_Data) (t9 t12 t15 t18 : Int) (ns : List T_api_Node) (t81 : Int) (hx : x.f0.length ≤ 400) (hns : ns.length ≤ 20) : ∀ (d i a : Nat) (ts : List T_api_Temp), i + d = 20 → a ≤ 300 + 22 * i → ts.length = i → (∀ t ∈ ts, t.f1.length ≤ 20) → (∀ m, Good x m → t9 = m.f0 ∧ t12 = m.f1 ∧ t15 = m.f2 ∧ t18 = m.f3 ∧ ns = m.f4 ∧ t81 = m.f5.length ∧ ts = m.f5.take i ∧ x.f0.drop a = (m.f5.drop i).flatMap encT ++ m.f6.flatMap encTr) → Ht (fun k => windroseref27_ReadMap.l93 k x t9 t12 t15 t18 ns t81 (a : Int) (i : Int) ts) (PostR x) := by
  have stop : ∀ (i a : Nat) (ts : List T_api_Temp), i ≤ 20 → a ≤ 300 + 22 * i → ts.length = i → (∀ t ∈ ts, t.f1.length ≤ 20) → (∀ m, Good x m → t9 = m.f0 ∧ t12 = m.f1 ∧ t15 = m.f2 ∧ t18 = m.f3 ∧ ns = m.f4 ∧ t81 = m.f5.length ∧ ts = m.f5.take i ∧ x.f0.drop a = (m.f5.drop i).flatMap encT ++ m.f6.flatMap encTr) → (¬ (i : Int) < t81 ∨ i = 20) → Ht (fun k => windroseref27_ReadMap.j101 k x t9 t12 t15 t18 ns t81 (a : Int) (i : Int) ts false) (PostR x) := by
    intro i a ts hi ha htl htn h hst
    refine .s (fun k => windroseref27_ReadMap.j101_s k _ _ _ _ _ _ _ _ _ _ _) (.n (by decide) ?_)
    refine ref_l146 x t9 t12 t15 t18 ns ts hx hns (by omega) htn 8 0 a [] rfl ⟨by omega, rfl, (fun _ h => nomatch h), (fun _ h => nomatch h), ?_⟩
    intro m hm
    obtain ⟨q1, q2, q3, q4, q5, q6, q7, q8⟩ := h m hm
    have h5 := good_f5 hm
    have hle : m.f5.length ≤ i := by omega
    rw [List.take_of_length_le hle] at q7
    rw [List.drop_eq_nil_of_le hle] at q8
    exact ⟨q1, q2, q3, q4, q5, q7, rfl, q8⟩
  intro d
  induction d with
  | zero =>
    intro i a ts hi ha htl htn h
    refine .s (fun k => windroseref27_ReadMap.l93_s k _ _ _ _ _ _ _ _ _ _) (.i (fun _ => ?_) (fun hn => stop i a ts (by omega) ha htl htn h (.inl hn)))
    rw [decide_eq_false (by omega)]
    exact stop i a ts (by omega) ha htl htn h (.inr (by omega))
  | succ d ih =>
    intro i a ts hi ha htl htn h
    refine .s (fun k => windroseref27_ReadMap.l93_s k _ _ _ _ _ _ _ _ _ _) (.i (fun hlt => ?_) (fun hn => stop i a ts (by omega) ha htl htn h (.inl hn)))
    rw [decide_eq_true (by omega)]
    refine .s (fun k => windroseref27_ReadMap.j101_s k _ _ _ _ _ _ _ _ _ _ _) (.t rfl (.o (take _ _) ?_))
    rw [w64n a (by omega), w64n i (by omega)]
    refine .b (nodes _ (a + 1) (by omega)) ?_
    intro w hw
    obtain ⟨p1, p2, p3⟩ := hw
    refine .t (by omega) ?_
    rw [p2]
    refine ih (i + 1) _ _ (by omega) (by omega) (by simp [htl]) ?_ ?_
    · intro t hm
      rcases List.mem_append.1 hm with hm | hm
      · exact htn t hm
      · simp only [List.mem_cons, List.not_mem_nil, or_false] at hm
        rw [hm]
        exact p1
    · intro m hm
      obtain ⟨q1, q2, q3, q4, q5, q6, q7, q8⟩ := h m hm
      have hil : i < m.f5.length := by omega
      rw [List.drop_eq_getElem_cons hil, List.flatMap_cons, List.append_assoc] at q8
      obtain ⟨r1, r2⟩ := tk_of q8
      obtain ⟨r3, r4⟩ := p3 m.f5[i].f1 _ ((good_f5 hm).2 _ (List.getElem_mem hil)) r2
      refine ⟨q1, q2, q3, q4, q5, q6, ?_, r4⟩
      rw [q7, r1, r3, List.take_add_one, List.getElem?_eq_getElem hil]
      rfl
theorem bit_eq (b : Bool) : (bit b == 1) = b := by cases b <;> rfl
theorem ref_l32 (x : T_api_Data) (t9 t12 t15 t18 : Int) (hx : x.f0.length ≤ 400) : ∀ (d i a : Nat) (ns : List T_api_Node), i + d = 20 → a = 5 + 6 * i → ns.length = i → (∀ m, Good x m → t9 = m.f0 ∧ t12 = m.f1 ∧ t15 = m.f2 ∧ t18 = m.f3 ∧ tk x.f0 4 = m.f4.length ∧ ns = m.f4.take i ∧ x.f0.drop a = (m.f4.drop i).flatMap encN ++ (m.f5.length : Int) :: (m.f5.flatMap encT ++ m.f6.flatMap encTr)) → Ht (fun k => windroseref27_ReadMap.l32 k x t9 t12 t15 t18 (a : Int) (i : Int) ns) (PostR x) := by
  have stop : ∀ (i a : Nat) (ns : List T_api_Node), i ≤ 20 → a = 5 + 6 * i → ns.length = i → (∀ m, Good x m → t9 = m.f0 ∧ t12 = m.f1 ∧ t15 = m.f2 ∧ t18 = m.f3 ∧ tk x.f0 4 = m.f4.length ∧ ns = m.f4.take i ∧ x.f0.drop a = (m.f4.drop i).flatMap encN ++ (m.f5.length : Int) :: (m.f5.flatMap encT ++ m.f6.flatMap encTr)) → (¬ (i : Int) < tk x.f0 4 ∨ i = 20) → Ht (fun k => windroseref27_ReadMap.j43 k x t9 t12 t15 t18 (a : Int) (i : Int) ns false) (PostR x) := by
    intro i a ns hi ha hnl h hst
    refine .s (fun k => windroseref27_ReadMap.j43_s k _ _ _ _ _ _ _ _ _) (.n (by decide) (.o (take _ _) ?_))
    rw [w64n a (by omega)]
    refine ref_l93 x t9 t12 t15 t18 ns _ hx (by omega) 20 0 (a + 1) [] rfl (by omega) rfl (fun _ h => nomatch h) ?_
    intro m hm
    obtain ⟨q1, q2, q3, q4, q5, q6, q7⟩ := h m hm
    have h4 := hm.1.1.2.2.2.2.1
    have hle : m.f4.length ≤ i := by omega
    rw [List.take_of_length_le hle] at q6
    rw [List.drop_eq_nil_of_le hle] at q7
    obtain ⟨r1, r2⟩ := tk_of (show x.f0.drop a = (m.f5.length : Int) :: (m.f5.flatMap encT ++ m.f6.flatMap encTr) from q7)
    exact ⟨q1, q2, q3, q4, q6, r1, rfl, r2⟩
  intro d
  induction d with
  | zero =>
    intro i a ns hi ha hnl h
    refine .s (fun k => windroseref27_ReadMap.l32_s k _ _ _ _ _ _ _ _) (.o (take _ 4) (.i (fun _ => ?_) (fun hn => stop i a ns (by omega) ha hnl h (.inl hn))))
    rw [decide_eq_false (by omega)]
    exact stop i a ns (by omega) ha hnl h (.inr (by omega))
  | succ d ih =>
    intro i a ns hi ha hnl h
    refine .s (fun k => windroseref27_ReadMap.l32_s k _ _ _ _ _ _ _ _) (.o (take _ 4) (.i (fun hlt => ?_) (fun hn => stop i a ns (by omega) ha hnl h (.inl hn))))
    rw [decide_eq_true (by omega)]
    have e : ∀ b : Nat, b ≤ 10 → w64 ((a : Int) + (b : Int)) = ((a + b : Nat) : Int) := fun b hb => wadd a b (by omega)
    refine .s (fun k => windroseref27_ReadMap.j43_s k _ _ _ _ _ _ _ _ _) (.t rfl (.o (take _ _) ?_))
    rw [show w64 ((a : Int) + 1) = _ from e 1 (by omega), show w64 ((a : Int) + 2) = _ from e 2 (by omega), show w64 ((a : Int) + 3) = _ from e 3 (by omega), show w64 ((a : Int) + 4) = _ from e 4 (by omega), show w64 ((a : Int) + 5) = _ from e 5 (by omega), show w64 ((a : Int) + 6) = _ from e 6 (by omega), w64n i (by omega)]
    refine .o (take _ _) (.o (take _ _) (.o (take _ _) (.o (take _ _) (.o (take _ _) (.t (by omega) (ih (i + 1) (a + 6) _ (by omega) (by omega) (by simp [hnl]) ?_))))))
    intro m hm
    obtain ⟨q1, q2, q3, q4, q5, q6, q7⟩ := h m hm
    have hil : i < m.f4.length := by omega
    rw [List.drop_eq_getElem_cons hil, List.flatMap_cons, List.append_assoc] at q7
    obtain ⟨r0, s0⟩ := tk_of q7
    obtain ⟨r1, s1⟩ := tk_of s0
    obtain ⟨r2, s2⟩ := tk_of s1
    obtain ⟨r3, s3⟩ := tk_of s2
    obtain ⟨r4, s4⟩ := tk_of s3
    obtain ⟨r5, s5⟩ := tk_of s4
    refine ⟨q1, q2, q3, q4, q5, ?_, s5⟩
    rw [q6, r0, r1, r2, r3, r4, r5, bit_eq, bit_eq, List.take_add_one, List.getElem?_eq_getElem hil]
    rfl
theorem refmap (x : T_api_Data) (hx : x.f0.length ≤ 400) : Ht (fun k => windroseref27_ReadMap.f k x) (PostR x) := by
  unfold windroseref27_ReadMap.f
  refine .o (take _ 0) (.o (take _ 1) (.o (take _ 2) (.o (take _ 3) (ref_l32 x _ _ _ _ hx 20 0 5 [] rfl rfl rfl ?_))))
  intro m hm
  have h := hm.2.1
  have e : x.f0.drop 0 = enc m := h.symm
  obtain ⟨r0, s0⟩ := tk_of e
  obtain ⟨r1, s1⟩ := tk_of s0
  obtain ⟨r2, s2⟩ := tk_of s1
  obtain ⟨r3, s3⟩ := tk_of s2
  obtain ⟨r4, s4⟩ := tk_of s3
  exact ⟨r0, r1, r2, r3, r4, rfl, s4⟩

theorem awake0 (k : Nat) : windroselaw27_awake.f (k + 100) = some true := by kernel_rfl
theorem awake : Ev (fun k => windroselaw27_awake.f k) true := by
  refine ⟨100, fun k hk => ?_⟩
  obtain ⟨k, rfl⟩ : ∃ m, k = m + 100 := ⟨k - 100, by omega⟩
  exact awake0 k
end Read
open Read in
theorem purePastReads : PurePastReads := by
  intro x hx
  refine Ev.one (v := true) ?_
  have hs : Ev (fun k => windroselaw27_PastReads.j8 k x true) true := .s (fun k => windroselaw27_PastReads.j8_s k _ _) (.t rfl (.b awake (.c _)))
  unfold windroselaw27_PastReads.f
  refine .i (fun h => hs) (fun h => ?_)
  by_cases h5 : (x.f1.length : Int) > 5
  · rw [decide_eq_true h5]
    exact hs
  rw [decide_eq_false h5]
  obtain ⟨w, ew, pw⟩ := map x (by omega)
  obtain ⟨u, eu, pu⟩ := refmap x (by omega)
  refine .s (fun k => windroselaw27_PastReads.j8_s k _ _) (.n (by decide) (.b ew (.b eu ?_)))
  rcases pu with ⟨hu, gu⟩ | ⟨rfl, hu⟩
  · rcases pw with ⟨hw, gw, sw, uw⟩ | ⟨rfl, hw⟩
    · obtain e := uw _ gu
      rw [e]
      refine .t hu (.t hw (.b (Maps.same_refl _ sw (fun t ht => by have := (good_f5 gw).2 t ht; omega)) (.t rfl (.b awake (.c _)))))
    · exact absurd gu (hw _)
  · rcases pw with ⟨hw, gw, sw, uw⟩ | ⟨rfl, hw⟩
    · exact absurd gw (hu _)
    · exact .n (by decide) (.t rfl (.b (Maps.same_refl _ ⟨by decide, by decide, by decide, (fun _ h => nomatch h), (fun _ h => nomatch h)⟩ (fun _ h => nomatch h)) (.t rfl (.b awake (.c _)))))
end Go.Proofs.Ytihjknnhbgkinaa.SR
