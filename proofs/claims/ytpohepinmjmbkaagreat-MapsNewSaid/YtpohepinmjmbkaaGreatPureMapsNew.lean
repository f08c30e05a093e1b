/- The law MapsNew, plain. -/
import Derived.Test.YtpohepinmjmbkaaGreatMNoMapsNew
namespace Go.Proofs.YtpohepinmjmbkaaGreat.MN
open Go Go.RowKit Go.Proofs.YtpohepinmjmbkaaGreat Go.Proofs.YtpohepinmjmbkaaGreat.Sl
set_option linter.unusedVariables false
set_option linter.unusedSimpArgs false
theorem w64n (i : Nat) (h : i < 9223372036854775807) : w64 ((i : Int) + 1) = ((i + 1 : Nat) : Int) := by rw [w64_of (by omega) (by omega)]; omega
theorem w64p (i : Nat) (h : i < 9223372036854775807) (h0 : 0 < i) : w64 ((i : Int) - 1) = ((i - 1 : Nat) : Int) := by rw [w64_of (by omega) (by omega)]; omega
theorem nth_get {α : Type} (z : α) (l : List α) (i : Nat) (h : i < l.length) : nth z l (i : Int) = l[i] := by simp [nth, h]
/-- In the end, with fuel enough, a run answers so. -/
def Ev {β : Type} (f : Nat → Option β) (v : β) : Prop := ∃ K, ∀ k, K ≤ k → f k = some v
theorem Ev.c {β : Type} (v : β) : Ev (fun _ => some v) v := ⟨0, fun _ _ => rfl⟩
theorem Ev.cv {β : Type} {v w : β} (h : v = w) : Ev (fun _ => some v) w := ⟨0, fun _ _ => congrArg some h⟩
theorem Ev.v {β : Type} {f : Nat → Option β} {v w : β} (h : Ev f v) (e : v = w) : Ev f w := e ▸ h
theorem Ev.s {β : Type} {f g : Nat → Option β} {v : β} (h : ∀ k, f (k + 1) = g k) (hg : Ev g v) : Ev f v := by
  obtain ⟨K, hK⟩ := hg
  refine ⟨K + 1, fun k hk => ?_⟩
  obtain ⟨k, rfl⟩ : ∃ m, k = m + 1 := ⟨k - 1, by omega⟩
  rw [h]
  exact hK k (by omega)
theorem Ev.e {β : Type} {f g : Nat → Option β} {v : β} (h : ∀ k, f k = g k) (hg : Ev g v) : Ev f v := by
  obtain ⟨K, hK⟩ := hg
  exact ⟨K, fun k hk => (h k).trans (hK k hk)⟩
theorem Ev.b {α β : Type} {f : Nat → Option α} {g : Nat → α → Option β} {a : α} {v : β} (hf : Ev f a) (hg : Ev (fun k => g k a) v) : Ev (fun k => (f k).bind (g k)) v := by
  obtain ⟨K, hK⟩ := hf
  obtain ⟨L, hL⟩ := hg
  refine ⟨K + L, fun k hk => ?_⟩
  show (f k).bind (g k) = some v
  rw [hK k (by omega), Option.bind_some]
  exact hL k (by omega)
theorem Ev.b0 {α β : Type} {o : Option α} {g : Nat → α → Option β} {a : α} {v : β} (ho : o = some a) (hg : Ev (fun k => g k a) v) : Ev (fun k => o.bind (g k)) v := Ev.b ⟨0, fun _ _ => ho⟩ hg
theorem Ev.i {β : Type} {c : Prop} [Decidable c] {f g : Nat → Option β} {v : β} (hf : c → Ev f v) (hg : ¬ c → Ev g v) : Ev (fun k => if c then f k else g k) v := by
  by_cases h : c
  · simpa only [if_pos h] using hf h
  · simpa only [if_neg h] using hg h
theorem Ev.t {β : Type} {c : Prop} [Decidable c] {f g : Nat → Option β} {v : β} (h : c) (hf : Ev f v) : Ev (fun k => if c then f k else g k) v := Ev.i (fun _ => hf) (fun n => absurd h n)
theorem Ev.n {β : Type} {c : Prop} [Decidable c] {f g : Nat → Option β} {v : β} (h : ¬ c) (hg : Ev g v) : Ev (fun k => if c then f k else g k) v := Ev.i (fun n => absurd n h) (fun _ => hg)
theorem Ev.and {α β : Type} {f : Nat → Option α} {g : Nat → Option β} {v : α} {w : β} (hf : Ev f v) (hg : Ev g w) : ∃ k, f k = some v ∧ g k = some w := by
  obtain ⟨K, hK⟩ := hf
  obtain ⟨L, hL⟩ := hg
  exact ⟨K + L, hK _ (by omega), hL _ (by omega)⟩
theorem Ev.one {α : Type} {f : Nat → Option α} {v : α} (hf : Ev f v) : ∃ k, f k = some v := by
  obtain ⟨K, hK⟩ := hf
  exact ⟨K, hK _ (by omega)⟩
/-- The answer's number: all well, or an argument that may not be. -/
def eno : Bool → Int
  | true => 0
  | false => 1

namespace Topo
/-! nodes -/
theorem tin (x a b : Int) : topo_in.f x a b = some (decide (a ≤ x ∧ x ≤ b)) := by
  unfold topo_in.f
  by_cases h : x ≥ a
  · rw [if_pos h]
    congr 1
    simp only [decide_eq_decide]
    omega
  · rw [if_neg h, decide_eq_false (by omega)]
def okN (n : T_api_Node) : Prop := (1 ≤ n.f0 ∧ n.f0 ≤ 999) ∧ (1 ≤ n.f1 ∧ n.f1 ≤ 9) ∧ (1 ≤ n.f2 ∧ n.f2 ≤ 9) ∧ 0 ≤ n.f3 ∧ n.f3 ≤ 65536
instance (n : T_api_Node) : Decidable (okN n) := inferInstanceAs (Decidable (_ ∧ _))
/-- Nodes that may be, their numbers rising from one on. -/
def rise : Int → List T_api_Node → Bool
  | _, [] => true
  | p, n :: l => decide (okN n ∧ p < n.f0) && rise n.f0 l
/-- The number ahead of a place. -/
def pre (l : List T_api_Node) (i : Nat) : Int := if i = 0 then 0 else (nth T_api_Node.z l (w64 ((i : Int) - 1))).f0
theorem pre_succ (l : List T_api_Node) (i : Nat) (h : i < l.length) (hl : l.length < 4611686018427387904) : pre l (i + 1) = l[i].f0 := by
  unfold pre
  rw [if_neg (by omega), w64p (i + 1) (by omega) (by omega), show i + 1 - 1 = i by omega, nth_get _ _ _ h]
def Nodes (l : List T_api_Node) : Prop := l.length ≤ 12 ∧ rise 0 l = true
instance (l : List T_api_Node) : Decidable (Nodes l) := inferInstanceAs (Decidable (_ ∧ _))
theorem check_l9 (l : List T_api_Node) (hl : l.length < 4611686018427387904) : ∀ (d i : Nat), i + d = l.length → Ev (fun k => topo_Check.l9 k l (i : Int)) (eno (rise (pre l i) (l.drop i))) := by
  intro d
  induction d with
  | zero =>
    intro i hi
    refine .s (fun k => topo_Check.l9_s k _ _) (.n (by omega) (.cv ?_))
    rw [List.drop_eq_nil_of_le (by omega)]
    rfl
  | succ d ih =>
    intro i hi
    have h1 : i < l.length := by omega
    refine .s (fun k => topo_Check.l9_s k _ _) (.t (by omega) (.t (by omega) ?_))
    have ih := ih (i + 1) (by omega)
    rw [pre_succ l i h1 hl] at ih
    rw [List.drop_eq_getElem_cons h1, nth_get _ _ _ h1]
    have hj : ∀ b : Bool, (b = true ↔ ¬ (okN l[i] ∧ pre l i < l[i].f0)) → Ev (fun k => topo_Check.j49 k l (i : Int) b) (eno (rise (pre l i) (l[i] :: l.drop (i + 1)))) := by
      intro b hb
      refine .s (fun k => topo_Check.j49_s k _ _ _) ?_
      simp only [rise]
      by_cases h : okN l[i] ∧ pre l i < l[i].f0
      · refine .n (fun e => (hb.1 e) h) ?_
        rw [w64n i (by omega), decide_eq_true h, Bool.true_and]
        exact ih
      · refine .t (hb.2 h) (.cv ?_)
        rw [decide_eq_false h, Bool.false_and]
        rfl
    clear ih
    have hp0 : i = 0 → pre l i = 0 := fun e => if_pos e
    have hp1 : i ≠ 0 → (nth T_api_Node.z l (w64 ((i : Int) - 1))).f0 = pre l i := fun e => (if_neg e).symm
    have hw : i ≠ 0 → w64 ((i : Int) - 1) = ((i - 1 : Nat) : Int) := fun e => w64p i (by omega) (by omega)
    unfold okN at hj
    generalize hv : eno (rise (pre l i) (l[i] :: l.drop (i + 1))) = v at hj ⊢
    clear hv
    generalize pre l i = p at *
    generalize (nth T_api_Node.z l (w64 ((i : Int) - 1))).f0 = q at *
    generalize l[i] = n at *
    repeat' (first | refine Ev.b0 (tin _ _ _) ?_ | refine Ev.i (fun _ => ?_) (fun _ => ?_))
    all_goals simp only [decide_eq_true_eq] at *
    all_goals first
      | exact hj _ (by simp only [decide_eq_true_eq, Bool.false_eq_true, true_iff, false_iff]; omega)
      | (exfalso; omega)
theorem check' (l : List T_api_Node) : Ev (fun k => topo_Check.f k l) (eno (decide (Nodes l))) := by
  unfold topo_Check.f
  refine .i (fun h => .cv ?_) (fun h => (check_l9 l (by omega) l.length 0 (by omega)).v ?_)
  · rw [decide_eq_false (fun n : Nodes l => by have := n.1; omega)]
    rfl
  · rw [show pre l 0 = 0 from rfl, List.drop_zero]
    congr 1
    rw [Bool.eq_iff_iff, decide_eq_true_eq]
    exact ⟨fun h0 => ⟨by omega, h0⟩, fun n => n.2⟩
theorem check (l : List T_api_Node) (_ : l.length < 4611686018427387904) : Ev (fun k => topo_Check.f k l) (eno (decide (Nodes l))) := check' l
theorem may_l5 (l : List T_api_Node) (hl : l.length < 4611686018427387904) : ∀ (d i : Nat), i + d = l.length → Ev (fun k => windroseref06_May.l5 k l (i : Int)) (rise (pre l i) (l.drop i) && decide (l.length ≤ 12)) := by
  intro d
  induction d with
  | zero =>
    intro i hi
    refine .s (fun k => windroseref06_May.l5_s k _ _) (.n (by omega) (.cv ?_))
    rw [List.drop_eq_nil_of_le (by omega)]
    simp only [rise, Bool.true_and, decide_eq_decide]
    omega
  | succ d ih =>
    intro i hi
    have h1 : i < l.length := by omega
    refine .s (fun k => windroseref06_May.l5_s k _ _) (.t (by omega) (.t (by omega) ?_))
    have ih := ih (i + 1) (by omega)
    rw [pre_succ l i h1 hl] at ih
    rw [List.drop_eq_getElem_cons h1, nth_get _ _ _ h1]
    have hj : ∀ b : Bool, (b = true ↔ ¬ (okN l[i] ∧ pre l i < l[i].f0)) → Ev (fun k => windroseref06_May.j37 k l (i : Int) b) (rise (pre l i) (l[i] :: l.drop (i + 1)) && decide (l.length ≤ 12)) := by
      intro b hb
      refine .s (fun k => windroseref06_May.j37_s k _ _ _) ?_
      simp only [rise]
      by_cases h : okN l[i] ∧ pre l i < l[i].f0
      · refine .n (fun e => (hb.1 e) h) ?_
        rw [w64n i (by omega), decide_eq_true h, Bool.true_and]
        exact ih
      · refine .t (hb.2 h) (.cv ?_)
        rw [decide_eq_false h, Bool.false_and, Bool.false_and]
    clear ih
    have hp0 : i = 0 → pre l i = 0 := fun e => if_pos e
    have hp1 : i ≠ 0 → (nth T_api_Node.z l (w64 ((i : Int) - 1))).f0 = pre l i := fun e => (if_neg e).symm
    have hw : i ≠ 0 → w64 ((i : Int) - 1) = ((i - 1 : Nat) : Int) := fun e => w64p i (by omega) (by omega)
    unfold okN at hj
    generalize hv : (rise (pre l i) (l[i] :: l.drop (i + 1)) && decide (l.length ≤ 12)) = v at hj ⊢
    clear hv
    generalize pre l i = p at *
    generalize (nth T_api_Node.z l (w64 ((i : Int) - 1))).f0 = q at *
    generalize l[i] = n at *
    repeat' (first | refine Ev.i (fun _ => ?_) (fun _ => ?_))
    all_goals first
      | exact hj _ (by simp only [decide_eq_true_eq, Bool.false_eq_true, true_iff, false_iff]; omega)
      | (exfalso; omega)
theorem may (l : List T_api_Node) (hl : l.length < 4611686018427387904) : Ev (fun k => windroseref06_May.f k l) (decide (Nodes l)) := by
  unfold windroseref06_May.f
  refine (may_l5 l hl l.length 0 (by omega)).v ?_
  rw [show pre l 0 = 0 from rfl, List.drop_zero, Bool.eq_iff_iff, Bool.and_eq_true, decide_eq_true_eq, decide_eq_true_eq]
  exact And.comm

theorem index_l5 (l : List Int) (v : Int) (hl : l.length < 4611686018427387904) : ∀ (d i : Nat), i + d = l.length → ∃ x, Ev (fun k => slices_Index__int_int.l5 k l v (i : Int)) x ∧ (0 ≤ x ↔ v ∈ l.drop i) := by
  intro d
  induction d with
  | zero =>
    intro i hi
    refine ⟨-1, .s (fun k => slices_Index__int_int.l5_s k _ _ _) (.n (by omega) (.c _)), ?_⟩
    rw [List.drop_eq_nil_of_le (by omega)]
    simp
  | succ d ih =>
    intro i hi
    have h1 : i < l.length := by omega
    obtain ⟨x, hx, hm⟩ := ih (i + 1) (by omega)
    by_cases h : v = l[i]
    · refine ⟨i, .s (fun k => slices_Index__int_int.l5_s k _ _ _) (.t (by omega) (.t (by omega) (.t (by rw [nth_get _ _ _ h1]; exact h) (.c _)))), ?_⟩
      rw [List.drop_eq_getElem_cons h1]
      exact ⟨fun _ => List.mem_cons.2 (.inl h), fun _ => by omega⟩
    · refine ⟨x, .s (fun k => slices_Index__int_int.l5_s k _ _ _) (.t (by omega) (.t (by omega) (.n (by rw [nth_get _ _ _ h1]; exact h) ?_))), ?_⟩
      · rw [w64n i (by omega)]
        exact hx
      · rw [List.drop_eq_getElem_cons h1, hm]
        exact ⟨fun m => List.mem_cons.2 (.inr m), fun m => (List.mem_cons.1 m).resolve_left h⟩
theorem contains (l : List Int) (v : Int) (hl : l.length < 4611686018427387904) : Ev (fun k => slices_Contains__int_int.f k l v) (decide (v ∈ l)) := by
  obtain ⟨x, hx, hm⟩ := index_l5 l v hl l.length 0 (by omega)
  unfold slices_Contains__int_int.f slices_Index__int_int.f
  refine .b hx (.cv ?_)
  rw [decide_eq_decide]
  exact hm

def apartR (l : List T_api_Node) : List Int → List Int → Bool
  | _, [] => true
  | met, id :: r => match l.find? (fun n => decide (n.f0 = id)) with
    | some n => !decide (n.f1 ∈ met) && apartR l (met ++ [n.f1]) r
    | none => false

/-! nodes of unlike zones -/
def apartT (l : List T_api_Node) : List Int → List Int → Bool
  | _, [] => true
  | met, id :: r => match l.find? (fun n => decide (n.f0 = id) && !decide (n.f1 ∈ met)) with
    | some n => apartT l (met ++ [n.f1]) r
    | none => false
theorem apart_l35 (l : List T_api_Node) (ids met : List Int) (i : Nat) (w : Bool) (hl : l.length < 4611686018427387904) (hm : met.length < 1000000000000) (hi : i < ids.length) (hil : ids.length < 4611686018427387904)
    (hs : ∀ n, l.find? (fun n => decide (n.f0 = ids[i]) && !decide (n.f1 ∈ met)) = some n → Ev (fun k => topo_Apart.l18 k l ids (met ++ [n.f1]) ((i + 1 : Nat) : Int)) w)
    (hn : l.find? (fun n => decide (n.f0 = ids[i]) && !decide (n.f1 ∈ met)) = none → w = false) :
    ∀ (d j : Nat), j + d = l.length → (l.take j).find? (fun n => decide (n.f0 = ids[i]) && !decide (n.f1 ∈ met)) = none → Ev (fun k => topo_Apart.l35 k l ids met (i : Int) (j : Int)) w := by
  intro d
  induction d with
  | zero =>
    intro j hj ht
    refine .s (fun k => topo_Apart.l35_s k _ _ _ _ _) (.n (by omega) (.cv ?_))
    rw [List.take_of_length_le (by omega)] at ht
    exact (hn ht).symm
  | succ d ih =>
    intro j hj ht
    have h1 : j < l.length := by omega
    refine .s (fun k => topo_Apart.l35_s k _ _ _ _ _) (.t (by omega) (.t (by omega) ?_))
    have hb : ∀ b : Bool, b = (decide (l[j].f0 = ids[i]) && !decide (l[j].f1 ∈ met)) → Ev (fun k => topo_Apart.j58 k l ids met (i : Int) (j : Int) b) w := by
      intro b hb
      refine .s (fun k => topo_Apart.j58_s k _ _ _ _ _ _) ?_
      cases b with
      | true =>
        refine .t rfl (.t (by omega) ?_)
        rw [nth_get _ _ _ h1, w64n i (by omega)]
        refine hs _ ?_
        have e := congrArg (List.find? (fun n => decide (n.f0 = ids[i]) && !decide (n.f1 ∈ met))) (List.take_append_drop j l)
        rw [← e, List.find?_append, ht, List.drop_eq_getElem_cons h1, List.find?_cons_of_pos (p := fun n : T_api_Node => decide (n.f0 = ids[i]) && !decide (n.f1 ∈ met)) hb.symm]
        rfl
      | false =>
        refine .n (by decide) ?_
        rw [w64n j (by omega)]
        refine ih (j + 1) (by omega) ?_
        rw [List.take_add_one, List.find?_append, ht, List.getElem?_eq_getElem h1]
        simp only [Option.toList_some, Option.none_or]
        rw [List.find?_cons_of_neg]
        · rfl
        · rw [← hb]; decide
    rw [nth_get _ _ _ h1, nth_get _ _ _ hi]
    by_cases h : l[j].f0 = ids[i]
    · refine .t h (.b (contains met _ (by omega)) (hb _ ?_))
      rw [decide_eq_true h]; rfl
    · refine .n h (hb _ ?_)
      rw [decide_eq_false h]; rfl
theorem apart_l18 (l : List T_api_Node) (ids : List Int) (hl : l.length < 4611686018427387904) (hil : ids.length < 500000000000) : ∀ (d i : Nat) (met : List Int), i + d = ids.length → met.length = i → Ev (fun k => topo_Apart.l18 k l ids met (i : Int)) (apartT l met (ids.drop i)) := by
  intro d
  induction d with
  | zero =>
    intro i met hi hm
    refine .s (fun k => topo_Apart.l18_s k _ _ _ _) (.n (by omega) (.cv ?_))
    rw [List.drop_eq_nil_of_le (by omega)]
    rfl
  | succ d ih =>
    intro i met hi hm
    have h1 : i < ids.length := by omega
    refine .s (fun k => topo_Apart.l18_s k _ _ _ _) (.t (by omega) (.t (by omega) ?_))
    refine apart_l35 l ids met i _ hl (by omega) h1 (by omega) ?_ ?_ l.length 0 (by omega) rfl
    · intro n hn
      refine (ih (i + 1) _ (by omega) (by simp [hm])).v ?_
      rw [List.drop_eq_getElem_cons h1, apartT, hn]
    · intro hn
      rw [List.drop_eq_getElem_cons h1, apartT, hn]
theorem rise_lt : ∀ (p : Int) (l : List T_api_Node), rise p l = true → ∀ n ∈ l, p < n.f0
  | _, [], _, _, h => nomatch h
  | p, m :: l, h, n, hn => by
    simp only [rise, Bool.and_eq_true, decide_eq_true_eq] at h
    rcases List.mem_cons.1 hn with rfl | hn
    · exact h.1.2
    · exact Int.lt_trans h.1.2 (rise_lt _ l h.2 n hn)
theorem find_met (id : Int) (met : List Int) : ∀ (p : Int) (l : List T_api_Node), rise p l = true → l.find? (fun n => decide (n.f0 = id) && !decide (n.f1 ∈ met)) = match l.find? (fun n => decide (n.f0 = id)) with
    | some n => if n.f1 ∈ met then none else some n
    | none => none
  | _, [], _ => rfl
  | p, m :: l, h => by
    simp only [rise, Bool.and_eq_true, decide_eq_true_eq] at h
    by_cases hm : m.f0 = id
    · rw [List.find?_cons_of_pos (a := m) (p := fun n : T_api_Node => decide (n.f0 = id)) (by simpa using hm)]
      by_cases hz : m.f1 ∈ met
      · simp only [hz, if_true]
        rw [List.find?_eq_none]
        intro n hn
        rcases List.mem_cons.1 hn with rfl | hn
        · simp [hz]
        · have := rise_lt _ _ h.2 n hn
          have : ¬ n.f0 = id := by omega
          simp [this]
      · rw [List.find?_cons_of_pos (by simp [hm, hz])]
        simp only [hz, if_false]
    · rw [List.find?_cons_of_neg (by simp [hm]), List.find?_cons_of_neg (by simpa using hm)]
      exact find_met id met _ l h.2
theorem apart_same (l : List T_api_Node) (h : rise 0 l = true) : ∀ (ids met : List Int), apartT l met ids = apartR l met ids
  | [], _ => rfl
  | id :: r, met => by
    rw [apartT, apartR, find_met id met 0 l h]
    cases l.find? (fun n => decide (n.f0 = id)) with
    | none => rfl
    | some n =>
      by_cases hz : n.f1 ∈ met
      · simp [hz]
      · simp only [hz, if_false, decide_false, Bool.not_false, Bool.true_and]
        exact apart_same l h r _
theorem apart (l : List T_api_Node) (ids : List Int) (hl : l.length < 4611686018427387904) (hil : ids.length < 500000000000) : Ev (fun k => topo_Apart.f k l ids) (decide (Nodes l) && apartR l [] ids) := by
  unfold topo_Apart.f
  refine .b (check l hl) ?_
  by_cases h : Nodes l
  · rw [decide_eq_true h]
    refine .t rfl ((apart_l18 l ids hl hil ids.length 0 [] (by omega) rfl).v ?_)
    rw [List.drop_zero, apart_same l h.2, Bool.true_and]
  · rw [decide_eq_false h]
    exact .n (by decide) (.c _)

/-- A node by its number. -/
def find (l : List T_api_Node) (id : Int) : T_api_Node × Bool := match l.find? (fun n => decide (n.f0 = id)) with
  | some n => (n, true)
  | none => (⟨0, 0, 0, 0, false, false⟩, false)
theorem find_l7 (l : List T_api_Node) (id : Int) (hl : l.length < 4611686018427387904) : ∀ (d i : Nat), i + d = l.length → Ev (fun k => windroseref06_Find.l7 k l id (i : Int)) (find (l.drop i) id) := by
  intro d
  induction d with
  | zero =>
    intro i hi
    refine .s (fun k => windroseref06_Find.l7_s k _ _ _) (.n (by omega) (.cv ?_))
    rw [List.drop_eq_nil_of_le (by omega)]
    rfl
  | succ d ih =>
    intro i hi
    have h1 : i < l.length := by omega
    refine .s (fun k => windroseref06_Find.l7_s k _ _ _) (.t (by omega) (.t (by omega) ?_))
    rw [List.drop_eq_getElem_cons h1, nth_get _ _ _ h1]
    by_cases h : l[i].f0 = id
    · refine .t h (.cv ?_)
      rw [find, List.find?_cons_of_pos (by simpa using h)]
    · refine .n h ?_
      rw [w64n i (by omega)]
      refine (ih (i + 1) (by omega)).v ?_
      rw [find, find, List.find?_cons_of_neg (by simpa using h)]
theorem reffind (l : List T_api_Node) (id : Int) (hl : l.length < 4611686018427387904) : Ev (fun k => windroseref06_Find.f k l id) (find l id) := by
  unfold windroseref06_Find.f
  exact find_l7 l id hl l.length 0 (by omega)
def zn (l : List T_api_Node) (id : Int) : Int := (find l id).1.f1

theorem apart_l31 (l : List T_api_Node) (ids : List Int) (i : Nat) (t : T_api_Node × Bool) (w : Bool) (hl : l.length < 4611686018427387904) (hi : i < ids.length) (hil : ids.length < 4611686018427387904) : ∀ (d j : Nat), j + d = i →
    (t.1.f1 ∈ ((ids.take i).drop j).map (zn l) → w = false) → (¬ t.1.f1 ∈ ((ids.take i).drop j).map (zn l) → Ev (fun k => windroseref06_Apart.l5 k l ids ((i + 1 : Nat) : Int)) w) →
    Ev (fun k => windroseref06_Apart.l31 k l ids (i : Int) t (j : Int)) w := by
  intro d
  induction d with
  | zero =>
    intro j hj _ hn
    refine .s (fun k => windroseref06_Apart.l31_s k _ _ _ _ _) (.n (by omega) ?_)
    rw [w64n i (by omega)]
    refine hn ?_
    rw [List.drop_eq_nil_of_le (by simp; omega)]
    simp
  | succ d ih =>
    intro j hj hy hn
    have h1 : j < ids.length := by omega
    have h2 : j < (ids.take i).length := by simp; omega
    rw [List.drop_eq_getElem_cons h2, List.getElem_take, List.map_cons, List.mem_cons] at hy hn
    refine .s (fun k => windroseref06_Apart.l31_s k _ _ _ _ _) (.t (by omega) (.t (by omega) ?_))
    rw [nth_get _ _ _ h1]
    refine .b (reffind l _ hl) ?_
    by_cases h : t.1.f1 = zn l ids[j]
    · exact .t h (.cv (hy (.inl h)).symm)
    · refine .n h ?_
      rw [w64n j (by omega)]
      exact ih (j + 1) (by omega) (fun m => hy (.inr m)) (fun m => hn (fun o => o.elim h m))
theorem apart_l5 (l : List T_api_Node) (ids : List Int) (hl : l.length < 4611686018427387904) (hil : ids.length < 500000000000) : ∀ (d i : Nat), i + d = ids.length → Ev (fun k => windroseref06_Apart.l5 k l ids (i : Int)) (apartR l ((ids.take i).map (zn l)) (ids.drop i)) := by
  intro d
  induction d with
  | zero =>
    intro i hi
    refine .s (fun k => windroseref06_Apart.l5_s k _ _ _) (.n (by omega) (.cv ?_))
    rw [List.drop_eq_nil_of_le (by omega)]
    rfl
  | succ d ih =>
    intro i hi
    have h1 : i < ids.length := by omega
    refine .s (fun k => windroseref06_Apart.l5_s k _ _ _) (.t (by omega) (.t (by omega) ?_))
    rw [nth_get _ _ _ h1, List.drop_eq_getElem_cons h1, apartR]
    have ih := ih (i + 1) (by omega)
    rw [List.take_add_one, List.getElem?_eq_getElem h1, Option.toList_some, List.map_append, List.map_singleton] at ih
    refine .b (reffind l _ hl) ?_
    have e : zn l ids[i] = (find l ids[i]).1.f1 := rfl
    unfold find at e ⊢
    cases hf : l.find? (fun n => decide (n.f0 = ids[i])) with
    | none => exact .n (by decide) (.c _)
    | some n =>
      rw [hf] at e
      rw [e] at ih
      refine .t rfl ?_
      refine apart_l31 l ids i (n, true) _ hl h1 (by omega) i 0 (by omega) ?_ ?_
      · intro h
        rw [List.drop_zero] at h
        show (!decide (n.f1 ∈ _) && _) = false
        rw [decide_eq_true h]
        rfl
      · intro h
        rw [List.drop_zero] at h
        refine ih.v ?_
        show _ = (!decide (n.f1 ∈ _) && _)
        rw [decide_eq_false h]
        rfl
theorem refapart (l : List T_api_Node) (ids : List Int) (hl : l.length < 4611686018427387904) (hil : ids.length < 500000000000) : Ev (fun k => windroseref06_Apart.f k l ids) (apartR l [] ids) := by
  unfold windroseref06_Apart.f
  exact apart_l5 l ids hl hil ids.length 0 (by omega)


end Topo
namespace Maps
/-! maps that may be -/
theorem min' (x a b : Int) : maps_in.f x a b = some (decide (a ≤ x ∧ x ≤ b)) := by
  unfold maps_in.f
  by_cases h : x ≥ a
  · rw [if_pos h]
    congr 1
    simp only [decide_eq_decide]
    omega
  · rw [if_neg h, decide_eq_false (by omega)]
def temps (m : T_api_Map) : Int → List T_api_Temp → Bool
  | _, [] => true
  | p, t :: l => (decide ((0 ≤ t.f0 ∧ t.f0 < m.f3) ∧ p < t.f0 ∧ 1 ≤ (t.f1.length : Int) ∧ (t.f1.length : Int) ≤ m.f1) && Topo.apartR m.f4 [] t.f1) && temps m t.f0 l
def riseI : Int → List Int → Bool
  | _, [] => true
  | p, n :: l => decide ((1 ≤ n ∧ n ≤ 999) ∧ p < n) && riseI n l
def past (m : T_api_Map) (since : Int) : Int → List T_api_Span → List T_api_Span → Bool
  | _, _, [] => true
  | p, seen, s :: l => (decide ((0 ≤ s.f0 ∧ s.f0 < since) ∧ p < s.f0 ∧ m.f2 ≤ (s.f1.length : Int) ∧ (s.f1.length : Int) ≤ m.f1) && riseI 0 s.f1 && !decide (∃ x ∈ seen, x.f1 = s.f1)) && past m since s.f0 (seen ++ [s]) l
def trails (m : T_api_Map) : List T_api_Trail → Bool
  | [] => true
  | t :: l => (decide (0 ≤ t.f0 ∧ t.f0 ≤ m.f0) && past m t.f0 (-1) [] t.f1) && trails m l
def Flat (m : T_api_Map) : Prop := (0 ≤ m.f0 ∧ m.f0 ≤ 2147483647) ∧ (1 ≤ m.f1 ∧ m.f1 ≤ 3) ∧ (1 ≤ m.f2 ∧ m.f2 ≤ m.f1) ∧ (1 ≤ m.f3 ∧ m.f3 ≤ 8) ∧ Topo.Nodes m.f4
instance (m : T_api_Map) : Decidable (Flat m) := inferInstanceAs (Decidable (_ ∧ _))
def May (m : T_api_Map) : Prop := Flat m ∧ temps m (-1) m.f5 = true ∧ (m.f6.length : Int) = m.f3 ∧ trails m m.f6 = true
instance (m : T_api_Map) : Decidable (May m) := inferInstanceAs (Decidable (_ ∧ _))
/-- Rows of a length that the counts can tell. -/
structure Small (m : T_api_Map) : Prop where
  h4 : m.f4.length < 4611686018427387904
  h5 : m.f5.length < 4611686018427387904
  h6 : m.f6.length < 4611686018427387904
  hp : ∀ t ∈ m.f6, t.f1.length < 4611686018427387904
  hs : ∀ t ∈ m.f6, ∀ s ∈ t.f1, s.f1.length < 4611686018427387904
theorem small_i {m : T_api_Map} (h : Small m) : True := trivial
def preT (l : List T_api_Temp) (i : Nat) : Int := if i = 0 then -1 else (nth T_api_Temp.z l (w64 ((i : Int) - 1))).f0
theorem preT_succ (l : List T_api_Temp) (i : Nat) (h : i < l.length) (hl : l.length < 4611686018427387904) : preT l (i + 1) = l[i].f0 := by
  unfold preT
  rw [if_neg (by omega), w64p (i + 1) (by omega) (by omega), show i + 1 - 1 = i by omega, nth_get _ _ _ h]
def preS (l : List T_api_Span) (i : Nat) : Int := if i = 0 then -1 else (nth T_api_Span.z l (w64 ((i : Int) - 1))).f0
theorem preS_succ (l : List T_api_Span) (i : Nat) (h : i < l.length) (hl : l.length < 4611686018427387904) : preS l (i + 1) = l[i].f0 := by
  unfold preS
  rw [if_neg (by omega), w64p (i + 1) (by omega) (by omega), show i + 1 - 1 = i by omega, nth_get _ _ _ h]
def preI (l : List Int) (i : Nat) : Int := if i = 0 then 0 else nth 0 l (w64 ((i : Int) - 1))
theorem preI_succ (l : List Int) (i : Nat) (h : i < l.length) (hl : l.length < 4611686018427387904) : preI l (i + 1) = l[i] := by
  unfold preI
  rw [if_neg (by omega), w64p (i + 1) (by omega) (by omega), show i + 1 - 1 = i by omega, nth_get _ _ _ h]
/-! rows of numbers alike -/
theorem drop_eq {α : Type} (a b : List α) (i : Nat) (ha : i < a.length) (hb : i < b.length) : (a.drop i = b.drop i) ↔ (a[i] = b[i] ∧ a.drop (i + 1) = b.drop (i + 1)) := by
  rw [List.drop_eq_getElem_cons ha, List.drop_eq_getElem_cons hb, List.cons.injEq]
theorem equal_l9 (a b : List Int) (hab : a.length = b.length) (hl : a.length < 4611686018427387904) : ∀ (d i : Nat), i + d = a.length → Ev (fun k => slices_Equal__int_int.l9 k a b (i : Int)) (decide (a.drop i = b.drop i)) := by
  intro d
  induction d with
  | zero =>
    intro i hi
    refine .s (fun k => slices_Equal__int_int.l9_s k _ _ _) (.n (by omega) (.cv ?_))
    rw [List.drop_eq_nil_of_le (by omega), List.drop_eq_nil_of_le (by omega)]
    rfl
  | succ d ih =>
    intro i hi
    have h1 : i < a.length := by omega
    have h2 : i < b.length := by omega
    refine .s (fun k => slices_Equal__int_int.l9_s k _ _ _) (.t (by omega) (.t (by omega) (.t (by omega) ?_)))
    rw [nth_get _ _ _ h1, nth_get _ _ _ h2, w64n i (by omega)]
    refine .i (fun h => (ih (i + 1) (by omega)).v ?_) (fun h => .cv ?_)
    · simp only [drop_eq a b i h1 h2, h, true_and]
    · simp only [drop_eq a b i h1 h2, h, false_and, decide_false]
theorem equal (a b : List Int) (hl : a.length < 4611686018427387904) : Ev (fun k => slices_Equal__int_int.f k a b) (decide (a = b)) := by
  unfold slices_Equal__int_int.f
  refine .i (fun h => equal_l9 a b (by omega) hl a.length 0 (by omega)) (fun h => .cv ?_)
  exact (decide_eq_false (fun e => h (by rw [e]))).symm
theorem ints_l9 (a b : List Int) (hab : a.length = b.length) (hl : a.length < 4611686018427387904) : ∀ (d i : Nat), i + d = a.length → Ev (fun k => windroseref02_Ints.l9 k a b (i : Int)) (decide (a.drop i = b.drop i)) := by
  intro d
  induction d with
  | zero =>
    intro i hi
    refine .s (fun k => windroseref02_Ints.l9_s k _ _ _) (.n (by omega) (.cv ?_))
    rw [List.drop_eq_nil_of_le (by omega), List.drop_eq_nil_of_le (by omega)]
    rfl
  | succ d ih =>
    intro i hi
    have h1 : i < a.length := by omega
    have h2 : i < b.length := by omega
    refine .s (fun k => windroseref02_Ints.l9_s k _ _ _) (.t (by omega) (.t (by omega) (.t (by omega) ?_)))
    rw [nth_get _ _ _ h1, nth_get _ _ _ h2, w64n i (by omega)]
    refine .i (fun h => (ih (i + 1) (by omega)).v ?_) (fun h => .cv ?_)
    · simp only [drop_eq a b i h1 h2, h, true_and]
    · simp only [drop_eq a b i h1 h2, h, false_and, decide_false]
theorem ints (a b : List Int) (hl : a.length < 4611686018427387904) : Ev (fun k => windroseref02_Ints.f k a b) (decide (a = b)) := by
  unfold windroseref02_Ints.f
  refine .i (fun h => ints_l9 a b (by omega) hl a.length 0 (by omega)) (fun h => .cv ?_)
  exact (decide_eq_false (fun e => h (by rw [e]))).symm
/-! the past, as the program looks at it -/
theorem seen_l5 (l : List T_api_Span) (s : T_api_Span) (hl : l.length < 4611686018427387904) (hs : ∀ x ∈ l, x.f1.length < 4611686018427387904) : ∀ (d i : Nat), i + d = l.length → ∃ x, Ev (fun k => slices_IndexFunc__api_Span_api_Span_of_maps_past_1.l5 k l s (i : Int)) x ∧ (0 ≤ x ↔ ∃ y ∈ l.drop i, y.f1 = s.f1) := by
  intro d
  induction d with
  | zero =>
    intro i hi
    refine ⟨-1, .s (fun k => slices_IndexFunc__api_Span_api_Span_of_maps_past_1.l5_s k _ _ _) (.n (by omega) (.c _)), ?_⟩
    rw [List.drop_eq_nil_of_le (by omega)]
    simp
  | succ d ih =>
    intro i hi
    have h1 : i < l.length := by omega
    obtain ⟨x, hx, hm⟩ := ih (i + 1) (by omega)
    have hq : Ev (fun k => maps_past_1.f k l[i] s) (decide (l[i].f1 = s.f1)) := by
      unfold maps_past_1.f
      exact .b (equal _ _ (hs _ (List.getElem_mem h1))) (.c _)
    by_cases h : l[i].f1 = s.f1
    · refine ⟨i, .s (fun k => slices_IndexFunc__api_Span_api_Span_of_maps_past_1.l5_s k _ _ _) (.t (by omega) (.t (by omega) ?_)), ?_⟩
      · rw [nth_get _ _ _ h1]
        exact .b hq (.t (decide_eq_true h) (.c _))
      · rw [List.drop_eq_getElem_cons h1]
        exact ⟨fun _ => ⟨_, List.mem_cons_self, h⟩, fun _ => by omega⟩
    · refine ⟨x, .s (fun k => slices_IndexFunc__api_Span_api_Span_of_maps_past_1.l5_s k _ _ _) (.t (by omega) (.t (by omega) ?_)), ?_⟩
      · rw [nth_get _ _ _ h1, w64n i (by omega)]
        exact .b hq (.n (by simpa using h) hx)
      · rw [List.drop_eq_getElem_cons h1, hm]
        exact ⟨fun ⟨y, m, e⟩ => ⟨y, List.mem_cons.2 (.inr m), e⟩, fun ⟨y, m, e⟩ => ⟨y, (List.mem_cons.1 m).resolve_left (fun q => h (q ▸ e)), e⟩⟩
theorem seen (l : List T_api_Span) (s : T_api_Span) (hl : l.length < 4611686018427387904) (hs : ∀ x ∈ l, x.f1.length < 4611686018427387904) : Ev (fun k => slices_ContainsFunc__api_Span_api_Span_of_maps_past_1.f k l s) (decide (∃ y ∈ l, y.f1 = s.f1)) := by
  obtain ⟨x, hx, hm⟩ := seen_l5 l s hl hs l.length 0 (by omega)
  unfold slices_ContainsFunc__api_Span_api_Span_of_maps_past_1.f slices_IndexFunc__api_Span_api_Span_of_maps_past_1.f
  refine .b hx (.cv ?_)
  rw [decide_eq_decide]
  exact hm
theorem past_l61 (m : T_api_Map) (t : T_api_Trail) (i : Nat) (hl : t.f1.length < 4611686018427387904) (hs : ∀ s ∈ t.f1, s.f1.length < 4611686018427387904) (hi : i < t.f1.length) (w : Bool)
    (hc : riseI 0 t.f1[i].f1 = true → (∃ y ∈ t.f1.take i, y.f1 = t.f1[i].f1) → w = false)
    (hn : riseI 0 t.f1[i].f1 = true → (¬ ∃ y ∈ t.f1.take i, y.f1 = t.f1[i].f1) → Ev (fun k => maps_past.l9 k m t ((i + 1 : Nat) : Int)) w)
    (hr : ¬ riseI 0 t.f1[i].f1 = true → w = false) : ∀ (d j : Nat), j + d = t.f1[i].f1.length → (riseI 0 t.f1[i].f1 = riseI (preI t.f1[i].f1 j) (t.f1[i].f1.drop j)) → Ev (fun k => maps_past.l61 k m t (i : Int) (j : Int)) w := by
  have hz := nth_get T_api_Span.z _ _ hi
  have hsl := hs _ (List.getElem_mem hi)
  intro d
  induction d with
  | zero =>
    intro j hj he
    refine .s (fun k => maps_past.l61_s k _ _ _ _) ?_
    rw [hz]
    rw [List.drop_eq_nil_of_le (by omega)] at he
    refine .n (by omega) (.t (by omega) ?_)
    rw [show cutl t.f1 0 (i : Int) = t.f1.take i by simp [cutl], w64n i (by omega)]
    refine .b (seen _ _ (by simp; omega) (fun x m => hs x (List.mem_of_mem_take m))) ?_
    refine .i (fun h => .cv (hc he ?_).symm) (fun h => hn he ?_)
    · simpa using h
    · simpa using h
  | succ d ih =>
    intro j hj he
    have h1 : j < t.f1[i].f1.length := by omega
    refine .s (fun k => maps_past.l61_s k _ _ _ _) ?_
    rw [hz]
    refine .t (by omega) (.t (by omega) ?_)
    rw [List.drop_eq_getElem_cons h1] at he
    simp only [riseI] at he
    have hb : ∀ b : Bool, (b = true ↔ ¬ ((1 ≤ t.f1[i].f1[j] ∧ t.f1[i].f1[j] ≤ 999) ∧ preI t.f1[i].f1 j < t.f1[i].f1[j])) → Ev (fun k => maps_past.j86 k m t (i : Int) (j : Int) b) w := by
      intro b hb
      refine .s (fun k => maps_past.j86_s k _ _ _ _ _) ?_
      by_cases h : (1 ≤ t.f1[i].f1[j] ∧ t.f1[i].f1[j] ≤ 999) ∧ preI t.f1[i].f1 j < t.f1[i].f1[j]
      · refine .n (fun e => (hb.1 e) h) ?_
        rw [w64n j (by omega)]
        refine ih (j + 1) (by omega) ?_
        rw [he, preI_succ _ j h1 hsl, decide_eq_true h, Bool.true_and]
      · refine .t (hb.2 h) (.cv (hr ?_).symm)
        rw [he, decide_eq_false h]
        simp
    clear he ih hr hn hc
    rw [nth_get _ _ _ h1]
    have hp0 : j = 0 → preI t.f1[i].f1 j = 0 := fun e => if_pos e
    have hp1 : j ≠ 0 → nth 0 t.f1[i].f1 (w64 ((j : Int) - 1)) = preI t.f1[i].f1 j := fun e => (if_neg e).symm
    have hw : j ≠ 0 → w64 ((j : Int) - 1) = ((j - 1 : Nat) : Int) := fun e => w64p j (by omega) (by omega)
    generalize preI t.f1[i].f1 j = p at *
    generalize nth 0 t.f1[i].f1 (w64 ((j : Int) - 1)) = q at *
    generalize t.f1[i].f1[j] = n at *
    repeat' (first | refine Ev.b0 (min' _ _ _) ?_ | refine Ev.i (fun _ => ?_) (fun _ => ?_))
    all_goals simp only [decide_eq_true_eq] at *
    all_goals first
      | exact hb _ (by simp only [decide_eq_true_eq, Bool.false_eq_true, true_iff, false_iff]; omega)
      | (exfalso; omega)
theorem past_l9 (m : T_api_Map) (t : T_api_Trail) (hl : t.f1.length < 4611686018427387904) (hs : ∀ s ∈ t.f1, s.f1.length < 4611686018427387904) (ht : 0 ≤ t.f0 ∧ t.f0 ≤ 2147483647) : ∀ (d i : Nat), i + d = t.f1.length → Ev (fun k => maps_past.l9 k m t (i : Int)) (past m t.f0 (preS t.f1 i) (t.f1.take i) (t.f1.drop i)) := by
  intro d
  induction d with
  | zero =>
    intro i hi
    refine .s (fun k => maps_past.l9_s k _ _ _) (.n (by omega) (.cv ?_))
    rw [List.drop_eq_nil_of_le (by omega)]
    rfl
  | succ d ih =>
    intro i hi
    have h1 : i < t.f1.length := by omega
    refine .s (fun k => maps_past.l9_s k _ _ _) (.t (by omega) (.t (by omega) ?_))
    have ih := ih (i + 1) (by omega)
    rw [preS_succ _ i h1 hl, List.take_add_one, List.getElem?_eq_getElem h1, Option.toList_some] at ih
    rw [nth_get _ _ _ h1, List.drop_eq_getElem_cons h1]
    simp only [past]
    have hj : ∀ b : Bool, (b = true ↔ ¬ ((0 ≤ t.f1[i].f0 ∧ t.f1[i].f0 < t.f0) ∧ preS t.f1 i < t.f1[i].f0 ∧ m.f2 ≤ (t.f1[i].f1.length : Int) ∧ (t.f1[i].f1.length : Int) ≤ m.f1)) → Ev (fun k => maps_past.j51 k m t (i : Int) b) (decide ((0 ≤ t.f1[i].f0 ∧ t.f1[i].f0 < t.f0) ∧ preS t.f1 i < t.f1[i].f0 ∧ m.f2 ≤ (t.f1[i].f1.length : Int) ∧ (t.f1[i].f1.length : Int) ≤ m.f1) && riseI 0 t.f1[i].f1 && !decide (∃ x ∈ t.f1.take i, x.f1 = t.f1[i].f1) && past m t.f0 t.f1[i].f0 (t.f1.take i ++ [t.f1[i]]) (t.f1.drop (i + 1))) := by
      intro b hb
      refine .s (fun k => maps_past.j51_s k _ _ _ _) ?_
      by_cases h : (0 ≤ t.f1[i].f0 ∧ t.f1[i].f0 < t.f0) ∧ preS t.f1 i < t.f1[i].f0 ∧ m.f2 ≤ (t.f1[i].f1.length : Int) ∧ (t.f1[i].f1.length : Int) ≤ m.f1
      · refine .n (fun e => (hb.1 e) h) ?_
        rw [decide_eq_true h, Bool.true_and]
        refine past_l61 m t i hl hs h1 _ ?_ ?_ ?_ t.f1[i].f1.length 0 (by omega) (by rw [List.drop_zero]; rfl)
        · intro h2 h3
          rw [h2, decide_eq_true h3]
          simp
        · intro h2 h3
          refine ih.v ?_
          rw [h2, decide_eq_false h3]
          simp
        · intro h2
          simp [h2]
      · refine .t (hb.2 h) (.cv ?_)
        rw [decide_eq_false h]
        simp
    clear ih
    have hp0 : i = 0 → preS t.f1 i = -1 := fun e => if_pos e
    have hp1 : i ≠ 0 → (nth T_api_Span.z t.f1 (w64 ((i : Int) - 1))).f0 = preS t.f1 i := fun e => (if_neg e).symm
    have hw : i ≠ 0 → w64 ((i : Int) - 1) = ((i - 1 : Nat) : Int) := fun e => w64p i (by omega) (by omega)
    have hw2 : w64 (t.f0 - 1) = t.f0 - 1 := w64_of (by omega) (by omega)
    rw [hw2]
    generalize hv : (decide ((0 ≤ t.f1[i].f0 ∧ t.f1[i].f0 < t.f0) ∧ preS t.f1 i < t.f1[i].f0 ∧ m.f2 ≤ (t.f1[i].f1.length : Int) ∧ (t.f1[i].f1.length : Int) ≤ m.f1) && riseI 0 t.f1[i].f1 && !decide (∃ x ∈ t.f1.take i, x.f1 = t.f1[i].f1) && past m t.f0 t.f1[i].f0 (t.f1.take i ++ [t.f1[i]]) (t.f1.drop (i + 1))) = v at hj ⊢
    clear hv
    generalize preS t.f1 i = p at *
    generalize (nth T_api_Span.z t.f1 (w64 ((i : Int) - 1))).f0 = q at *
    generalize t.f1[i] = n at *
    repeat' (first | refine Ev.b0 (min' _ _ _) ?_ | refine Ev.i (fun _ => ?_) (fun _ => ?_))
    all_goals simp only [decide_eq_true_eq] at *
    all_goals first
      | exact hj _ (by simp only [decide_eq_true_eq, Bool.false_eq_true, true_iff, false_iff, Bool.not_eq_true', decide_eq_false_iff_not]; omega)
      | (exfalso; omega)
theorem pastf (m : T_api_Map) (t : T_api_Trail) (hl : t.f1.length < 4611686018427387904) (hs : ∀ s ∈ t.f1, s.f1.length < 4611686018427387904) (ht : 0 ≤ t.f0 ∧ t.f0 ≤ 2147483647) : Ev (fun k => maps_past.f k m t) (past m t.f0 (-1) [] t.f1) := by
  unfold maps_past.f
  exact past_l9 m t hl hs ht t.f1.length 0 (by omega)
theorem trails_l11 (m : T_api_Map) (hm : Small m) (h0 : m.f0 ≤ 2147483647) : ∀ (d i : Nat), i + d = m.f6.length → Ev (fun k => maps_trails.l11 k m (i : Int)) (eno (trails m (m.f6.drop i))) := by
  have h6 := hm.h6
  intro d
  induction d with
  | zero =>
    intro i hi
    refine .s (fun k => maps_trails.l11_s k _ _) (.n (by omega) (.cv ?_))
    rw [List.drop_eq_nil_of_le (by omega)]
    rfl
  | succ d ih =>
    intro i hi
    have h1 : i < m.f6.length := by omega
    refine .s (fun k => maps_trails.l11_s k _ _) (.t (by omega) (.t (by omega) ?_))
    have ih := ih (i + 1) (by omega)
    rw [nth_get _ _ _ h1, List.drop_eq_getElem_cons h1, trails]
    refine .b0 (min' _ _ _) (.i (fun h => ?_) (fun h => ?_))
    · have h := of_decide_eq_true h
      refine .b (pastf m m.f6[i] (hm.hp _ (List.getElem_mem h1)) (hm.hs _ (List.getElem_mem h1)) (by omega)) (.s (fun k => maps_trails.j40_s k _ _ _) ?_)
      rw [decide_eq_true h, Bool.true_and, w64n i (by omega)]
      cases past m m.f6[i].f0 (-1) [] m.f6[i].f1 with
      | true => exact .n (by decide) ih
      | false => exact .t rfl (.c _)
    · refine .s (fun k => maps_trails.j40_s k _ _ _) (.t rfl (.cv ?_))
      have h : ¬ (0 ≤ m.f6[i].f0 ∧ m.f6[i].f0 ≤ m.f0) := fun e => h (decide_eq_true e)
      rw [decide_eq_false h]
      rfl
theorem trailsf (m : T_api_Map) (hm : Small m) (h0 : m.f0 ≤ 2147483647) : Ev (fun k => maps_trails.f k m) (eno (decide ((m.f6.length : Int) = m.f3 ∧ trails m m.f6 = true))) := by
  unfold maps_trails.f
  refine .i (fun h => (trails_l11 m hm h0 m.f6.length 0 (by omega)).v ?_) (fun h => .cv ?_)
  · rw [List.drop_zero]
    congr 1
    simp [h]
  · rw [decide_eq_false (fun e => h e.1)]
    rfl
theorem check_l36 (m : T_api_Map) (hm : Small m) (hf : Flat m) : ∀ (d i : Nat), i + d = m.f5.length → Ev (fun k => maps_Check.l36 k m (i : Int)) (eno (temps m (preT m.f5 i) (m.f5.drop i) && decide ((m.f6.length : Int) = m.f3 ∧ trails m m.f6 = true))) := by
  have h5 := hm.h5
  have hg := hf.2.2.2.1
  intro d
  induction d with
  | zero =>
    intro i hi
    refine .s (fun k => maps_Check.l36_s k _ _) (.n (by omega) (.b (trailsf m hm hf.1.2) (.cv ?_)))
    rw [List.drop_eq_nil_of_le (by omega)]
    rfl
  | succ d ih =>
    intro i hi
    have h1 : i < m.f5.length := by omega
    refine .s (fun k => maps_Check.l36_s k _ _) (.t (by omega) (.t (by omega) ?_))
    have ih := ih (i + 1) (by omega)
    rw [preT_succ _ i h1 h5] at ih
    rw [nth_get _ _ _ h1, List.drop_eq_getElem_cons h1, temps]
    have hj : ∀ b : Bool, (b = !(decide ((0 ≤ m.f5[i].f0 ∧ m.f5[i].f0 < m.f3) ∧ preT m.f5 i < m.f5[i].f0 ∧ 1 ≤ (m.f5[i].f1.length : Int) ∧ (m.f5[i].f1.length : Int) ≤ m.f1) && Topo.apartR m.f4 [] m.f5[i].f1)) → Ev (fun k => maps_Check.j85 k m (i : Int) b) (eno (((decide ((0 ≤ m.f5[i].f0 ∧ m.f5[i].f0 < m.f3) ∧ preT m.f5 i < m.f5[i].f0 ∧ 1 ≤ (m.f5[i].f1.length : Int) ∧ (m.f5[i].f1.length : Int) ≤ m.f1) && Topo.apartR m.f4 [] m.f5[i].f1) && temps m m.f5[i].f0 (m.f5.drop (i + 1))) && decide ((m.f6.length : Int) = m.f3 ∧ trails m m.f6 = true))) := by
      intro b hb
      refine .s (fun k => maps_Check.j85_s k _ _ _) ?_
      rw [w64n i (by omega)]
      generalize (decide ((0 ≤ m.f5[i].f0 ∧ m.f5[i].f0 < m.f3) ∧ preT m.f5 i < m.f5[i].f0 ∧ 1 ≤ (m.f5[i].f1.length : Int) ∧ (m.f5[i].f1.length : Int) ≤ m.f1) && Topo.apartR m.f4 [] m.f5[i].f1) = c at hb ⊢
      subst hb
      cases c with
      | true => exact .n (by decide) ih
      | false => exact .t rfl (.c _)
    clear ih
    have hj1 : ¬ ((0 ≤ m.f5[i].f0 ∧ m.f5[i].f0 < m.f3) ∧ preT m.f5 i < m.f5[i].f0 ∧ 1 ≤ (m.f5[i].f1.length : Int) ∧ (m.f5[i].f1.length : Int) ≤ m.f1) → Ev (fun k => maps_Check.j85 k m (i : Int) true) _ := fun h => hj true (by rw [decide_eq_false h]; rfl)
    have hj2 : ((0 ≤ m.f5[i].f0 ∧ m.f5[i].f0 < m.f3) ∧ preT m.f5 i < m.f5[i].f0 ∧ 1 ≤ (m.f5[i].f1.length : Int) ∧ (m.f5[i].f1.length : Int) ≤ m.f1) → Ev (fun k => (topo_Apart.f k m.f4 m.f5[i].f1).bind fun t75 => maps_Check.j85 k m (i : Int) (!t75)) _ := fun h => .b (Topo.apart m.f4 m.f5[i].f1 hm.h4 (by have := hf.2.1; omega)) (hj _ (by rw [decide_eq_true h, decide_eq_true hf.2.2.2.2]))
    have hp0 : i = 0 → preT m.f5 i = -1 := fun e => if_pos e
    have hp1 : i ≠ 0 → (nth T_api_Temp.z m.f5 (w64 ((i : Int) - 1))).f0 = preT m.f5 i := fun e => (if_neg e).symm
    have hw : i ≠ 0 → w64 ((i : Int) - 1) = ((i - 1 : Nat) : Int) := fun e => w64p i (by omega) (by omega)
    have hw2 : w64 (m.f3 - 1) = m.f3 - 1 := w64_of (by omega) (by omega)
    rw [hw2]
    clear hj
    generalize (eno (((decide ((0 ≤ m.f5[i].f0 ∧ m.f5[i].f0 < m.f3) ∧ preT m.f5 i < m.f5[i].f0 ∧ 1 ≤ (m.f5[i].f1.length : Int) ∧ (m.f5[i].f1.length : Int) ≤ m.f1) && Topo.apartR m.f4 [] m.f5[i].f1) && temps m m.f5[i].f0 (m.f5.drop (i + 1))) && decide ((m.f6.length : Int) = m.f3 ∧ trails m m.f6 = true))) = v at hj1 hj2 ⊢
    generalize preT m.f5 i = p at *
    generalize (nth T_api_Temp.z m.f5 (w64 ((i : Int) - 1))).f0 = q at *
    generalize m.f5[i] = n at *
    repeat' (first | refine Ev.b0 (min' _ _ _) ?_ | refine Ev.i (fun _ => ?_) (fun _ => ?_))
    all_goals simp only [decide_eq_true_eq] at *
    all_goals first
      | exact hj1 (by omega)
      | exact hj2 (by omega)
      | (exfalso; omega)
theorem check (m : T_api_Map) (hm : Small m) : Ev (fun k => maps_Check.f k m) (eno (decide (May m))) := by
  have hj1 : ¬ Flat m → Ev (fun k => maps_Check.j26 k m true) (eno (decide (May m))) := fun h => .s (fun k => maps_Check.j26_s k _ _) (.t rfl (.cv (by rw [decide_eq_false (fun e : May m => h e.1)]; rfl)))
  have hj2 : Flat m → Ev (fun k => maps_Check.j26 k m false) (eno (decide (May m))) := fun h => .s (fun k => maps_Check.j26_s k _ _) (.n (by decide) ((check_l36 m hm h m.f5.length 0 (by omega)).v (by
    rw [List.drop_zero]
    congr 1
    rw [Bool.eq_iff_iff, Bool.and_eq_true, decide_eq_true_eq, decide_eq_true_eq]
    exact ⟨fun e => ⟨h, e⟩, fun e => e.2⟩)))
  unfold maps_Check.f
  generalize eno (decide (May m)) = v at *
  unfold Flat at hj1 hj2
  refine .b0 (min' _ _ _) (.i (fun h => .b0 (min' _ _ _) (.i (fun h => .b0 (min' _ _ _) (.i (fun h => .b0 (min' _ _ _) (.i (fun h => .b (Topo.check m.f4 hm.h4) ?_) (fun h => ?_))) (fun h => ?_))) (fun h => ?_))) (fun h => ?_))
  all_goals simp only [decide_eq_true_eq] at *
  · by_cases hN : Topo.Nodes m.f4
    · rw [decide_eq_true hN]
      refine hj2 ⟨?_, ?_, ?_, ?_, hN⟩ <;> omega
    · rw [decide_eq_false hN]
      exact hj1 (fun e => hN e.2.2.2.2)
  all_goals refine hj1 (fun e => ?_)
  all_goals have := e.1
  all_goals have := e.2.1
  all_goals have := e.2.2.1
  all_goals have := e.2.2.2.1
  all_goals omega
/-! the same, as the document tells it -/
/-- A span's past so far, as the document looks at it: all ahead of it. -/
def ahead (s : T_api_Span) (seen : List T_api_Span) : Bool := decide (∀ x ∈ seen, x.f0 < s.f0 ∧ x.f1 ≠ s.f1)
def pastR (m : T_api_Map) (since : Int) : List T_api_Span → List T_api_Span → Bool
  | _, [] => true
  | seen, s :: l => (decide ((0 ≤ s.f0 ∧ s.f0 < since) ∧ m.f2 ≤ (s.f1.length : Int) ∧ (s.f1.length : Int) ≤ m.f1) && riseI 0 s.f1 && ahead s seen) && pastR m since (seen ++ [s]) l
theorem past_same (m : T_api_Map) (since : Int) : ∀ (l seen : List T_api_Span) (p : Int), (∀ x ∈ seen, x.f0 ≤ p) → (p = -1 ∨ ∃ x ∈ seen, x.f0 = p) → past m since p seen l = pastR m since seen l
  | [], _, _, _, _ => rfl
  | s :: l, seen, p, h1, h2 => by
    rw [past, pastR]
    by_cases h : (0 ≤ s.f0 ∧ s.f0 < since) ∧ p < s.f0 ∧ m.f2 ≤ (s.f1.length : Int) ∧ (s.f1.length : Int) ≤ m.f1
    · have h' : (0 ≤ s.f0 ∧ s.f0 < since) ∧ m.f2 ≤ (s.f1.length : Int) ∧ (s.f1.length : Int) ≤ m.f1 := ⟨h.1, h.2.2⟩
      have ha : (!decide (∃ x ∈ seen, x.f1 = s.f1)) = ahead s seen := by
        unfold ahead
        rw [Bool.eq_iff_iff, Bool.not_eq_true', decide_eq_false_iff_not, decide_eq_true_eq]
        exact ⟨fun e x hx => ⟨Int.lt_of_le_of_lt (h1 x hx) h.2.1, fun q => e ⟨x, hx, q⟩⟩, fun e ⟨x, hx, q⟩ => (e x hx).2 q⟩
      rw [decide_eq_true h, decide_eq_true h', ha, past_same m since l (seen ++ [s]) s.f0 ?_ (.inr ⟨s, by simp, rfl⟩)]
      · intro x hx
        rcases List.mem_append.1 hx with hx | hx
        · have := h1 x hx
          omega
        · simp only [List.mem_cons, List.not_mem_nil, or_false] at hx
          rw [hx]
          exact Int.le_refl _
    · rw [decide_eq_false h]
      simp only [Bool.false_and]
      by_cases h3 : (0 ≤ s.f0 ∧ s.f0 < since) ∧ m.f2 ≤ (s.f1.length : Int) ∧ (s.f1.length : Int) ≤ m.f1
      · have : ahead s seen = false := by
          unfold ahead
          rw [decide_eq_false_iff_not]
          intro e
          rcases h2 with rfl | ⟨x, hx, rfl⟩
          · exact h ⟨h3.1, by omega, h3.2⟩
          · exact h ⟨h3.1, (e x hx).1, h3.2⟩
        rw [this]
        simp
      · rw [decide_eq_false h3]
        simp
def trailsR (m : T_api_Map) : List T_api_Trail → Bool
  | [] => true
  | t :: l => (decide (0 ≤ t.f0 ∧ t.f0 ≤ m.f0) && pastR m t.f0 [] t.f1) && trailsR m l
theorem trails_same (m : T_api_Map) : ∀ l : List T_api_Trail, trails m l = trailsR m l
  | [] => rfl
  | t :: l => by
    rw [trails, trailsR, trails_same m l, past_same m t.f0 t.f1 [] (-1) (fun _ h => nomatch h) (.inl rfl)]
/-- What is to come behind a span of a trail. -/
def restR (m : T_api_Map) (i x : Nat) (t : T_api_Trail) : Bool := pastR m t.f0 (t.f1.take x) (t.f1.drop x) && trailsR m (m.f6.drop (i + 1)) && decide ((m.f6.length : Int) = m.f3)
theorem pasts_l113 (m : T_api_Map) (hm : Small m) (i x : Nat) (hi : i < m.f6.length) (hx : x < m.f6[i].f1.length) (w : Bool)
    (hy : ahead m.f6[i].f1[x] (m.f6[i].f1.take x) = false → w = false)
    (hn : ahead m.f6[i].f1[x] (m.f6[i].f1.take x) = true → Ev (fun k => windroseref08_pasts.l40 k m (i : Int) ((x + 1 : Nat) : Int)) w) :
    ∀ (d j : Nat), j + d = x → (∀ y ∈ m.f6[i].f1.take j, y.f0 < m.f6[i].f1[x].f0 ∧ y.f1 ≠ m.f6[i].f1[x].f1) → Ev (fun k => windroseref08_pasts.l113 k m (i : Int) (x : Int) (j : Int)) w := by
  have hz := nth_get T_api_Trail.z _ _ hi
  have hz2 := nth_get T_api_Span.z _ _ hx
  have hp := hm.hp _ (List.getElem_mem hi)
  have hs := hm.hs _ (List.getElem_mem hi)
  intro d
  induction d with
  | zero =>
    intro j hj h
    refine .s (fun k => windroseref08_pasts.l113_s k _ _ _ _) (.n (by omega) ?_)
    obtain rfl : j = x := by omega
    rw [w64n j (by omega)]
    exact hn (decide_eq_true h)
  | succ d ih =>
    intro j hj h
    have h1 : j < m.f6[i].f1.length := by omega
    refine .s (fun k => windroseref08_pasts.l113_s k _ _ _ _) ?_
    rw [hz, hz2, nth_get _ _ _ h1]
    refine .t (by omega) (.t (by omega) ?_)
    have hin : m.f6[i].f1[j] ∈ m.f6[i].f1.take x := List.mem_take_iff_getElem.2 ⟨j, by omega, rfl⟩
    refine .i (fun h2 => ?_) (fun h2 => .b (ints _ _ (hs _ (List.getElem_mem h1))) ?_)
    · refine .s (fun k => windroseref08_pasts.j137_s k _ _ _ _ _) (.t rfl (.cv (hy ?_).symm))
      exact decide_eq_false (fun e => by have := (e _ hin).1; omega)
    · refine .s (fun k => windroseref08_pasts.j137_s k _ _ _ _ _) (.i (fun h3 => .cv (hy ?_).symm) (fun h3 => ?_))
      · exact decide_eq_false (fun e => (e _ hin).2 (of_decide_eq_true h3))
      · rw [w64n j (by omega)]
        refine ih (j + 1) (by omega) ?_
        intro y hy
        rw [List.take_add_one, List.getElem?_eq_getElem h1, Option.toList_some] at hy
        rcases List.mem_append.1 hy with hy | hy
        · exact h y hy
        · simp only [List.mem_cons, List.not_mem_nil, or_false] at hy
          rw [hy]
          exact ⟨by omega, fun e => h3 (decide_eq_true e)⟩
theorem pasts_l76 (m : T_api_Map) (hm : Small m) (i x : Nat) (hi : i < m.f6.length) (hx : x < m.f6[i].f1.length) (w : Bool)
    (hc : riseI 0 m.f6[i].f1[x].f1 = true → Ev (fun k => windroseref08_pasts.l113 k m (i : Int) (x : Int) 0) w)
    (hr : riseI 0 m.f6[i].f1[x].f1 = false → w = false) : ∀ (d j : Nat), j + d = m.f6[i].f1[x].f1.length → (riseI 0 m.f6[i].f1[x].f1 = riseI (preI m.f6[i].f1[x].f1 j) (m.f6[i].f1[x].f1.drop j)) → Ev (fun k => windroseref08_pasts.l76 k m (i : Int) (x : Int) (j : Int)) w := by
  have hz := nth_get T_api_Trail.z _ _ hi
  have hz2 := nth_get T_api_Span.z _ _ hx
  have hsl := hm.hs _ (List.getElem_mem hi) _ (List.getElem_mem hx)
  generalize hs : m.f6[i].f1[x] = s at *
  intro d
  induction d with
  | zero =>
    intro j hj he
    refine .s (fun k => windroseref08_pasts.l76_s k _ _ _ _) ?_
    rw [hz, hz2]
    rw [List.drop_eq_nil_of_le (by omega)] at he
    exact .n (by omega) (hc he)
  | succ d ih =>
    intro j hj he
    have h1 : j < s.f1.length := by omega
    refine .s (fun k => windroseref08_pasts.l76_s k _ _ _ _) ?_
    rw [hz, hz2]
    refine .t (by omega) (.t (by omega) ?_)
    rw [List.drop_eq_getElem_cons h1] at he
    simp only [riseI] at he
    have hb : ∀ b : Bool, (b = true ↔ ¬ ((1 ≤ s.f1[j] ∧ s.f1[j] ≤ 999) ∧ preI s.f1 j < s.f1[j])) → Ev (fun k => windroseref08_pasts.j104 k m (i : Int) (x : Int) (j : Int) b) w := by
      intro b hb
      refine .s (fun k => windroseref08_pasts.j104_s k _ _ _ _ _) ?_
      by_cases h : (1 ≤ s.f1[j] ∧ s.f1[j] ≤ 999) ∧ preI s.f1 j < s.f1[j]
      · refine .n (fun e => (hb.1 e) h) ?_
        rw [w64n j (by omega)]
        refine ih (j + 1) (by omega) ?_
        rw [he, preI_succ _ j h1 hsl, decide_eq_true h, Bool.true_and]
      · refine .t (hb.2 h) (.cv (hr ?_).symm)
        rw [he, decide_eq_false h]
        simp
    clear he ih hr hc
    rw [nth_get _ _ _ h1]
    have hp0 : j = 0 → preI s.f1 j = 0 := fun e => if_pos e
    have hp1 : j ≠ 0 → nth 0 s.f1 (w64 ((j : Int) - 1)) = preI s.f1 j := fun e => (if_neg e).symm
    have hw : j ≠ 0 → w64 ((j : Int) - 1) = ((j - 1 : Nat) : Int) := fun e => w64p j (by omega) (by omega)
    generalize preI s.f1 j = p at *
    generalize nth 0 s.f1 (w64 ((j : Int) - 1)) = q at *
    generalize s.f1[j] = n at *
    clear hs hz hz2
    repeat' (first | refine Ev.i (fun _ => ?_) (fun _ => ?_))
    all_goals first
      | exact hb _ (by simp only [decide_eq_true_eq, Bool.false_eq_true, true_iff, false_iff]; omega)
      | (exfalso; omega)
theorem pasts_l40 (m : T_api_Map) (hm : Small m) (i : Nat) (hi : i < m.f6.length) (w : Bool → Bool)
    (hn : Ev (fun k => windroseref08_pasts.l7 k m ((i + 1 : Nat) : Int)) (w true)) (hw : w false = false) :
    ∀ (d j : Nat), j + d = m.f6[i].f1.length → Ev (fun k => windroseref08_pasts.l40 k m (i : Int) (j : Int)) (w (pastR m m.f6[i].f0 (m.f6[i].f1.take j) (m.f6[i].f1.drop j))) := by
  have hz := nth_get T_api_Trail.z _ _ hi
  have hp := hm.hp _ (List.getElem_mem hi)
  have h6 := hm.h6
  intro d
  induction d with
  | zero =>
    intro j hj
    refine .s (fun k => windroseref08_pasts.l40_s k _ _ _) ?_
    rw [hz]
    refine .n (by omega) ?_
    rw [List.drop_eq_nil_of_le (by omega), w64n i (by omega)]
    exact hn
  | succ d ih =>
    intro j hj
    have h1 : j < m.f6[i].f1.length := by omega
    refine .s (fun k => windroseref08_pasts.l40_s k _ _ _) ?_
    rw [hz]
    refine .t (by omega) (.t (by omega) ?_)
    have ih := ih (j + 1) (by omega)
    rw [List.take_add_one, List.getElem?_eq_getElem h1, Option.toList_some] at ih
    rw [nth_get _ _ _ h1, List.drop_eq_getElem_cons h1]
    simp only [pastR]
    have hb : ∀ b : Bool, (b = true ↔ ¬ ((0 ≤ m.f6[i].f1[j].f0 ∧ m.f6[i].f1[j].f0 < m.f6[i].f0) ∧ m.f2 ≤ (m.f6[i].f1[j].f1.length : Int) ∧ (m.f6[i].f1[j].f1.length : Int) ≤ m.f1)) → Ev (fun k => windroseref08_pasts.j66 k m (i : Int) (j : Int) b) (w ((decide ((0 ≤ m.f6[i].f1[j].f0 ∧ m.f6[i].f1[j].f0 < m.f6[i].f0) ∧ m.f2 ≤ (m.f6[i].f1[j].f1.length : Int) ∧ (m.f6[i].f1[j].f1.length : Int) ≤ m.f1) && riseI 0 m.f6[i].f1[j].f1 && ahead m.f6[i].f1[j] (m.f6[i].f1.take j)) && pastR m m.f6[i].f0 (m.f6[i].f1.take j ++ [m.f6[i].f1[j]]) (m.f6[i].f1.drop (j + 1)))) := by
      intro b hb
      refine .s (fun k => windroseref08_pasts.j66_s k _ _ _ _) ?_
      by_cases h : (0 ≤ m.f6[i].f1[j].f0 ∧ m.f6[i].f1[j].f0 < m.f6[i].f0) ∧ m.f2 ≤ (m.f6[i].f1[j].f1.length : Int) ∧ (m.f6[i].f1[j].f1.length : Int) ≤ m.f1
      · refine .n (fun e => (hb.1 e) h) ?_
        rw [decide_eq_true h, Bool.true_and]
        refine pasts_l76 m hm i j hi h1 _ ?_ ?_ m.f6[i].f1[j].f1.length 0 (by omega) (by rw [List.drop_zero]; rfl)
        · intro h2
          refine pasts_l113 m hm i j hi h1 _ ?_ ?_ j 0 (by omega) (fun _ hy => by rw [List.take_zero] at hy; cases hy)
          · intro h3
            rw [h3, Bool.and_false, Bool.false_and]
            exact hw
          · intro h3
            refine ih.v ?_
            rw [h2, h3]
            rfl
        · intro h2
          rw [h2]
          exact hw
      · refine .t (hb.2 h) (.cv ?_)
        rw [decide_eq_false h]
        exact hw.symm
    clear ih hn
    generalize (w ((decide ((0 ≤ m.f6[i].f1[j].f0 ∧ m.f6[i].f1[j].f0 < m.f6[i].f0) ∧ m.f2 ≤ (m.f6[i].f1[j].f1.length : Int) ∧ (m.f6[i].f1[j].f1.length : Int) ≤ m.f1) && riseI 0 m.f6[i].f1[j].f1 && ahead m.f6[i].f1[j] (m.f6[i].f1.take j)) && pastR m m.f6[i].f0 (m.f6[i].f1.take j ++ [m.f6[i].f1[j]]) (m.f6[i].f1.drop (j + 1)))) = v at hb ⊢
    generalize m.f6[i].f1[j] = n at *
    generalize m.f6[i].f0 = q at *
    clear hz
    repeat' (first | refine Ev.i (fun _ => ?_) (fun _ => ?_))
    all_goals first
      | exact hb _ (by simp only [decide_eq_true_eq, Bool.false_eq_true, true_iff, false_iff]; omega)
      | (exfalso; omega)
theorem pasts_l7 (m : T_api_Map) (hm : Small m) : ∀ (d i : Nat), i + d = m.f6.length → Ev (fun k => windroseref08_pasts.l7 k m (i : Int)) (trailsR m (m.f6.drop i) && decide ((m.f6.length : Int) = m.f3)) := by
  have h6 := hm.h6
  intro d
  induction d with
  | zero =>
    intro i hi
    refine .s (fun k => windroseref08_pasts.l7_s k _ _) (.n (by omega) (.cv ?_))
    rw [List.drop_eq_nil_of_le (by omega), trailsR, Bool.true_and]
    rw [Bool.eq_iff_iff, decide_eq_true_eq, beq_iff_eq]
  | succ d ih =>
    intro i hi
    have h1 : i < m.f6.length := by omega
    refine .s (fun k => windroseref08_pasts.l7_s k _ _) (.t (by omega) (.t (by omega) ?_))
    have ih := ih (i + 1) (by omega)
    rw [nth_get _ _ _ h1, List.drop_eq_getElem_cons h1, trailsR]
    have hj : ∀ b : Bool, (b = true ↔ ¬ (0 ≤ m.f6[i].f0 ∧ m.f6[i].f0 ≤ m.f0)) → Ev (fun k => windroseref08_pasts.j31 k m (i : Int) b) (decide (0 ≤ m.f6[i].f0 ∧ m.f6[i].f0 ≤ m.f0) && pastR m m.f6[i].f0 [] m.f6[i].f1 && trailsR m (m.f6.drop (i + 1)) && decide ((m.f6.length : Int) = m.f3)) := by
      intro b hb
      refine .s (fun k => windroseref08_pasts.j31_s k _ _ _) ?_
      by_cases h : 0 ≤ m.f6[i].f0 ∧ m.f6[i].f0 ≤ m.f0
      · refine .n (fun e => (hb.1 e) h) ?_
        rw [decide_eq_true h, Bool.true_and]
        have := pasts_l40 m hm i h1 (fun b => b && trailsR m (m.f6.drop (i + 1)) && decide ((m.f6.length : Int) = m.f3)) ih rfl m.f6[i].f1.length 0 (by omega)
        rw [List.take_zero, List.drop_zero] at this
        exact this
      · refine .t (hb.2 h) (.cv ?_)
        rw [decide_eq_false h]
        simp
    refine .i (fun h => hj _ ?_) (fun h => hj _ ?_)
    · simp only [true_iff]; omega
    · simp only [decide_eq_true_eq]; omega
theorem pasts (m : T_api_Map) (hm : Small m) : Ev (fun k => windroseref08_pasts.f k m) (decide ((m.f6.length : Int) = m.f3 ∧ trails m m.f6 = true)) := by
  unfold windroseref08_pasts.f
  refine (pasts_l7 m hm m.f6.length 0 (by omega)).v ?_
  rw [List.drop_zero, ← trails_same, Bool.eq_iff_iff, Bool.and_eq_true, decide_eq_true_eq, decide_eq_true_eq]
  exact And.comm
theorem may_l28 (m : T_api_Map) (hm : Small m) (hf : Flat m) : ∀ (d i : Nat), i + d = m.f5.length → Ev (fun k => windroseref08_May.l28 k m (i : Int)) (temps m (preT m.f5 i) (m.f5.drop i) && decide ((m.f6.length : Int) = m.f3 ∧ trails m m.f6 = true)) := by
  have h5 := hm.h5
  have hg := hf.2.2.2.1
  intro d
  induction d with
  | zero =>
    intro i hi
    refine .s (fun k => windroseref08_May.l28_s k _ _) (.n (by omega) (.b (pasts m hm) (.cv ?_)))
    rw [List.drop_eq_nil_of_le (by omega)]
    rfl
  | succ d ih =>
    intro i hi
    have h1 : i < m.f5.length := by omega
    refine .s (fun k => windroseref08_May.l28_s k _ _) (.t (by omega) (.t (by omega) ?_))
    have ih := ih (i + 1) (by omega)
    rw [preT_succ _ i h1 h5] at ih
    rw [nth_get _ _ _ h1, List.drop_eq_getElem_cons h1, temps]
    have hj : ∀ b : Bool, (b = !(decide ((0 ≤ m.f5[i].f0 ∧ m.f5[i].f0 < m.f3) ∧ preT m.f5 i < m.f5[i].f0 ∧ 1 ≤ (m.f5[i].f1.length : Int) ∧ (m.f5[i].f1.length : Int) ≤ m.f1) && Topo.apartR m.f4 [] m.f5[i].f1)) → Ev (fun k => windroseref08_May.j71 k m (i : Int) b) (((decide ((0 ≤ m.f5[i].f0 ∧ m.f5[i].f0 < m.f3) ∧ preT m.f5 i < m.f5[i].f0 ∧ 1 ≤ (m.f5[i].f1.length : Int) ∧ (m.f5[i].f1.length : Int) ≤ m.f1) && Topo.apartR m.f4 [] m.f5[i].f1) && temps m m.f5[i].f0 (m.f5.drop (i + 1))) && decide ((m.f6.length : Int) = m.f3 ∧ trails m m.f6 = true)) := by
      intro b hb
      refine .s (fun k => windroseref08_May.j71_s k _ _ _) ?_
      rw [w64n i (by omega)]
      generalize (decide ((0 ≤ m.f5[i].f0 ∧ m.f5[i].f0 < m.f3) ∧ preT m.f5 i < m.f5[i].f0 ∧ 1 ≤ (m.f5[i].f1.length : Int) ∧ (m.f5[i].f1.length : Int) ≤ m.f1) && Topo.apartR m.f4 [] m.f5[i].f1) = c at hb ⊢
      subst hb
      cases c with
      | true => exact .n (by decide) ih
      | false => exact .t rfl (.c _)
    clear ih
    have hj1 : ¬ ((0 ≤ m.f5[i].f0 ∧ m.f5[i].f0 < m.f3) ∧ preT m.f5 i < m.f5[i].f0 ∧ 1 ≤ (m.f5[i].f1.length : Int) ∧ (m.f5[i].f1.length : Int) ≤ m.f1) → Ev (fun k => windroseref08_May.j71 k m (i : Int) true) _ := fun h => hj true (by rw [decide_eq_false h]; rfl)
    have hj2 : ((0 ≤ m.f5[i].f0 ∧ m.f5[i].f0 < m.f3) ∧ preT m.f5 i < m.f5[i].f0 ∧ 1 ≤ (m.f5[i].f1.length : Int) ∧ (m.f5[i].f1.length : Int) ≤ m.f1) → Ev (fun k => (windroseref06_Apart.f k m.f4 m.f5[i].f1).bind fun t75 => windroseref08_May.j71 k m (i : Int) (!t75)) _ := fun h => .b (Topo.refapart m.f4 m.f5[i].f1 hm.h4 (by have := hf.2.1; omega)) (hj _ (by rw [decide_eq_true h]; rfl))
    have hp0 : i = 0 → preT m.f5 i = -1 := fun e => if_pos e
    have hp1 : i ≠ 0 → (nth T_api_Temp.z m.f5 (w64 ((i : Int) - 1))).f0 = preT m.f5 i := fun e => (if_neg e).symm
    have hw : i ≠ 0 → w64 ((i : Int) - 1) = ((i - 1 : Nat) : Int) := fun e => w64p i (by omega) (by omega)
    clear hj
    generalize (((decide ((0 ≤ m.f5[i].f0 ∧ m.f5[i].f0 < m.f3) ∧ preT m.f5 i < m.f5[i].f0 ∧ 1 ≤ (m.f5[i].f1.length : Int) ∧ (m.f5[i].f1.length : Int) ≤ m.f1) && Topo.apartR m.f4 [] m.f5[i].f1) && temps m m.f5[i].f0 (m.f5.drop (i + 1))) && decide ((m.f6.length : Int) = m.f3 ∧ trails m m.f6 = true)) = v at hj1 hj2 ⊢
    generalize preT m.f5 i = p at *
    generalize (nth T_api_Temp.z m.f5 (w64 ((i : Int) - 1))).f0 = q at *
    generalize m.f5[i] = n at *
    repeat' (first | refine Ev.i (fun _ => ?_) (fun _ => ?_))
    all_goals first
      | exact hj1 (by omega)
      | exact hj2 (by omega)
      | (exfalso; omega)
theorem may (m : T_api_Map) (hm : Small m) : Ev (fun k => windroseref08_May.f k m) (decide (May m)) := by
  have hj1 : ¬ Flat m → Ev (fun k => windroseref08_May.j18 k m true) (decide (May m)) := fun h => .s (fun k => windroseref08_May.j18_s k _ _) (.t rfl (.cv (decide_eq_false (fun e : May m => h e.1)).symm))
  have hj2 : Flat m → Ev (fun k => windroseref08_May.j18 k m false) (decide (May m)) := fun h => .s (fun k => windroseref08_May.j18_s k _ _) (.n (by decide) ((may_l28 m hm h m.f5.length 0 (by omega)).v (by
    rw [List.drop_zero, Bool.eq_iff_iff, Bool.and_eq_true, decide_eq_true_eq, decide_eq_true_eq]
    exact ⟨fun e => ⟨h, e⟩, fun e => e.2⟩)))
  have hj3 : (0 ≤ m.f0 ∧ m.f0 ≤ 2147483647) ∧ (1 ≤ m.f1 ∧ m.f1 ≤ 3) ∧ (1 ≤ m.f2 ∧ m.f2 ≤ m.f1) ∧ (1 ≤ m.f3 ∧ m.f3 ≤ 8) → Ev (fun k => (windroseref06_May.f k m.f4).bind fun t15 => windroseref08_May.j18 k m (!t15)) (decide (May m)) := by
    intro h
    refine .b (Topo.may m.f4 hm.h4) ?_
    by_cases hN : Topo.Nodes m.f4
    · rw [decide_eq_true hN]
      exact hj2 ⟨h.1, h.2.1, h.2.2.1, h.2.2.2, hN⟩
    · rw [decide_eq_false hN]
      exact hj1 (fun e => hN e.2.2.2.2)
  unfold windroseref08_May.f
  generalize decide (May m) = v at *
  have hj4 : ¬ ((0 ≤ m.f0 ∧ m.f0 ≤ 2147483647) ∧ (1 ≤ m.f1 ∧ m.f1 ≤ 3) ∧ (1 ≤ m.f2 ∧ m.f2 ≤ m.f1) ∧ (1 ≤ m.f3 ∧ m.f3 ≤ 8)) → Ev (fun k => windroseref08_May.j18 k m true) v := fun h => hj1 (fun e => h ⟨e.1, e.2.1, e.2.2.1, e.2.2.2.1⟩)
  clear hj1 hj2
  repeat' (first | refine Ev.i (fun _ => ?_) (fun _ => ?_))
  all_goals first
    | exact hj4 (by omega)
    | exact hj3 (by omega)

/-! maps alike -/
theorem nodes_same (l : List T_api_Node) (hl : l.length < 4611686018427387904) : ∀ (d i : Nat), i + d = l.length → Ev (fun k => windroseref06_Same.l9 k l l (i : Int)) true := by
  intro d
  induction d with
  | zero => exact fun i hi => .s (fun k => windroseref06_Same.l9_s k _ _ _) (.n (by omega) (.c _))
  | succ d ih =>
    intro i hi
    refine .s (fun k => windroseref06_Same.l9_s k _ _ _) (.t (by omega) (.t (by omega) (.t (by omega) (.t rfl ?_))))
    rw [w64n i (by omega)]
    exact ih (i + 1) (by omega)
theorem spans_same (l : List T_api_Span) (hl : l.length < 4611686018427387904) (hs : ∀ s ∈ l, s.f1.length < 4611686018427387904) : ∀ (d i : Nat), i + d = l.length → Ev (fun k => windroseref08_Spans.l9 k l l (i : Int)) true := by
  intro d
  induction d with
  | zero => exact fun i hi => .s (fun k => windroseref08_Spans.l9_s k _ _ _) (.n (by omega) (.c _))
  | succ d ih =>
    intro i hi
    have h1 : i < l.length := by omega
    refine .s (fun k => windroseref08_Spans.l9_s k _ _ _) (.t (by omega) (.t (by omega) (.t (by omega) (.t rfl ?_))))
    rw [nth_get _ _ _ h1]
    refine .b (ints _ _ (hs _ (List.getElem_mem h1))) (.s (fun k => windroseref08_Spans.j45_s k _ _ _ _) ?_)
    rw [decide_eq_true rfl, w64n i (by omega)]
    exact .n (by decide) (ih (i + 1) (by omega))
theorem trails_refl (l : List T_api_Trail) (hl : l.length < 4611686018427387904) (hp : ∀ t ∈ l, t.f1.length < 4611686018427387904) (hs : ∀ t ∈ l, ∀ s ∈ t.f1, s.f1.length < 4611686018427387904) : ∀ (d i : Nat), i + d = l.length → Ev (fun k => windroseref08_trails.l9 k l l (i : Int)) true := by
  intro d
  induction d with
  | zero => exact fun i hi => .s (fun k => windroseref08_trails.l9_s k _ _ _) (.n (by omega) (.c _))
  | succ d ih =>
    intro i hi
    have h1 : i < l.length := by omega
    have hsp : Ev (fun k => windroseref08_Spans.f k l[i].f1 l[i].f1) true := by
      unfold windroseref08_Spans.f
      exact .t rfl (spans_same _ (hp _ (List.getElem_mem h1)) (hs _ (List.getElem_mem h1)) _ 0 (Nat.zero_add _))
    refine .s (fun k => windroseref08_trails.l9_s k _ _ _) (.t (by omega) (.t (by omega) (.t (by omega) (.t rfl ?_))))
    rw [nth_get _ _ _ h1]
    refine .b hsp (.s (fun k => windroseref08_trails.j45_s k _ _ _ _) (.n (by decide) ?_))
    rw [w64n i (by omega)]
    exact ih (i + 1) (by omega)
theorem same_refl (m : T_api_Map) (hm : Small m) (ht : ∀ t ∈ m.f5, t.f1.length < 4611686018427387904) : Ev (fun k => windroseref08_Same.f k m m) true := by
  have h4 := hm.h4
  have h5 := hm.h5
  have h6 := hm.h6
  have hN : Ev (fun k => windroseref06_Same.f k m.f4 m.f4) true := by
    unfold windroseref06_Same.f
    exact .t rfl (nodes_same _ h4 _ 0 (Nat.zero_add _))
  have hT : Ev (fun k => windroseref08_trails.f k m.f6 m.f6) true := by
    unfold windroseref08_trails.f
    exact .t rfl (trails_refl _ h6 hm.hp hm.hs _ 0 (Nat.zero_add _))
  have hL : ∀ (d i : Nat), i + d = m.f5.length → Ev (fun k => windroseref08_Same.l27 k m m (i : Int)) true := by
    intro d
    induction d with
    | zero => exact fun i hi => .s (fun k => windroseref08_Same.l27_s k _ _ _) (.n (by omega) (.b hT (.c _)))
    | succ d ih =>
      intro i hi
      have h1 : i < m.f5.length := by omega
      refine .s (fun k => windroseref08_Same.l27_s k _ _ _) (.t (by omega) (.t (by omega) (.t (by omega) (.t rfl ?_))))
      rw [nth_get _ _ _ h1]
      refine .b (ints _ _ (ht _ (List.getElem_mem h1))) (.s (fun k => windroseref08_Same.j63_s k _ _ _ _) ?_)
      rw [decide_eq_true rfl, w64n i (by omega)]
      exact .n (by decide) (ih (i + 1) (by omega))
  unfold windroseref08_Same.f
  refine .t rfl (.t rfl (.t rfl (.t rfl (.b hN (.t rfl (.s (fun k => windroseref08_Same.j17_s k _ _ _) ?_))))))
  rw [show ((m.f5.length : Int) == (m.f5.length : Int)) = true from beq_self_eq_true _]
  exact .n (by decide) (hL _ 0 (Nat.zero_add _))

theorem awake (k : Nat) : windroselaw08_awake.f (k + 1500) = some true := by kernel_rfl
theorem awakes : Ev (fun k => windroselaw08_awake.f k) true := ⟨1500, fun k hk => by
  obtain ⟨k, rfl⟩ : ∃ m, k = m + 1500 := ⟨k - 1500, by omega⟩
  exact awake k⟩
def newM (size least groups : Int) : T_api_Map := ⟨0, size, least, groups, [], [], List.replicate (if (if 8 < groups then 8 else groups) > 0 then (if 8 < groups then 8 else groups) else 0).toNat T_api_Trail.z⟩
theorem new_len (groups : Int) : (List.replicate (if (if 8 < groups then 8 else groups) > 0 then (if 8 < groups then 8 else groups) else 0).toNat T_api_Trail.z).length ≤ 8 := by
  rw [List.length_replicate]
  split <;> split <;> omega
theorem new_small (size least groups : Int) : Small (newM size least groups) := by
  have h6 := new_len groups
  have hz : ∀ t ∈ (newM size least groups).f6, t = T_api_Trail.z := fun t ht => List.eq_of_mem_replicate ht
  refine ⟨by show (0 : Nat) < _; omega, by show (0 : Nat) < _; omega, by show (List.replicate _ _).length < _; omega, fun t ht => by rw [hz t ht]; show (0 : Nat) < _; omega, fun t ht s hs => by rw [hz t ht] at hs; cases hs⟩
theorem new_trails : ∀ (n : Nat) (m : T_api_Map), m.f0 = 0 → trails m (List.replicate n T_api_Trail.z) = true
  | 0, _, _ => rfl
  | n + 1, m, h => by
    rw [List.replicate_succ, trails, new_trails n m h, Bool.and_true, Bool.and_eq_true, decide_eq_true_eq]
    refine ⟨?_, rfl⟩
    show (0 : Int) ≤ 0 ∧ (0 : Int) ≤ m.f0
    omega
theorem zero_small : Small (⟨0, 0, 0, 0, [], [], []⟩ : T_api_Map) := ⟨by decide, by decide, by decide, (fun _ h => nomatch h), (fun _ h => nomatch h)⟩
end Maps
theorem pureMapsNew : PureMapsNew := by
  intro size least groups _ _ _
  refine Ev.one (f := fun k => windroselaw08_MapsNew.f k size least groups) (v := true) ?_
  have aw : Ev (fun k => (windroselaw08_awake.f k).bind fun t => some t) true := .b Maps.awakes (.c _)
  have hnew : Ev (fun k => maps_New.f k size least groups) (if Maps.May (Maps.newM size least groups) then (Maps.newM size least groups, 0) else (⟨0, 0, 0, 0, [], [], []⟩, 1)) := by
    unfold maps_New.f
    refine .t (by split <;> split <;> omega) (.b (a := eno (decide (Maps.May (Maps.newM size least groups)))) (Maps.check _ (Maps.new_small size least groups)) ?_)
    by_cases h : Maps.May (Maps.newM size least groups)
    · rw [if_pos h, decide_eq_true h]
      exact .t rfl (.c _)
    · rw [if_neg h, decide_eq_false h]
      exact .n (by decide) (.c _)
  have no : ¬ ((1 ≤ size ∧ size ≤ 3) ∧ (1 ≤ least ∧ least ≤ size) ∧ 1 ≤ groups ∧ groups ≤ 8) → Ev (fun k => windroselaw08_MapsNew.j28 k size least groups (if Maps.May (Maps.newM size least groups) then (Maps.newM size least groups, 0) else (⟨0, 0, 0, 0, [], [], []⟩, 1)) true) true := by
    intro c
    rw [if_neg (fun h : Maps.May _ => c ⟨h.1.2.1, h.1.2.2.1, h.1.2.2.2.1⟩)]
    refine .s (fun k => windroselaw08_MapsNew.j28_s k _ _ _ _ _) (.t rfl (.t rfl (.b (Maps.same_refl _ Maps.zero_small (fun _ h => nomatch h)) (.t rfl aw))))
  unfold windroselaw08_MapsNew.f
  refine .b hnew (.i (fun c => no (by omega)) (fun c1 => .i (fun c => no (by omega)) (fun c2 => .i (fun c => no (by omega)) (fun c3 => .i (fun c => no (by omega)) (fun c4 => .i (fun c => no (by omega)) (fun c5 => ?_))))))
  by_cases c6 : groups > 8
  · rw [decide_eq_true c6]
    exact no (by omega)
  · rw [decide_eq_false c6]
    have e : Maps.newM size least groups = ⟨0, size, least, groups, [], [], List.replicate groups.toNat T_api_Trail.z⟩ := by
      unfold Maps.newM
      rw [if_neg (show ¬ 8 < groups by omega), if_pos (show groups > 0 by omega)]
    have hm : Maps.May (Maps.newM size least groups) := by
      rw [e]
      have hflat : ((0 : Int) ≤ 0 ∧ (0 : Int) ≤ 2147483647) ∧ (1 ≤ size ∧ size ≤ 3) ∧ (1 ≤ least ∧ least ≤ size) ∧ (1 ≤ groups ∧ groups ≤ 8) ∧ Topo.Nodes [] := ⟨by omega, by omega, by omega, by omega, by decide⟩
      refine ⟨hflat, rfl, ?_, ?_⟩
      · show ((List.replicate groups.toNat T_api_Trail.z).length : Int) = groups
        rw [List.length_replicate]
        omega
      · exact Maps.new_trails groups.toNat _ rfl
    rw [if_pos hm]
    have hw : windroseref08_New.f size least groups = some (Maps.newM size least groups) := by
      unfold windroseref08_New.f
      rw [if_pos ⟨by omega, by omega⟩, e]
    have hs := Maps.new_small size least groups
    refine .s (fun k => windroselaw08_MapsNew.j28_s k _ _ _ _ _) (.n (by decide) (.b0 hw (.b (Maps.may _ hs) ?_)))
    rw [decide_eq_true hm]
    exact .t rfl (.t rfl (.b (Maps.same_refl _ hs (fun t ht => nomatch ht)) (.t rfl aw)))
end Go.Proofs.YtpohepinmjmbkaaGreat.MN
