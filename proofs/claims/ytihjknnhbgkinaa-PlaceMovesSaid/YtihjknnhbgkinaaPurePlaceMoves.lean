/- The law PlaceMoves, plain. -/
import Derived.Test.YtihjknnhbgkinaaSMoPlaceMoves
import Derived.Test.YtihjknnhbgkinaaMixn
import Derived.Test.YtihjknnhbgkinaaNegn
namespace Go.Proofs.Ytihjknnhbgkinaa.SM
open Go Go.RowKit Go.Proofs.Ytihjknnhbgkinaa Go.Proofs.Ytihjknnhbgkinaa.Sl
set_option linter.unusedVariables false
set_option linter.unusedSimpArgs false
theorem w64n (i : Nat) (h : i < 9223372036854775807) : w64 ((i : Int) + 1) = ((i + 1 : Nat) : Int) := by rw [w64_of (by omega) (by omega)]; omega
theorem w64p (i : Nat) (h : i < 9223372036854775807) (h0 : 0 < i) : w64 ((i : Int) - 1) = ((i - 1 : Nat) : Int) := by rw [w64_of (by omega) (by omega)]; omega
theorem nth_get {α : Type} (z : α) (l : List α) (i : Nat) (h : i < l.length) : nth z l (i : Int) = l[i] := by simp [nth, h]
/-- In the end, with fuel enough, a run answers so. -/
def Ev {β : Type} (f : Nat → Option β) (v : β) : Prop := ∃ K, ∀ k, K ≤ k → f k = some v
theorem Ev.c {β : Type} (v : β) : Ev (fun _ => some v) v := ⟨0, fun _ _ => rfl⟩
theorem Ev.cv {β : Type} {v w : β} (h : v = w) : Ev (fun _ => some v) w := ⟨0, fun _ _ => congrArg some h⟩
theorem Ev.v {β : Type} {f : Nat → Option β} {v w : β} (h : Ev f v) (e : v = w) : Ev f w := e ▸ h
theorem Ev.s {β : Type} {f g : Nat → Option β} {v : β} (h : ∀ k, f (k + 1) = g k) (hg : Ev g v) : Ev f v := by
  obtain ⟨K, hK⟩ := hg
  refine ⟨K + 1, fun k hk => ?_⟩
  obtain ⟨k, rfl⟩ : ∃ m, k = m + 1 := ⟨k - 1, by omega⟩
  rw [h]
  exact hK k (by omega)
theorem Ev.e {β : Type} {f g : Nat → Option β} {v : β} (h : ∀ k, f k = g k) (hg : Ev g v) : Ev f v := by
  obtain ⟨K, hK⟩ := hg
  exact ⟨K, fun k hk => (h k).trans (hK k hk)⟩
theorem Ev.b {α β : Type} {f : Nat → Option α} {g : Nat → α → Option β} {a : α} {v : β} (hf : Ev f a) (hg : Ev (fun k => g k a) v) : Ev (fun k => (f k).bind (g k)) v := by
  obtain ⟨K, hK⟩ := hf
  obtain ⟨L, hL⟩ := hg
  refine ⟨K + L, fun k hk => ?_⟩
  show (f k).bind (g k) = some v
  rw [hK k (by omega), Option.bind_some]
  exact hL k (by omega)
theorem Ev.b0 {α β : Type} {o : Option α} {g : Nat → α → Option β} {a : α} {v : β} (ho : o = some a) (hg : Ev (fun k => g k a) v) : Ev (fun k => o.bind (g k)) v := Ev.b ⟨0, fun _ _ => ho⟩ hg
theorem Ev.i {β : Type} {c : Prop} [Decidable c] {f g : Nat → Option β} {v : β} (hf : c → Ev f v) (hg : ¬ c → Ev g v) : Ev (fun k => if c then f k else g k) v := by
  by_cases h : c
  · simpa only [if_pos h] using hf h
  · simpa only [if_neg h] using hg h
theorem Ev.t {β : Type} {c : Prop} [Decidable c] {f g : Nat → Option β} {v : β} (h : c) (hf : Ev f v) : Ev (fun k => if c then f k else g k) v := Ev.i (fun _ => hf) (fun n => absurd h n)
theorem Ev.n {β : Type} {c : Prop} [Decidable c] {f g : Nat → Option β} {v : β} (h : ¬ c) (hg : Ev g v) : Ev (fun k => if c then f k else g k) v := Ev.i (fun n => absurd n h) (fun _ => hg)
theorem Ev.and {α β : Type} {f : Nat → Option α} {g : Nat → Option β} {v : α} {w : β} (hf : Ev f v) (hg : Ev g w) : ∃ k, f k = some v ∧ g k = some w := by
  obtain ⟨K, hK⟩ := hf
  obtain ⟨L, hL⟩ := hg
  exact ⟨K + L, hK _ (by omega), hL _ (by omega)⟩
theorem Ev.one {α : Type} {f : Nat → Option α} {v : α} (hf : Ev f v) : ∃ k, f k = some v := by
  obtain ⟨K, hK⟩ := hf
  exact ⟨K, hK _ (by omega)⟩
/-- The answer's number: all well, or an argument that may not be. -/
def eno : Bool → Int
  | true => 0
  | false => 1

/-- A run answers in the end, and the answer is such. -/
def Ht {β : Type} (f : Nat → Option β) (P : β → Prop) : Prop := ∃ v, Ev f v ∧ P v
theorem Ht.c {β : Type} {v : β} {P : β → Prop} (h : P v) : Ht (fun _ => some v) P := ⟨v, .c v, h⟩
theorem Ht.s {β : Type} {f g : Nat → Option β} {P : β → Prop} (h : ∀ k, f (k + 1) = g k) : Ht g P → Ht f P := fun ⟨v, e, p⟩ => ⟨v, .s h e, p⟩
theorem Ht.b {α β : Type} {f : Nat → Option α} {g : Nat → α → Option β} {Q : α → Prop} {P : β → Prop} : Ht f Q → (∀ a, Q a → Ht (fun k => g k a) P) → Ht (fun k => (f k).bind (g k)) P := fun ⟨a, e, q⟩ h => by
  obtain ⟨v, e2, p⟩ := h a q
  exact ⟨v, .b e e2, p⟩
theorem Ht.e {α β : Type} {f : Nat → Option α} {g : Nat → α → Option β} {a : α} {P : β → Prop} (e : Ev f a) : Ht (fun k => g k a) P → Ht (fun k => (f k).bind (g k)) P := fun ⟨v, e2, p⟩ => ⟨v, .b e e2, p⟩
theorem Ht.o {α β : Type} {o : Option α} {g : Nat → α → Option β} {a : α} {P : β → Prop} (e : o = some a) : Ht (fun k => g k a) P → Ht (fun k => o.bind (g k)) P := fun ⟨v, e2, p⟩ => ⟨v, .b0 e e2, p⟩
theorem Ht.i {β : Type} {c : Prop} [Decidable c] {f g : Nat → Option β} {P : β → Prop} (hf : c → Ht f P) (hg : ¬ c → Ht g P) : Ht (fun k => if c then f k else g k) P := by
  by_cases h : c
  · simpa only [if_pos h] using hf h
  · simpa only [if_neg h] using hg h
theorem Ht.t {β : Type} {c : Prop} [Decidable c] {f g : Nat → Option β} {P : β → Prop} (h : c) (hf : Ht f P) : Ht (fun k => if c then f k else g k) P := .i (fun _ => hf) (fun n => absurd h n)
theorem Ht.n {β : Type} {c : Prop} [Decidable c] {f g : Nat → Option β} {P : β → Prop} (h : ¬ c) (hg : Ht g P) : Ht (fun k => if c then f k else g k) P := .i (fun n => absurd n h) (fun _ => hg)
theorem Ht.m {β : Type} {f : Nat → Option β} {P Q : β → Prop} (h : ∀ v, P v → Q v) : Ht f P → Ht f Q := fun ⟨v, e, p⟩ => ⟨v, e, h v p⟩

namespace Topo
/-! nodes -/
theorem tin (x a b : Int) : topo_in.f x a b = some (decide (a ≤ x ∧ x ≤ b)) := by
  unfold topo_in.f
  by_cases h : x ≥ a
  · rw [if_pos h]
    congr 1
    simp only [decide_eq_decide]
    omega
  · rw [if_neg h, decide_eq_false (by omega)]
def okN (n : T_api_Node) : Prop := (1 ≤ n.f0 ∧ n.f0 ≤ 999) ∧ (1 ≤ n.f1 ∧ n.f1 ≤ 9) ∧ (1 ≤ n.f2 ∧ n.f2 ≤ 9) ∧ 0 ≤ n.f3 ∧ n.f3 ≤ 65536
instance (n : T_api_Node) : Decidable (okN n) := inferInstanceAs (Decidable (_ ∧ _))
/-- Nodes that may be, their numbers rising from one on. -/
def rise : Int → List T_api_Node → Bool
  | _, [] => true
  | p, n :: l => decide (okN n ∧ p < n.f0) && rise n.f0 l
/-- The number ahead of a place. -/
def pre (l : List T_api_Node) (i : Nat) : Int := if i = 0 then 0 else (nth T_api_Node.z l (w64 ((i : Int) - 1))).f0
theorem pre_succ (l : List T_api_Node) (i : Nat) (h : i < l.length) (hl : l.length < 4611686018427387904) : pre l (i + 1) = l[i].f0 := by
  unfold pre
  rw [if_neg (by omega), w64p (i + 1) (by omega) (by omega), show i + 1 - 1 = i by omega, nth_get _ _ _ h]
def Nodes (l : List T_api_Node) : Prop := l.length ≤ 12 ∧ rise 0 l = true
instance (l : List T_api_Node) : Decidable (Nodes l) := inferInstanceAs (Decidable (_ ∧ _))
theorem check_l9 (l : List T_api_Node) (hl : l.length < 4611686018427387904) : ∀ (d i : Nat), i + d = l.length → Ev (fun k => topo_Check.l9 k l (i : Int)) (eno (rise (pre l i) (l.drop i))) := by
  intro d
  induction d with
  | zero =>
    intro i hi
    refine .s (fun k => topo_Check.l9_s k _ _) (.n (by omega) (.cv ?_))
    rw [List.drop_eq_nil_of_le (by omega)]
    rfl
  | succ d ih =>
    intro i hi
    have h1 : i < l.length := by omega
    refine .s (fun k => topo_Check.l9_s k _ _) (.t (by omega) (.t (by omega) ?_))
    have ih := ih (i + 1) (by omega)
    rw [pre_succ l i h1 hl] at ih
    rw [List.drop_eq_getElem_cons h1, nth_get _ _ _ h1]
    have hj : ∀ b : Bool, (b = true ↔ ¬ (okN l[i] ∧ pre l i < l[i].f0)) → Ev (fun k => topo_Check.j49 k l (i : Int) b) (eno (rise (pre l i) (l[i] :: l.drop (i + 1)))) := by
      intro b hb
      refine .s (fun k => topo_Check.j49_s k _ _ _) ?_
      simp only [rise]
      by_cases h : okN l[i] ∧ pre l i < l[i].f0
      · refine .n (fun e => (hb.1 e) h) ?_
        rw [w64n i (by omega), decide_eq_true h, Bool.true_and]
        exact ih
      · refine .t (hb.2 h) (.cv ?_)
        rw [decide_eq_false h, Bool.false_and]
        rfl
    clear ih
    have hp0 : i = 0 → pre l i = 0 := fun e => if_pos e
    have hp1 : i ≠ 0 → (nth T_api_Node.z l (w64 ((i : Int) - 1))).f0 = pre l i := fun e => (if_neg e).symm
    have hw : i ≠ 0 → w64 ((i : Int) - 1) = ((i - 1 : Nat) : Int) := fun e => w64p i (by omega) (by omega)
    unfold okN at hj
    generalize hv : eno (rise (pre l i) (l[i] :: l.drop (i + 1))) = v at hj ⊢
    clear hv
    generalize pre l i = p at *
    generalize (nth T_api_Node.z l (w64 ((i : Int) - 1))).f0 = q at *
    generalize l[i] = n at *
    repeat' (first | refine Ev.b0 (tin _ _ _) ?_ | refine Ev.i (fun _ => ?_) (fun _ => ?_))
    all_goals simp only [decide_eq_true_eq] at *
    all_goals first
      | exact hj _ (by simp only [decide_eq_true_eq, Bool.false_eq_true, true_iff, false_iff]; omega)
      | (exfalso; omega)
theorem check' (l : List T_api_Node) : Ev (fun k => topo_Check.f k l) (eno (decide (Nodes l))) := by
  unfold topo_Check.f
  refine .i (fun h => .cv ?_) (fun h => (check_l9 l (by omega) l.length 0 (by omega)).v ?_)
  · rw [decide_eq_false (fun n : Nodes l => by have := n.1; omega)]
    rfl
  · rw [show pre l 0 = 0 from rfl, List.drop_zero]
    congr 1
    rw [Bool.eq_iff_iff, decide_eq_true_eq]
    exact ⟨fun h0 => ⟨by omega, h0⟩, fun n => n.2⟩
theorem check (l : List T_api_Node) (_ : l.length < 4611686018427387904) : Ev (fun k => topo_Check.f k l) (eno (decide (Nodes l))) := check' l
theorem may_l5 (l : List T_api_Node) (hl : l.length < 4611686018427387904) : ∀ (d i : Nat), i + d = l.length → Ev (fun k => windroseref06_May.l5 k l (i : Int)) (rise (pre l i) (l.drop i) && decide (l.length ≤ 12)) := by
  intro d
  induction d with
  | zero =>
    intro i hi
    refine .s (fun k => windroseref06_May.l5_s k _ _) (.n (by omega) (.cv ?_))
    rw [List.drop_eq_nil_of_le (by omega)]
    simp only [rise, Bool.true_and, decide_eq_decide]
    omega
  | succ d ih =>
    intro i hi
    have h1 : i < l.length := by omega
    refine .s (fun k => windroseref06_May.l5_s k _ _) (.t (by omega) (.t (by omega) ?_))
    have ih := ih (i + 1) (by omega)
    rw [pre_succ l i h1 hl] at ih
    rw [List.drop_eq_getElem_cons h1, nth_get _ _ _ h1]
    have hj : ∀ b : Bool, (b = true ↔ ¬ (okN l[i] ∧ pre l i < l[i].f0)) → Ev (fun k => windroseref06_May.j37 k l (i : Int) b) (rise (pre l i) (l[i] :: l.drop (i + 1)) && decide (l.length ≤ 12)) := by
      intro b hb
      refine .s (fun k => windroseref06_May.j37_s k _ _ _) ?_
      simp only [rise]
      by_cases h : okN l[i] ∧ pre l i < l[i].f0
      · refine .n (fun e => (hb.1 e) h) ?_
        rw [w64n i (by omega), decide_eq_true h, Bool.true_and]
        exact ih
      · refine .t (hb.2 h) (.cv ?_)
        rw [decide_eq_false h, Bool.false_and, Bool.false_and]
    clear ih
    have hp0 : i = 0 → pre l i = 0 := fun e => if_pos e
    have hp1 : i ≠ 0 → (nth T_api_Node.z l (w64 ((i : Int) - 1))).f0 = pre l i := fun e => (if_neg e).symm
    have hw : i ≠ 0 → w64 ((i : Int) - 1) = ((i - 1 : Nat) : Int) := fun e => w64p i (by omega) (by omega)
    unfold okN at hj
    generalize hv : (rise (pre l i) (l[i] :: l.drop (i + 1)) && decide (l.length ≤ 12)) = v at hj ⊢
    clear hv
    generalize pre l i = p at *
    generalize (nth T_api_Node.z l (w64 ((i : Int) - 1))).f0 = q at *
    generalize l[i] = n at *
    repeat' (first | refine Ev.i (fun _ => ?_) (fun _ => ?_))
    all_goals first
      | exact hj _ (by simp only [decide_eq_true_eq, Bool.false_eq_true, true_iff, false_iff]; omega)
      | (exfalso; omega)
theorem may (l : List T_api_Node) (hl : l.length < 4611686018427387904) : Ev (fun k => windroseref06_May.f k l) (decide (Nodes l)) := by
  unfold windroseref06_May.f
  refine (may_l5 l hl l.length 0 (by omega)).v ?_
  rw [show pre l 0 = 0 from rfl, List.drop_zero, Bool.eq_iff_iff, Bool.and_eq_true, decide_eq_true_eq, decide_eq_true_eq]
  exact And.comm

theorem index_l5 (l : List Int) (v : Int) (hl : l.length < 4611686018427387904) : ∀ (d i : Nat), i + d = l.length → ∃ x, Ev (fun k => slices_Index__int_int.l5 k l v (i : Int)) x ∧ (0 ≤ x ↔ v ∈ l.drop i) := by
  intro d
  induction d with
  | zero =>
    intro i hi
    refine ⟨-1, .s (fun k => slices_Index__int_int.l5_s k _ _ _) (.n (by omega) (.c _)), ?_⟩
    rw [List.drop_eq_nil_of_le (by omega)]
    simp
  | succ d ih =>
    intro i hi
    have h1 : i < l.length := by omega
    obtain ⟨x, hx, hm⟩ := ih (i + 1) (by omega)
    by_cases h : v = l[i]
    · refine ⟨i, .s (fun k => slices_Index__int_int.l5_s k _ _ _) (.t (by omega) (.t (by omega) (.t (by rw [nth_get _ _ _ h1]; exact h) (.c _)))), ?_⟩
      rw [List.drop_eq_getElem_cons h1]
      exact ⟨fun _ => List.mem_cons.2 (.inl h), fun _ => by omega⟩
    · refine ⟨x, .s (fun k => slices_Index__int_int.l5_s k _ _ _) (.t (by omega) (.t (by omega) (.n (by rw [nth_get _ _ _ h1]; exact h) ?_))), ?_⟩
      · rw [w64n i (by omega)]
        exact hx
      · rw [List.drop_eq_getElem_cons h1, hm]
        exact ⟨fun m => List.mem_cons.2 (.inr m), fun m => (List.mem_cons.1 m).resolve_left h⟩
theorem contains (l : List Int) (v : Int) (hl : l.length < 4611686018427387904) : Ev (fun k => slices_Contains__int_int.f k l v) (decide (v ∈ l)) := by
  obtain ⟨x, hx, hm⟩ := index_l5 l v hl l.length 0 (by omega)
  unfold slices_Contains__int_int.f slices_Index__int_int.f
  refine .b hx (.cv ?_)
  rw [decide_eq_decide]
  exact hm

end Topo
namespace Draw
/-! mixing: what is printed is what the plain numbers are -/
theorem u64n (n : Nat) (h : n < 18446744073709551616) : IntKind.u64.wrap (n : Int) = n := by rw [IntKind.wrap_u64]; omega
theorem xor_nat (a b : Nat) (ha : a < 18446744073709551616) (hb : b < 18446744073709551616) : IntKind.u64.wrap (((BitVec.ofInt 64 (a : Int) ^^^ BitVec.ofInt 64 (b : Int)).toNat : Int)) = ((a ^^^ b : Nat) : Int) := by
  have h : (BitVec.ofInt 64 (a : Int) ^^^ BitVec.ofInt 64 (b : Int)).toNat = a ^^^ b := by
    rw [BitVec.toNat_xor, BitVec.ofInt_natCast, BitVec.ofInt_natCast, BitVec.toNat_ofNat, BitVec.toNat_ofNat, Nat.mod_eq_of_lt (by omega), Nat.mod_eq_of_lt (by omega)]
  rw [h, u64n _ (Mixn.xor_lt ha hb)]
theorem sh_i (x : Nat) (hx : x < 18446744073709551616) : IntKind.u64.wrap (((BitVec.ofInt 64 (x : Int) ^^^ BitVec.ofInt 64 ((x : Int).fdiv 4294967296)).toNat : Int)) = ((Mixn.sh x : Nat) : Int) := by
  have e : (x : Int).fdiv 4294967296 = ((x / 4294967296 : Nat) : Int) := by rw [Int.fdiv_eq_ediv_of_nonneg _ (by omega)]; omega
  rw [e, xor_nat _ _ hx (by omega)]
  rfl
theorem mf_i (n : Nat) : IntKind.u64.wrap ((n : Int) * 15485907386658061715) = ((Mixn.mf n : Nat) : Int) := by
  rw [IntKind.wrap_u64]
  rfl
theorem mix (x : Nat) (hx : x < 18446744073709551616) : Ev (fun k => mix_Mix.f k (x : Int)) ((Mixn.mix x : Nat) : Int) := by
  unfold mix_Mix.f
  refine .s (fun k => mix_Mix.l6_s k _ _) (.t (by omega) ?_)
  rw [sh_i x hx, mf_i]
  refine .s (fun k => mix_Mix.l6_s k _ _) (.t (by decide) ?_)
  rw [sh_i _ (Mixn.mf_lt _), mf_i]
  refine .s (fun k => mix_Mix.l6_s k _ _) (.n (by decide) (.cv ?_))
  rw [sh_i _ (Mixn.mf_lt _)]
  rfl
theorem step_i (s n : Nat) (hs : s < 18446744073709551616) (hn : n < 18446744073709551616) : IntKind.u64.wrap ((IntKind.u64.wrap (((BitVec.ofInt 64 (s : Int) ^^^ BitVec.ofInt 64 (n : Int)).toNat : Int))) + 11400714819323198485) = ((((s ^^^ n) + 11400714819323198485) % 18446744073709551616 : Nat) : Int) := by
  rw [xor_nat _ _ hs hn, IntKind.wrap_u64]
  rfl
/-- Numbers of 64 bits. -/
def ofN (l : List Nat) : List Int := l.map Int.ofNat
theorem ofN_get (l : List Nat) (i : Nat) (h : i < (ofN l).length) : (ofN l)[i] = ((l[i]'(by simpa [ofN] using h) : Nat) : Int) := by simp [ofN]
theorem fold_l10 (l : List Nat) (hl : ∀ x ∈ l, x < 18446744073709551616) (hn : l.length < 4611686018427387904) : ∀ (d i s : Nat), i + d = l.length → s < 18446744073709551616 → Ev (fun k => mix_Fold.l10 k (ofN l) (s : Int) (i : Int)) (((l.drop i).foldl Mixn.step s : Nat) : Int) := by
  have hlen : (ofN l).length = l.length := List.length_map ..
  intro d
  induction d with
  | zero =>
    intro i s hi hs
    refine .s (fun k => mix_Fold.l10_s k _ _ _) (.n (by omega) (.cv ?_))
    rw [List.drop_eq_nil_of_le (by omega)]
    rfl
  | succ d ih =>
    intro i s hi hs
    have h1 : i < l.length := by omega
    refine .s (fun k => mix_Fold.l10_s k _ _ _) (.t (by omega) (.t (by omega) ?_))
    rw [nth_get _ _ _ (by omega), ofN_get, step_i s _ hs (hl _ (List.getElem_mem h1)), w64n i (by omega), List.drop_eq_getElem_cons h1]
    exact .b (mix _ (Nat.mod_lt _ (by decide))) (ih (i + 1) _ (by omega) (Mixn.step_lt _ _))
theorem fold (s : Nat) (hs : s < 18446744073709551616) (l : List Nat) (hl : ∀ x ∈ l, x < 18446744073709551616) (hn : l.length < 4611686018427387904) : Ev (fun k => mix_Fold.f k (s : Int) (ofN l)) ((Mixn.fold s l : Nat) : Int) := by
  unfold mix_Fold.f
  exact .b (mix s hs) (fold_l10 l hl hn l.length 0 _ (by omega) (Mixn.mix_lt _))

/-! costs -/
theorem sq_div (z : Nat) (hz : z ≤ 2147483648) : IntKind.u64.wrap (Int.tdiv (IntKind.u64.wrap ((z : Int) * (z : Int))) 2147483648) = ((z * z / 2147483648 : Nat) : Int) ∧ z * z / 2147483648 ≤ 2147483648 := by
  have h1 : z * z ≤ 2147483648 * 2147483648 := Nat.mul_le_mul hz hz
  have h2 : (2147483648 : Nat) * 2147483648 = 4611686018427387904 := by decide
  rw [h2] at h1
  have e : (z : Int) * (z : Int) = ((z * z : Nat) : Int) := by rw [Int.natCast_mul]
  have h3 : z * z / 2147483648 ≤ 2147483648 := by omega
  rw [e, u64n _ (by omega), Int.tdiv_eq_ediv_of_nonneg (Int.natCast_nonneg _)]
  have e2 : ((z * z : Nat) : Int) / 2147483648 = ((z * z / 2147483648 : Nat) : Int) := by rw [Int.natCast_ediv]; rfl
  rw [e2, u64n _ (by omega)]
  exact ⟨rfl, h3⟩
theorem p16 (i : Nat) (h : i ≤ 16) : 2 ^ i ≤ 65536 := Nat.le_trans (Nat.pow_le_pow_right (by decide) h) (by decide)
theorem cost_l31 (c : Nat) (hc : c ≤ 17) : ∀ (d z f i : Nat), i + d = 16 → z ≤ 2147483648 → f < 2 ^ i → Ev (fun k => neglog_Cost.l31 k (c : Int) (z : Int) (f : Int) (i : Int)) ((c * 65536 + Negn.bitsOf d z f : Nat) : Int) := by
  intro d
  induction d with
  | zero =>
    intro z f i hi hz hf
    have hp := p16 i (by omega)
    refine .s (fun k => neglog_Cost.l31_s k _ _ _ _) (.n (by omega) (.cv ?_))
    rw [w64_of (n := (c : Int) * 65536) (by omega) (by omega), w64_of (by omega) (by omega)]
    rfl
  | succ d ih =>
    intro z f i hi hz hf
    have hp := p16 i (by omega)
    have hp2 : 2 ^ (i + 1) = 2 * 2 ^ i := by rw [Nat.pow_succ, Nat.mul_comm]
    obtain ⟨e1, h1⟩ := sq_div z hz
    have w2 : w64 ((f : Int) * 2) = ((2 * f : Nat) : Int) := by rw [w64_of (by omega) (by omega)]; omega
    have w3 : w64 (((2 * f : Nat) : Int) + 1) = ((2 * f + 1 : Nat) : Int) := w64n _ (by omega)
    refine .s (fun k => neglog_Cost.l31_s k _ _ _ _) (.t (by omega) ?_)
    rw [e1, w2, w3, w64n i (by omega), Negn.bitsOf]
    clear w2 w3 e1
    generalize z * z / 2147483648 = y at *
    by_cases cy : y ≤ 1073741824
    · have w4 : IntKind.u64.wrap ((y : Int) * 2) = ((2 * y : Nat) : Int) := by rw [IntKind.wrap_u64]; omega
      rw [if_pos cy]
      refine .t (by omega) ?_
      rw [w4]
      exact ih (2 * y) (2 * f + 1) (i + 1) (by omega) (by omega) (by omega)
    · rw [if_neg cy]
      exact .n (by omega) (ih y (2 * f) (i + 1) (by omega) (by omega) (by omega))
theorem cost_l17 : ∀ (d u c : Nat), 32768 < u * 2 ^ d → u ≤ 65536 → c + d ≤ 16 → Ev (fun k => neglog_Cost.l17 k (u : Int) (c : Int)) ((c * 65536 + Negn.cst (d + 1) u : Nat) : Int) := by
  have base : ∀ (u c n : Nat), 32768 < u → u ≤ 65536 → c ≤ 16 → Ev (fun k => neglog_Cost.l17 k (u : Int) (c : Int)) ((c * 65536 + Negn.cst (n + 1) u : Nat) : Int) := by
    intro u c n h h1 hc
    have w1 : IntKind.u64.wrap (IntKind.u64.wrap (u : Int) * 32768) = ((u * 32768 : Nat) : Int) := by rw [u64n _ (by omega), IntKind.wrap_u64]; omega
    refine .s (fun k => neglog_Cost.l17_s k _ _) (.n (by omega) ?_)
    rw [w1, Negn.cst_succ, if_neg (by omega)]
    exact cost_l31 c (by omega) 16 (u * 32768) 0 0 (by omega) (by omega) (by decide)
  intro d
  induction d with
  | zero =>
    intro u c h h1 hc
    rw [Nat.pow_zero, Nat.mul_one] at h
    exact base u c 0 h h1 (by omega)
  | succ d ih =>
    intro u c h h1 hc
    by_cases cu : u ≤ 32768
    · have h2 : u * 2 ^ (d + 1) = 2 * u * 2 ^ d := by rw [Nat.pow_succ, Nat.mul_comm (2 ^ d) 2, ← Nat.mul_assoc, Nat.mul_comm u 2]
      have w1 : w64 ((u : Int) * 2) = ((2 * u : Nat) : Int) := by rw [w64_of (by omega) (by omega)]; omega
      refine .s (fun k => neglog_Cost.l17_s k _ _) (.t (by omega) ?_)
      rw [w1, w64n c (by omega), Negn.cst_succ, if_pos cu]
      have ih := ih (2 * u) (c + 1) (by omega) (by omega) (by omega)
      generalize Negn.cst (d + 1) (2 * u) = y at *
      exact ih.v (congrArg Int.ofNat (by omega))
    · exact base u c (d + 1) (by omega) h1 (by omega)
/-- A number's cost; 0, if it is none that has one. -/
def costI (a : Int) : Int := if 1 ≤ a ∧ a ≤ 65536 then ((Negn.cost a.toNat : Nat) : Int) else 0
theorem cost (a : Int) : Ev (fun k => neglog_Cost.f k a) (costI a) := by
  have hbad : ¬ (1 ≤ a ∧ a ≤ 65536) → Ev (fun k => neglog_Cost.j6 k a true) (costI a) := fun h => .s (fun k => neglog_Cost.j6_s k _ _) (.t rfl (.cv (if_neg h).symm))
  unfold neglog_Cost.f
  refine .i (fun h => hbad (by omega)) (fun h => ?_)
  by_cases h2 : a > 65536
  · rw [decide_eq_true h2]
    exact hbad (by omega)
  · rw [decide_eq_false h2]
    obtain ⟨u, rfl⟩ : ∃ u : Nat, a = u := ⟨a.toNat, by omega⟩
    refine .s (fun k => neglog_Cost.j6_s k _ _) (.n (by decide) ((cost_l17 16 u 0 (by omega) (by omega) (by omega)).v ?_))
    rw [costI, if_pos ⟨by omega, by omega⟩, Int.toNat_natCast, Nat.zero_mul, Nat.zero_add]
    rfl

/-! a choice's cost -/
def un (a : Int) : Nat := (IntKind.u64.wrap a).toNat
theorem un_eq (a : Int) : IntKind.u64.wrap a = (un a : Int) ∧ un a < 18446744073709551616 := by
  unfold un
  rw [IntKind.wrap_u64]
  omega
/-- The cost of a number for a key, plainly. -/
def dc (key : Nat) (id : Int) : Int := costI (1 + ((Mixn.fold key [un id] / 281474976710656 : Nat) : Int))
theorem dc_bound (key : Nat) (id : Int) : 0 ≤ dc key id ∧ dc key id ≤ 1179648 := by
  unfold dc costI
  split
  · exact ⟨by omega, by have := Negn.cost_le (1 + ((Mixn.fold key [un id] / 281474976710656 : Nat) : Int)).toNat; omega⟩
  · omega
theorem fold_lt (key : Nat) (n : Nat) : Mixn.fold key [n] < 18446744073709551616 := by
  unfold Mixn.fold
  rw [List.foldl_cons, List.foldl_nil]
  exact Mixn.step_lt _ _
theorem dcost (key : Nat) (hkey : key < 18446744073709551616) (id : Int) : Ev (fun k => draw_Cost.f k (key : Int) id) (dc key id) := by
  have hlt := fold_lt key (un id)
  have h1 := fold key hkey [un id] (fun x hx => by rw [List.mem_singleton.1 hx]; exact (un_eq id).2) (by simp)
  unfold draw_Cost.f
  rw [(un_eq id).1]
  refine .b h1 ?_
  have e : ((Mixn.fold key [un id] : Nat) : Int).fdiv 281474976710656 = ((Mixn.fold key [un id] / 281474976710656 : Nat) : Int) := by rw [Int.fdiv_eq_ediv_of_nonneg _ (by omega)]; omega
  rw [e, w64_of (n := ((Mixn.fold key [un id] / 281474976710656 : Nat) : Int)) (by omega) (by omega), w64_of (by omega) (by omega)]
  exact .b (cost _) (.c _)
theorem nin (x : Int) : neglog_in.f x = some (decide (0 ≤ x ∧ x ≤ 2147483647)) := by
  unfold neglog_in.f
  by_cases h : x ≥ 0
  · rw [if_pos h]
    congr 1
    rw [decide_eq_decide]
    omega
  · rw [if_neg h, decide_eq_false (by omega)]
theorem prod_le {a b : Int} (h0 : 0 ≤ a) (h1 : a ≤ 1179648) (h2 : 0 ≤ b) (h3 : b ≤ 65536) : w64 (a * b) = a * b := by
  have h4 : 0 ≤ a * b := Int.mul_nonneg h0 h2
  have h5 : a * b ≤ 1179648 * 65536 := Int.mul_le_mul h1 h3 h2 (by omega)
  generalize a * b = p at h4 h5 ⊢
  exact w64_of (by omega) (by omega)
theorem better {a b c d : Int} (ha : 0 ≤ a ∧ a ≤ 1179648) (hb : 1 ≤ b ∧ b ≤ 65536) (hc : 0 ≤ c ∧ c ≤ 1179648) (hd : 1 ≤ d ∧ d ≤ 65536) : neglog_Better.f a b c d = some (decide (a * d < c * b)) := by
  unfold neglog_Better.f
  rw [nin, nin, nin, nin, decide_eq_true (show 0 ≤ a ∧ a ≤ 2147483647 by omega), decide_eq_true (show 0 ≤ b ∧ b ≤ 2147483647 by omega), decide_eq_true (show 0 ≤ c ∧ c ≤ 2147483647 by omega), decide_eq_true (show 0 ≤ d ∧ d ≤ 2147483647 by omega)]
  simp only [Option.bind_some, if_true]
  rw [if_pos (by omega), if_pos (by omega), prod_le ha.1 ha.2 (by omega) hd.2, prod_le hc.1 hc.2 (by omega) hb.2]
/-- The order's answer, plainly. -/
def cmpD (key : Nat) (x y : T_api_Choice) : Int := if dc key x.f0 * y.f1 < dc key y.f0 * x.f1 then -1 else if dc key y.f0 * x.f1 < dc key x.f0 * y.f1 then 1 else x.f0 - y.f0
def fineC (x : T_api_Choice) : Prop := (0 ≤ x.f0 ∧ x.f0 ≤ 2147483647) ∧ 1 ≤ x.f1 ∧ x.f1 ≤ 65536
theorem compare (key : Nat) (hkey : key < 18446744073709551616) (x y : T_api_Choice) (hx : fineC x) (hy : fineC y) : Ev (fun k => draw_compare.f k (key : Int) x y) (cmpD key x y) := by
  unfold draw_compare.f cmpD
  refine .b (dcost key hkey _) (.b (dcost key hkey _) ?_)
  have bx := dc_bound key x.f0
  have bY := dc_bound key y.f0
  have e1 := better bx hx.2 bY hy.2
  have e2 := better bY hy.2 bx hx.2
  have hx1 := hx.1
  have hy1 := hy.1
  refine .b0 e1 ?_
  by_cases h1 : dc key x.f0 * y.f1 < dc key y.f0 * x.f1
  · rw [if_pos h1]
    exact .t (decide_eq_true h1) (.c _)
  · rw [if_neg h1]
    refine .n (by simpa using h1) (.b0 e2 ?_)
    by_cases h2 : dc key y.f0 * x.f1 < dc key x.f0 * y.f1
    · rw [if_pos h2]
      exact .t (decide_eq_true h2) (.c _)
    · rw [if_neg h2]
      exact .n (by simpa using h2) (.cv (w64_of (by omega) (by omega)))

/-! the order tells any two choices apart -/
theorem cross_le {a b c d e f : Int} (hb : 0 < b) (hd : 0 < d) (hf : 0 < f) (h1 : a * d ≤ c * b) (h2 : c * f ≤ e * d) : a * f ≤ e * b := by
  have h3 := Int.mul_le_mul_of_nonneg_right h1 (Int.le_of_lt hf)
  have h4 := Int.mul_le_mul_of_nonneg_right h2 (Int.le_of_lt hb)
  refine Int.le_of_mul_le_mul_right (a := d) ?_ hd
  rw [Int.mul_right_comm a f d, Int.mul_right_comm e b d]
  rw [Int.mul_right_comm c b f] at h3
  exact Int.le_trans h3 h4
theorem cross_lt_left {a b c d e f : Int} (hb : 0 < b) (hd : 0 < d) (hf : 0 < f) (h1 : a * d < c * b) (h2 : c * f ≤ e * d) : a * f < e * b := by
  have h3 := Int.mul_lt_mul_of_pos_right h1 hf
  have h4 := Int.mul_le_mul_of_nonneg_right h2 (Int.le_of_lt hb)
  refine Int.lt_of_mul_lt_mul_right (a := d) ?_ (Int.le_of_lt hd)
  rw [Int.mul_right_comm a f d, Int.mul_right_comm e b d]
  rw [Int.mul_right_comm c b f] at h3
  exact Int.lt_of_lt_of_le h3 h4
theorem cross_lt_right {a b c d e f : Int} (hb : 0 < b) (hd : 0 < d) (hf : 0 < f) (h1 : a * d ≤ c * b) (h2 : c * f < e * d) : a * f < e * b := by
  have h3 := Int.mul_le_mul_of_nonneg_right h1 (Int.le_of_lt hf)
  have h4 := Int.mul_lt_mul_of_pos_right h2 hb
  refine Int.lt_of_mul_lt_mul_right (a := d) ?_ (Int.le_of_lt hd)
  rw [Int.mul_right_comm a f d, Int.mul_right_comm e b d]
  rw [Int.mul_right_comm c b f] at h3
  exact Int.lt_of_le_of_lt h3 h4
def ltD (key : Nat) (x y : T_api_Choice) : Prop := dc key x.f0 * y.f1 < dc key y.f0 * x.f1 ∨ (dc key x.f0 * y.f1 ≤ dc key y.f0 * x.f1 ∧ x.f0 < y.f0)
theorem cmpD_lt (key : Nat) (x y : T_api_Choice) : cmpD key x y < 0 ↔ ltD key x y := by
  unfold cmpD ltD
  generalize dc key x.f0 * y.f1 = a
  generalize dc key y.f0 * x.f1 = b
  by_cases h1 : a < b
  · rw [if_pos h1]
    exact ⟨fun _ => .inl h1, fun _ => by omega⟩
  · rw [if_neg h1]
    by_cases h2 : b < a
    · rw [if_pos h2]
      exact ⟨fun h => by omega, fun h => by omega⟩
    · rw [if_neg h2]
      exact ⟨fun h => .inr ⟨by omega, by omega⟩, fun h => by omega⟩
theorem ltD_irrefl (key : Nat) (x : T_api_Choice) : ¬ ltD key x x := fun h => by
  unfold ltD at h
  omega
theorem ltD_trans {key : Nat} {x y z : T_api_Choice} (hx : fineC x) (hy : fineC y) (hz : fineC z) (h1 : ltD key x y) (h2 : ltD key y z) : ltD key x z := by
  have b1 : 0 < x.f1 := by have := hx.2; omega
  have b2 : 0 < y.f1 := by have := hy.2; omega
  have b3 : 0 < z.f1 := by have := hz.2; omega
  rcases h1 with h1 | ⟨h1, i1⟩
  · rcases h2 with h2 | ⟨h2, i2⟩
    · exact .inl (cross_lt_left b1 b2 b3 h1 (Int.le_of_lt h2))
    · exact .inl (cross_lt_left b1 b2 b3 h1 h2)
  · rcases h2 with h2 | ⟨h2, i2⟩
    · exact .inl (cross_lt_right b1 b2 b3 h1 h2)
    · exact .inr ⟨cross_le b1 b2 b3 h1 h2, Int.lt_trans i1 i2⟩
theorem ltD_total (key : Nat) (x y : T_api_Choice) (h : x.f0 ≠ y.f0) : ltD key x y ∨ ltD key y x := by
  unfold ltD
  omega
theorem ev_all {α β : Type} (f : Nat → α → Option β) (v : α → β) : ∀ l : List α, (∀ x ∈ l, Ev (fun k => f k x) (v x)) → ∃ K, ∀ k, K ≤ k → ∀ x ∈ l, f k x = some (v x)
  | [], _ => ⟨0, fun _ _ _ h => nomatch h⟩
  | x :: l, h => by
    obtain ⟨K, hK⟩ := h x List.mem_cons_self
    obtain ⟨L, hL⟩ := ev_all f v l (fun y m => h y (List.mem_cons_of_mem _ m))
    refine ⟨K + L, fun k hk y hy => ?_⟩
    rcases List.mem_cons.1 hy with rfl | hy
    · exact hK k (by omega)
    · exact hL k (by omega) y hy
/-- Choices that may be drawn, no two of one number. -/
def fineL (l : List T_api_Choice) : Prop := (∀ x ∈ l, fineC x) ∧ ∀ x ∈ l, ∀ y ∈ l, x.f0 = y.f0 → x = y
instance (key : Nat) (x y : T_api_Choice) : Decidable (ltD key x y) := inferInstanceAs (Decidable (_ ∨ _))
def ltB (key : Nat) (x y : T_api_Choice) : Bool := decide (ltD key x y)
theorem insertL_congr {α : Type} (f g : α → α → Bool) (x : α) : ∀ l : List α, (∀ y ∈ l, f x y = g x y) → insertL f x l = insertL g x l
  | [], _ => rfl
  | y :: r, h => by
    rw [insertL, insertL, h y List.mem_cons_self, insertL_congr f g x r (fun z m => h z (List.mem_cons_of_mem _ m))]
theorem sortL_congr {α : Type} (f g : α → α → Bool) : ∀ l : List α, (∀ x ∈ l, ∀ y ∈ l, f x y = g x y) → sortL f l = sortL g l
  | [], _ => rfl
  | x :: r, h => by
    have ih := sortL_congr f g r (fun a ha b hb => h a (List.mem_cons_of_mem _ ha) b (List.mem_cons_of_mem _ hb))
    rw [sortL, sortL, ih]
    exact insertL_congr f g x _ (fun y hy => h x List.mem_cons_self y (List.mem_cons_of_mem _ ((sortL_mem _ _).1 hy)))
set_option maxHeartbeats 4000000 in
theorem sorts (key : Nat) (hkey : key < 18446744073709551616) (l : List T_api_Choice) (hf : fineL l) (hl : l.length ≤ 1000000) : Ev (fun k => slices_SortFunc__api_Choice_api_Choice_of_draw_Order_2.f k l (key : Int)) (sortL (ltB key) l) := by
  have hc : ∀ p ∈ l.flatMap (fun x => l.map (fun y => (x, y))), Ev (fun k => slices_SortFunc__api_Choice_api_Choice_of_draw_Order_2.cmp k (key : Int) p.1 p.2) (cmpD key p.1 p.2) := by
    intro p hp
    obtain ⟨x, hx, hp⟩ := List.mem_flatMap.1 hp
    obtain ⟨y, hy, rfl⟩ := List.mem_map.1 hp
    unfold slices_SortFunc__api_Choice_api_Choice_of_draw_Order_2.cmp draw_Order_2.f
    exact .b (compare key hkey x y (hf.1 x hx) (hf.1 y hy)) (.c _)
  obtain ⟨K, hK⟩ := ev_all (fun k (p : T_api_Choice × T_api_Choice) => slices_SortFunc__api_Choice_api_Choice_of_draw_Order_2.cmp k (key : Int) p.1 p.2) (fun p => cmpD key p.1 p.2) _ hc
  refine ⟨K, fun k hk => ?_⟩
  have hK : ∀ x ∈ l, ∀ y ∈ l, slices_SortFunc__api_Choice_api_Choice_of_draw_Order_2.cmp k (key : Int) x y = some (cmpD key x y) := by
    intro x hx y hy
    have hm : (x, y) ∈ l.flatMap (fun x => l.map (fun y => (x, y))) := List.mem_flatMap.2 ⟨x, hx, List.mem_map.2 ⟨y, hy, rfl⟩⟩
    have h := hK k hk (x, y) hm
    dsimp only at h
    exact h
  have hlt : ∀ x ∈ l, ∀ y ∈ l, ltO (slices_SortFunc__api_Choice_api_Choice_of_draw_Order_2.cmp k (key : Int)) x y = ltB key x y := by
    intro x hx y hy
    unfold ltO ltB
    rw [hK x hx y hy, Option.getD_some, decide_eq_decide]
    exact cmpD_lt key x y
  have hok : okSort (slices_SortFunc__api_Choice_api_Choice_of_draw_Order_2.cmp k (key : Int)) l = true := ?_
  · show sortO (slices_SortFunc__api_Choice_api_Choice_of_draw_Order_2.cmp k (key : Int)) l = _
    unfold sortO
    rw [if_pos ⟨hok, hl⟩, sortL_congr _ _ l hlt]
  unfold okSort
  simp only [Bool.and_eq_true, List.all_eq_true]
  refine ⟨⟨⟨?_, ?_⟩, ?_⟩, ?_⟩
  · intro x hx y hy
    rw [hK x hx y hy]
    rfl
  · intro x hx
    rw [hlt x hx x hx, ltB, decide_eq_false (ltD_irrefl key x)]
    rfl
  · intro x hx y hy z hz
    rw [hlt x hx y hy, hlt y hy z hz, hlt x hx z hz]
    unfold ltB
    by_cases h1 : ltD key x y
    · by_cases h2 : ltD key y z
      · simp [h1, h2, ltD_trans (hf.1 x hx) (hf.1 y hy) (hf.1 z hz) h1 h2]
      · simp [h1, h2]
    · by_cases h2 : ltD key y z
      · simp [h1, h2]
      · have h3 : ¬ ltD key x z := by
          intro h3
          by_cases hxy : x.f0 = y.f0
          · exact h2 (hf.2 x hx y hy hxy ▸ h3)
          · rcases ltD_total key x y hxy with h | h
            · exact h1 h
            · exact h2 (ltD_trans (hf.1 y hy) (hf.1 x hx) (hf.1 z hz) h h3)
        simp [h1, h2, h3]
  · intro x hx y hy
    rw [hlt x hx y hy, hlt y hy x hx]
    unfold ltB
    by_cases hxy : x.f0 = y.f0
    · simp [hf.2 x hx y hy hxy]
    · rcases ltD_total key x y hxy with h | h
      · simp [h]
      · simp [h]

/-! choices that may be, rising -/
structure Chs (l : List T_api_Choice) : Prop where
  len : l.length ≤ 64
  ok : ∀ x ∈ l, (0 ≤ x.f0 ∧ x.f0 ≤ 2147483647) ∧ 0 ≤ x.f1 ∧ x.f1 ≤ 65536
  up : l.Pairwise (fun x y => x.f0 < y.f0)
theorem dcheck_l9 (l : List T_api_Choice) (h : Chs l) : ∀ (d i : Nat), i + d = l.length → Ev (fun k => draw_Check.l9 k l (i : Int)) 0 := by
  have hl := h.len
  intro d
  induction d with
  | zero => exact fun i hi => .s (fun k => draw_Check.l9_s k _ _) (.n (by omega) (.c _))
  | succ d ih =>
    intro i hi
    have h1 : i < l.length := by omega
    have hok := h.ok _ (List.getElem_mem h1)
    have hj : Ev (fun k => draw_Check.j37 k l (i : Int) false) 0 := by
      refine .s (fun k => draw_Check.j37_s k _ _ _) (.n (by decide) ?_)
      rw [w64n i (by omega)]
      exact ih (i + 1) (by omega)
    refine .s (fun k => draw_Check.l9_s k _ _) (.t (by omega) (.t (by omega) ?_))
    rw [nth_get _ _ _ h1]
    refine .n (by omega) (.n (by omega) (.n (by omega) (.n (by omega) (.i (fun h0 => ?_) (fun _ => hj)))))
    rw [w64p i (by omega) (by omega)]
    refine .t (by omega) ?_
    rw [nth_get _ _ _ (by omega), decide_eq_false]
    · exact hj
    · have := List.pairwise_iff_getElem.1 h.up (i - 1) i (by omega) h1 (by omega)
      omega
theorem dcheck (l : List T_api_Choice) (h : Chs l) : Ev (fun k => draw_Check.f k l) 0 := by
  have hl := h.len
  unfold draw_Check.f
  exact .n (by omega) (dcheck_l9 l h l.length 0 (by omega))
/-- Those that weigh something. -/
def heavy (l : List T_api_Choice) : List T_api_Choice := l.filter (fun x => !(x.f1 == 0))
theorem heavy_fine {l : List T_api_Choice} (h : Chs l) : fineL (heavy l) := by
  refine ⟨fun x hx => ?_, fun x hx y hy e => ?_⟩
  · obtain ⟨h1, h2⟩ := List.mem_filter.1 hx
    have := h.ok x h1
    have h3 : x.f1 ≠ 0 := by simpa using h2
    exact ⟨this.1, by omega, this.2.2⟩
  · have hx := (List.mem_filter.1 hx).1
    have hy := (List.mem_filter.1 hy).1
    obtain ⟨i, hi, rfl⟩ := List.getElem_of_mem hx
    obtain ⟨j, hj, rfl⟩ := List.getElem_of_mem hy
    have hup := List.pairwise_iff_getElem.1 h.up
    rcases Nat.lt_trichotomy i j with c | c | c
    · have := hup i j hi hj c
      omega
    · subst c; rfl
    · have := hup j i hj hi c
      omega
theorem index0 (l : List T_api_Choice) (hl : l.length ≤ 64) : ∀ (d i : Nat), i + d = l.length → heavy (l.take i) = l.take i → (heavy l = l ∧ Ev (fun k => slices_IndexFunc__api_Choice_api_Choice_of_draw_Order_1.l5 k l (i : Int)) (-1)) ∨ ∃ n : Nat, n < l.length ∧ heavy (l.take n) = l.take n ∧ (∀ h : n < l.length, l[n].f1 = 0) ∧ Ev (fun k => slices_IndexFunc__api_Choice_api_Choice_of_draw_Order_1.l5 k l (i : Int)) (n : Int) := by
  intro d
  induction d with
  | zero =>
    intro i hi ht
    rw [List.take_of_length_le (by omega)] at ht
    exact .inl ⟨ht, .s (fun k => slices_IndexFunc__api_Choice_api_Choice_of_draw_Order_1.l5_s k _ _) (.n (by omega) (.c _))⟩
  | succ d ih =>
    intro i hi ht
    have h1 : i < l.length := by omega
    by_cases h0 : l[i].f1 = 0
    · refine .inr ⟨i, h1, ht, fun _ => h0, .s (fun k => slices_IndexFunc__api_Choice_api_Choice_of_draw_Order_1.l5_s k _ _) (.t (by omega) (.t (by omega) ?_))⟩
      rw [nth_get _ _ _ h1]
      exact .b0 (a := true) (congrArg some (by simpa using h0)) (.t rfl (.c _))
    · have hs : Ev (fun k => slices_IndexFunc__api_Choice_api_Choice_of_draw_Order_1.l5 k l ((i + 1 : Nat) : Int)) = fun v => Ev (fun k => slices_IndexFunc__api_Choice_api_Choice_of_draw_Order_1.l5 k l ((i + 1 : Nat) : Int)) v := rfl
      have go : ∀ v, Ev (fun k => slices_IndexFunc__api_Choice_api_Choice_of_draw_Order_1.l5 k l ((i + 1 : Nat) : Int)) v → Ev (fun k => slices_IndexFunc__api_Choice_api_Choice_of_draw_Order_1.l5 k l (i : Int)) v := by
        intro v hv
        refine .s (fun k => slices_IndexFunc__api_Choice_api_Choice_of_draw_Order_1.l5_s k _ _) (.t (by omega) (.t (by omega) ?_))
        rw [nth_get _ _ _ h1, w64n i (by omega)]
        exact .b0 (a := false) (congrArg some (by simpa using h0)) (.n (by decide) hv)
      have ht' : heavy (l.take (i + 1)) = l.take (i + 1) := by
        rw [List.take_add_one, List.getElem?_eq_getElem h1, Option.toList_some]
        unfold heavy at ht ⊢
        rw [List.filter_append, ht]
        simp [h0]
      rcases ih (i + 1) (by omega) ht' with ⟨a, b⟩ | ⟨n, a, b, c, e⟩
      · exact .inl ⟨a, go _ b⟩
      · exact .inr ⟨n, a, b, c, go _ e⟩
theorem delete_l15 (l : List T_api_Choice) (hl : l.length ≤ 64) : ∀ (d i n : Nat) (q : List T_api_Choice), i + d = l.length → n < i → q.length = l.length → q.take n = heavy (l.take i) → q.drop i = l.drop i → Ev (fun k => slices_DeleteFunc__api_Choice_api_Choice_of_draw_Order_1.l15 k l q (n : Int) (i : Int)) (heavy l) := by
  intro d
  induction d with
  | zero =>
    intro i n q hi hn hq ht hd
    refine .s (fun k => slices_DeleteFunc__api_Choice_api_Choice_of_draw_Order_1.l15_s k _ _ _ _) (.n (by omega) (.t (by omega) (.cv ?_)))
    rw [List.take_of_length_le (by omega : l.length ≤ i)] at ht
    rw [← ht]
    have hlen : (q.take n).length = n := by rw [List.length_take]; omega
    simp only [cutl, Int.toNat_natCast, Int.toNat_zero, List.drop_zero]
    rw [List.take_append_of_le_length (by omega), List.take_of_length_le (by omega)]
  | succ d ih =>
    intro i n q hi hn hq ht hd
    have h1 : i < l.length := by omega
    have h2 : i < q.length := by omega
    have hd2 : q[i] = l[i] ∧ q.drop (i + 1) = l.drop (i + 1) := by
      rw [List.drop_eq_getElem_cons h1, List.drop_eq_getElem_cons h2] at hd
      exact ⟨(List.cons.inj hd).1, (List.cons.inj hd).2⟩
    have hh : heavy (l.take (i + 1)) = heavy (l.take i) ++ (if l[i].f1 = 0 then [] else [l[i]]) := by
      rw [List.take_add_one, List.getElem?_eq_getElem h1, Option.toList_some]
      unfold heavy
      rw [List.filter_append]
      by_cases c : l[i].f1 = 0
      · simp [c]
      · simp [c]
    refine .s (fun k => slices_DeleteFunc__api_Choice_api_Choice_of_draw_Order_1.l15_s k _ _ _ _) (.t (by omega) (.t (by omega) ?_))
    rw [nth_get _ _ _ h2, hd2.1, w64n i (by omega), w64n n (by omega)]
    by_cases h0 : l[i].f1 = 0
    · refine .b0 (a := true) (congrArg some (by simpa using h0)) (.t rfl (ih (i + 1) n q (by omega) (by omega) hq ?_ hd2.2))
      rw [hh, if_pos h0, List.append_nil, ht]
    · refine .b0 (a := false) (congrArg some (by simpa using h0)) (.n (by decide) (.t (by omega) (ih (i + 1) (n + 1) _ (by omega) (by omega) (by rw [List.length_set]; exact hq) ?_ ?_)))
      · rw [hh, if_neg h0, ← ht, Int.toNat_natCast, List.take_add_one, List.take_set_of_le (by omega), List.getElem?_set_self (by omega)]
        rfl
      · rw [Int.toNat_natCast, List.drop_set_of_lt (by omega)]
        exact hd2.2
theorem delete (l : List T_api_Choice) (hl : l.length ≤ 64) : Ev (fun k => slices_DeleteFunc__api_Choice_api_Choice_of_draw_Order_1.f k l) (heavy l) := by
  unfold slices_DeleteFunc__api_Choice_api_Choice_of_draw_Order_1.f slices_IndexFunc__api_Choice_api_Choice_of_draw_Order_1.f
  rcases index0 l hl l.length 0 (by omega) rfl with ⟨a, b⟩ | ⟨n, a, b, c, e⟩
  · exact .b b (.t rfl (.cv a.symm))
  · refine .b e (.n (by omega) ?_)
    rw [w64n n (by omega)]
    refine delete_l15 l hl (l.length - (n + 1)) (n + 1) n l (by omega) (by omega) rfl ?_ rfl
    rw [List.take_add_one, List.getElem?_eq_getElem a, Option.toList_some, ← b]
    unfold heavy
    rw [List.filter_append, List.filter_filter]
    simp [c a]
/-- The draw's order, plainly. -/
def ord (key : Nat) (l : List T_api_Choice) : List T_api_Choice := sortL (ltB key) (heavy l)
theorem order_l44 (t22 t33 : List T_api_Choice) (he : t33.length = t22.length) (hl : t22.length ≤ 64) : ∀ (d i : Nat), i + d = t22.length → Ev (fun k => draw_Order.l44 k t22 t33 ((t33.take i).map (fun x => x.f0)) (i : Int)) (t33.map (fun x => x.f0)) := by
  intro d
  induction d with
  | zero =>
    intro i hi
    refine .s (fun k => draw_Order.l44_s k _ _ _ _) (.n (by omega) (.cv ?_))
    rw [List.take_of_length_le (by omega)]
  | succ d ih =>
    intro i hi
    have h1 : i < t33.length := by omega
    refine .s (fun k => draw_Order.l44_s k _ _ _ _) (.t (by omega) (.t (by omega) (.t (by rw [List.length_map, List.length_take]; omega) ?_)))
    rw [nth_get _ _ _ h1, w64n i (by omega)]
    have ih := ih (i + 1) (by omega)
    rw [List.take_add_one, List.getElem?_eq_getElem h1, Option.toList_some, List.map_append] at ih
    exact ih
theorem order (key : Nat) (hkey : key < 18446744073709551616) (l : List T_api_Choice) (h : Chs l) : Ev (fun k => draw_Order.f k (key : Int) l) ((ord key l).map (fun x => x.f0)) := by
  have hl := h.len
  have hh : (heavy l).length ≤ l.length := List.length_filter_le _ _
  unfold draw_Order.f
  refine .b (dcheck l h) (.t rfl (.b0 (a := l) ?_ (.b (delete l hl) (.b (sorts key hkey _ (heavy_fine h) (by omega)) ?_))))
  · unfold slices_Clone__api_Choice_api_Choice.f
    rw [if_pos]
    · rfl
    · simp only [List.length_nil]
      omega
  · exact order_l44 _ _ (sortL_length _ _) (by omega) (heavy l).length 0 (by omega)

/-! the document's draw -/
def isBest (key : Nat) (l : List T_api_Choice) (m : T_api_Choice) : Prop := m ∈ heavy l ∧ ∀ y ∈ heavy l, y = m ∨ ltD key m y
theorem heavy_snoc (l : List T_api_Choice) (x : T_api_Choice) : heavy (l ++ [x]) = heavy l ++ (if x.f1 = 0 then [] else [x]) := by
  unfold heavy
  rw [List.filter_append]
  by_cases c : x.f1 = 0
  · simp [c]
  · simp [c]
theorem heavy_take (l : List T_api_Choice) (i : Nat) (h : i < l.length) : heavy (l.take (i + 1)) = heavy (l.take i) ++ (if l[i].f1 = 0 then [] else [l[i]]) := by
  rw [List.take_add_one, List.getElem?_eq_getElem h, Option.toList_some, heavy_snoc]

/-! the document's order is the draw's -/
theorem heavy_filter (l : List T_api_Choice) (p : T_api_Choice → Bool) : heavy (l.filter p) = (heavy l).filter p := by
  unfold heavy
  rw [List.filter_filter, List.filter_filter]
  congr 1
  funext x
  exact Bool.and_comm _ _
theorem split_id : ∀ (l : List T_api_Choice) (m : T_api_Choice), l.Pairwise (fun x y => x.f0 < y.f0) → m ∈ l → l.Perm (m :: l.filter (fun x => !(x.f0 == m.f0)))
  | [], _, _, h => nomatch h
  | x :: r, m, hp, h => by
    obtain ⟨h1, h2⟩ := List.pairwise_cons.1 hp
    rcases List.mem_cons.1 h with rfl | h
    · rw [List.filter_cons_of_neg (by simp)]
      have e : r.filter (fun x => !(x.f0 == m.f0)) = r := List.filter_eq_self.2 (fun y hy => by have := h1 y hy; simp; omega)
      rw [e]
    · have hlt := h1 m h
      rw [List.filter_cons_of_pos (by simp; omega)]
      exact ((split_id r m h2 h).cons x).trans (List.Perm.swap m x _)
theorem heavy_up {l : List T_api_Choice} (h : Chs l) : (heavy l).Pairwise (fun x y => x.f0 < y.f0) := h.up.filter _
theorem ltB_sw (key : Nat) (l : List T_api_Choice) (hf : fineL l) : SWOn (fun x => x ∈ l) (ltB key) := by
  refine ⟨fun x hx => decide_eq_false (ltD_irrefl key x), fun x y z hx hy hz h1 h2 => decide_eq_true (ltD_trans (hf.1 x hx) (hf.1 y hy) (hf.1 z hz) (of_decide_eq_true h1) (of_decide_eq_true h2)), fun x y z hx hy hz h1 h2 => decide_eq_false (fun h3 => ?_)⟩
  have h1 := of_decide_eq_false h1
  have h2 := of_decide_eq_false h2
  by_cases hxy : x.f0 = y.f0
  · exact h2 (hf.2 x hx y hy hxy ▸ h3)
  · rcases ltD_total key x y hxy with h | h
    · exact h1 h
    · exact h2 (ltD_trans (hf.1 y hy) (hf.1 x hx) (hf.1 z hz) h h3)
theorem best_first (key : Nat) {l : List T_api_Choice} (h : Chs l) {m : T_api_Choice} (hb : isBest key l m) : ord key l = m :: ord key (l.filter (fun x => !(x.f0 == m.f0))) := by
  have hf := heavy_fine h
  unfold ord
  rw [heavy_filter]
  have hp := split_id (heavy l) m (heavy_up h) hb.1
  have hsub : ∀ y ∈ (heavy l).filter (fun x => !(x.f0 == m.f0)), y ∈ heavy l := fun y hy => (List.mem_filter.1 hy).1
  refine List.Perm.eq_of_pairwise (le := fun a b => ltB key b a = false) ?_ (sortL_sorted (ltB_sw key _ hf) _ (fun y hy => hy)) (List.pairwise_cons.2 ⟨fun y hy => ?_, ?_⟩) ?_
  · intro a b ha hb' h1 h2
    have ha : a ∈ heavy l := (sortL_mem _ _).1 ha
    have hb2 : b ∈ heavy l := by
      rcases List.mem_cons.1 hb' with rfl | hb'
      · exact hb.1
      · exact hsub _ ((sortL_mem _ _).1 hb')
    by_cases e : a.f0 = b.f0
    · exact hf.2 a ha b hb2 e
    · rcases ltD_total key a b e with c | c
      · exact absurd c (of_decide_eq_false h2)
      · exact absurd c (of_decide_eq_false h1)
  · have hy := hsub _ ((sortL_mem _ _).1 hy)
    refine decide_eq_false (fun c => ?_)
    rcases hb.2 y hy with rfl | d
    · exact ltD_irrefl key _ c
    · exact ltD_irrefl key _ (ltD_trans (hf.1 m hb.1) (hf.1 y hy) (hf.1 m hb.1) d c)
  · exact sortL_sorted (ltB_sw key _ hf) _ hsub
  · exact (sortL_perm _ _).trans (hp.trans ((sortL_perm _ _).symm.cons m))
theorem Chs.filter {l : List T_api_Choice} (h : Chs l) (p : T_api_Choice → Bool) : Chs (l.filter p) :=
  ⟨Nat.le_trans (List.length_filter_le _ _) h.len, fun x hx => h.ok x (List.mem_filter.1 hx).1, h.up.filter _⟩

end Draw
namespace Topo
/-! what nodes weigh, by what they are of -/
def weight (n : T_api_Node) : Int := if n.f5 = true then n.f3 else 0
def addW (id w : Int) : List T_api_Choice → List T_api_Choice
  | [] => [⟨id, w⟩]
  | c :: r => if c.f0 < id then c :: addW id w r else if c.f0 = id then ⟨id, if c.f1 + w < 65536 then c.f1 + w else 65536⟩ :: r else ⟨id, w⟩ :: c :: r
def wOne (is : T_api_Node → Bool) (of : T_api_Node → Int) (v : List T_api_Choice) (n : T_api_Node) : List T_api_Choice := if is n = true then addW (of n) (weight n) v else v
def wL (is : T_api_Node → Bool) (of : T_api_Node → Int) (l : List T_api_Node) : List T_api_Choice := l.foldl (wOne is of) []
def posn (id : Int) : List T_api_Choice → Nat
  | [] => 0
  | c :: r => if c.f0 < id then posn id r + 1 else 0
theorem posn_le (id : Int) : ∀ l : List T_api_Choice, posn id l ≤ l.length
  | [] => Nat.le_refl _
  | c :: r => by
    unfold posn
    have := posn_le id r
    rw [List.length_cons]
    split <;> omega
theorem posn_lt (id : Int) : ∀ (l : List T_api_Choice) (i : Nat) (h : i < l.length), i < posn id l → l[i].f0 < id
  | [], _, h, _ => nomatch h
  | c :: r, i, h, hi => by
    unfold posn at hi
    split at hi
    · cases i with
      | zero => assumption
      | succ i => exact posn_lt id r i (by simpa using h) (by omega)
    · omega
theorem posn_ge (id : Int) : ∀ (l : List T_api_Choice), l.Pairwise (fun x y => x.f0 < y.f0) → ∀ (i : Nat) (h : i < l.length), posn id l ≤ i → id ≤ l[i].f0
  | [], _, _, h, _ => nomatch h
  | c :: r, hp, i, h, hi => by
    obtain ⟨h1, h2⟩ := List.pairwise_cons.1 hp
    unfold posn at hi
    split at hi
    · cases i with
      | zero => omega
      | succ i => exact posn_ge id r h2 i (by simpa using h) (by omega)
    · cases i with
      | zero => rename_i hc; exact Int.not_lt.1 hc
      | succ i =>
        rename_i hc
        have hr : i < r.length := by simpa using h
        have := h1 _ (List.getElem_mem hr)
        show id ≤ r[i].f0
        omega
theorem cmpi (a b : Int) : cmp_Compare_int.f a b = some (if a < b then -1 else if a > b then 1 else 0) := by
  unfold cmp_Compare_int.f cmp_isNaN_int.f
  simp only [beq_self_eq_true, Bool.not_true, Option.bind_some, Bool.false_eq_true, if_false]
  by_cases h : a < b
  · rw [if_pos h, if_pos h]
  · rw [if_neg h, if_neg h]
    by_cases h2 : a > b
    · rw [if_pos h2, if_pos h2]
    · rw [if_neg h2, if_neg h2]
theorem mid (a b : Nat) (h : a + b < 4611686018427387904) : w64 ((IntKind.u64.wrap (w64 ((a : Int) + b))).fdiv 2) = ((a + b) / 2 : Nat) := by
  have e : w64 ((a : Int) + b) = ((a + b : Nat) : Int) := by rw [w64_of (by omega) (by omega)]; omega
  have e2 : IntKind.u64.wrap ((a + b : Nat) : Int) = ((a + b : Nat) : Int) := by rw [IntKind.wrap_u64]; omega
  rw [e, e2, Int.fdiv_eq_ediv_of_nonneg _ (by omega), w64_of (by omega) (by omega)]
  omega
theorem search_l7 (l : List T_api_Choice) (id : Int) (hl : l.length < 1000000) (hp : l.Pairwise (fun x y => x.f0 < y.f0)) : ∀ (d a b : Nat), b - a ≤ d → a ≤ posn id l → posn id l ≤ b → b ≤ l.length → Ev (fun k => slices_BinarySearchFunc__api_Choice_api_Choice_int_of_topo_weigh_1.l7 k l id (a : Int) (b : Int)) ((posn id l : Int), match l[posn id l]? with
    | some c => c.f0 == id
    | none => false) := by
  intro d
  induction d with
  | zero =>
    intro a b hd h1 h2 h3
    obtain rfl : a = b := by omega
    obtain rfl : a = posn id l := by omega
    refine .s (fun k => slices_BinarySearchFunc__api_Choice_api_Choice_int_of_topo_weigh_1.l7_s k _ _ _ _) (.n (by omega) ?_)
    by_cases h4 : posn id l < l.length
    · refine .t (by omega) (.t (by omega) ?_)
      rw [nth_get _ _ _ h4, List.getElem?_eq_getElem h4]
      refine .b0 (a := if l[posn id l].f0 < id then -1 else if l[posn id l].f0 > id then 1 else 0) ?_ (.cv ?_)
      · unfold topo_weigh_1.f
        rw [cmpi]
        rfl
      · have := posn_ge id l hp _ h4 (Nat.le_refl _)
        by_cases h5 : l[posn id l].f0 = id
        · simp [h5]
        · rw [if_neg (by omega), if_pos (by omega)]
          simp [h5]
    · rw [List.getElem?_eq_none (by omega)]
      exact .n (by omega) (.c _)
  | succ d ih =>
    intro a b hd h1 h2 h3
    by_cases hab : a < b
    · refine .s (fun k => slices_BinarySearchFunc__api_Choice_api_Choice_int_of_topo_weigh_1.l7_s k _ _ _ _) (.t (by omega) ?_)
      rw [mid a b (by omega)]
      have h4 : (a + b) / 2 < l.length := by omega
      refine .t (by omega) ?_
      rw [nth_get _ _ _ h4]
      refine .b0 (a := if l[(a + b) / 2].f0 < id then -1 else if l[(a + b) / 2].f0 > id then 1 else 0) ?_ ?_
      · unfold topo_weigh_1.f
        rw [cmpi]
        rfl
      · by_cases h5 : l[(a + b) / 2].f0 < id
        · rw [if_pos h5, w64n _ (by omega)]
          refine .t (by decide) (ih _ _ (by omega) ?_ h2 h3)
          rcases Nat.lt_or_ge ((a + b) / 2) (posn id l) with c | c
          · omega
          · have := posn_ge id l hp _ h4 c
            omega
        · rw [if_neg h5]
          refine .n (by split <;> decide) (ih _ _ (by omega) h1 ?_ (by omega))
          rcases Nat.lt_or_ge ((a + b) / 2) (posn id l) with c | c
          · exact absurd (posn_lt id l _ h4 c) h5
          · exact c
    · exact ih a b (by omega) h1 h2 h3
theorem search (l : List T_api_Choice) (id : Int) (hl : l.length < 1000000) (hp : l.Pairwise (fun x y => x.f0 < y.f0)) : Ev (fun k => slices_BinarySearchFunc__api_Choice_api_Choice_int_of_topo_weigh_1.f k l id) ((posn id l : Int), match l[posn id l]? with
    | some c => c.f0 == id
    | none => false) := search_l7 l id hl hp l.length 0 l.length (by omega) (by omega) (posn_le id l) (Nat.le_refl _)
theorem addW_set (id w : Int) : ∀ (l : List T_api_Choice) (h : posn id l < l.length), l[posn id l].f0 = id → addW id w l = l.set (posn id l) ⟨id, if l[posn id l].f1 + w < 65536 then l[posn id l].f1 + w else 65536⟩
  | [], h, _ => nomatch h
  | c :: r, h, he => by
    unfold addW
    by_cases hc : c.f0 < id
    · have e : posn id (c :: r) = posn id r + 1 := by rw [posn, if_pos hc]
      have h' : posn id r < r.length := by rw [e, List.length_cons] at h; omega
      simp only [e, List.getElem_cons_succ] at he
      rw [if_pos hc, addW_set id w r h' he]
      simp only [e, List.set_cons_succ, List.getElem_cons_succ]
    · have e : posn id (c :: r) = 0 := by rw [posn, if_neg hc]
      simp only [e, List.getElem_cons_zero] at he
      rw [if_neg hc, if_pos he]
      simp only [e, List.set_cons_zero, List.getElem_cons_zero]
theorem addW_ins (id w : Int) : ∀ (l : List T_api_Choice), (∀ h : posn id l < l.length, l[posn id l].f0 ≠ id) → addW id w l = l.take (posn id l) ++ ⟨id, w⟩ :: l.drop (posn id l)
  | [], _ => rfl
  | c :: r, he => by
    unfold addW
    by_cases hc : c.f0 < id
    · have e : posn id (c :: r) = posn id r + 1 := by rw [posn, if_pos hc]
      rw [if_pos hc, addW_ins id w r (fun h => by have := he (by rw [e, List.length_cons]; omega); simpa only [e, List.getElem_cons_succ] using this)]
      simp only [e, List.take_succ_cons, List.drop_succ_cons, List.cons_append]
    · have e : posn id (c :: r) = 0 := by rw [posn, if_neg hc]
      have := he (by rw [e, List.length_cons]; omega)
      simp only [e, List.getElem_cons_zero] at this
      rw [if_neg hc, if_neg this]
      simp only [e, List.take_zero, List.drop_zero, List.nil_append]
theorem addW_len (id w : Int) : ∀ l : List T_api_Choice, (addW id w l).length ≤ l.length + 1
  | [] => Nat.le_refl _
  | c :: r => by
    unfold addW
    have := addW_len id w r
    split
    · rw [List.length_cons, List.length_cons]; omega
    · split <;> simp
/-- Where a number stands among choices that rise. -/
theorem addW_mem (id w : Int) : ∀ (l : List T_api_Choice), l.Pairwise (fun x y => x.f0 < y.f0) → ∀ c : T_api_Choice, c ∈ addW id w l ↔ (c ∈ l ∧ c.f0 ≠ id) ∨ (c.f0 = id ∧ ((∃ d ∈ l, d.f0 = id ∧ c.f1 = if d.f1 + w < 65536 then d.f1 + w else 65536) ∨ ((∀ d ∈ l, d.f0 ≠ id) ∧ c.f1 = w)))
  | [], _, c => by
    unfold addW
    rw [List.mem_singleton]
    constructor
    · rintro rfl
      exact .inr ⟨rfl, .inr ⟨(fun _ h => nomatch h), rfl⟩⟩
    · rintro (⟨h, _⟩ | ⟨h, (⟨_, h', _⟩ | ⟨_, h'⟩)⟩)
      · exact nomatch h
      · exact nomatch h'
      · cases c; cases h; cases h'; rfl
  | x :: r, hp, c => by
    obtain ⟨h1, h2⟩ := List.pairwise_cons.1 hp
    unfold addW
    by_cases hx : x.f0 < id
    · rw [if_pos hx, List.mem_cons, addW_mem id w r h2 c, List.mem_cons]
      constructor
      · rintro (rfl | ⟨h, h'⟩ | ⟨h, (⟨d, q1, q2⟩ | ⟨q1, q2⟩)⟩)
        · exact .inl ⟨.inl rfl, by omega⟩
        · exact .inl ⟨.inr h, h'⟩
        · exact .inr ⟨h, .inl ⟨d, List.mem_cons_of_mem _ q1, q2⟩⟩
        · refine .inr ⟨h, .inr ⟨fun d hd => ?_, q2⟩⟩
          rcases List.mem_cons.1 hd with rfl | hd
          · omega
          · exact q1 d hd
      · rintro (⟨h | h, h'⟩ | ⟨h, (⟨d, q1, q2⟩ | ⟨q1, q2⟩)⟩)
        · exact .inl h
        · exact .inr (.inl ⟨h, h'⟩)
        · rcases List.mem_cons.1 q1 with rfl | q1
          · have := q2.1; omega
          · exact .inr (.inr ⟨h, .inl ⟨d, q1, q2⟩⟩)
        · exact .inr (.inr ⟨h, .inr ⟨fun d hd => q1 d (List.mem_cons_of_mem _ hd), q2⟩⟩)
    · rw [if_neg hx]
      by_cases he : x.f0 = id
      · rw [if_pos he, List.mem_cons, List.mem_cons]
        constructor
        · rintro (rfl | h)
          · exact .inr ⟨rfl, .inl ⟨x, List.mem_cons_self, he, rfl⟩⟩
          · exact .inl ⟨.inr h, by have := h1 c h; omega⟩
        · rintro (⟨h | h, h'⟩ | ⟨h, (⟨d, q1, q2, q3⟩ | ⟨q1, q2⟩)⟩)
          · exact absurd (h ▸ he) h'
          · exact .inr h
          · rcases List.mem_cons.1 q1 with rfl | q1
            · left; cases c; cases h; cases q3; rfl
            · have := h1 d q1; omega
          · exact absurd he (q1 x List.mem_cons_self)
      · rw [if_neg he, List.mem_cons]
        constructor
        · rintro (rfl | h)
          · refine .inr ⟨rfl, .inr ⟨fun d hd => ?_, rfl⟩⟩
            rcases List.mem_cons.1 hd with rfl | hd
            · exact he
            · have := h1 d hd; show d.f0 ≠ id; omega
          · refine .inl ⟨h, ?_⟩
            rcases List.mem_cons.1 h with rfl | hd
            · exact he
            · have := h1 c hd; omega
        · rintro (⟨h, h'⟩ | ⟨h, (⟨d, q1, q2, q3⟩ | ⟨q1, q2⟩)⟩)
          · exact .inr h
          · rcases List.mem_cons.1 q1 with rfl | q1
            · exact absurd q2 he
            · have := h1 d q1; omega
          · left; cases c; cases h; cases q2; rfl
theorem addW_ids {id w : Int} {l : List T_api_Choice} {c : T_api_Choice} : ∀ _ : c ∈ addW id w l, c.f0 = id ∨ ∃ d ∈ l, d.f0 = c.f0 := by
  induction l with
  | nil => intro h; rw [addW, List.mem_singleton] at h; exact .inl (h ▸ rfl)
  | cons x r ih =>
    intro h
    unfold addW at h
    split at h
    · rcases List.mem_cons.1 h with rfl | h
      · exact .inr ⟨c, List.mem_cons_self, rfl⟩
      · rcases ih h with e | ⟨d, hd, e⟩
        · exact .inl e
        · exact .inr ⟨d, List.mem_cons_of_mem _ hd, e⟩
    · split at h
      · rcases List.mem_cons.1 h with rfl | h
        · exact .inl rfl
        · exact .inr ⟨c, List.mem_cons_of_mem _ h, rfl⟩
      · rcases List.mem_cons.1 h with rfl | h
        · exact .inl rfl
        · exact .inr ⟨c, h, rfl⟩
theorem addW_up (id w : Int) : ∀ (l : List T_api_Choice), l.Pairwise (fun x y => x.f0 < y.f0) → (addW id w l).Pairwise (fun x y => x.f0 < y.f0)
  | [], _ => List.pairwise_singleton _ _
  | x :: r, hp => by
    obtain ⟨h1, h2⟩ := List.pairwise_cons.1 hp
    unfold addW
    by_cases hx : x.f0 < id
    · rw [if_pos hx]
      refine List.pairwise_cons.2 ⟨fun y hy => ?_, addW_up id w r h2⟩
      rcases addW_ids hy with e | ⟨d, hd, e⟩
      · omega
      · have := h1 d hd; omega
    · rw [if_neg hx]
      by_cases he : x.f0 = id
      · rw [if_pos he]
        exact List.pairwise_cons.2 ⟨fun y hy => by have := h1 y hy; show id < y.f0; omega, h2⟩
      · rw [if_neg he]
        refine List.pairwise_cons.2 ⟨fun y hy => ?_, hp⟩
        show id < y.f0
        rcases List.mem_cons.1 hy with rfl | hy
        · omega
        · have := h1 y hy; omega
/-- What all those of a number weigh. -/
def wSum (is : T_api_Node → Bool) (of : T_api_Node → Int) (l : List T_api_Node) (id : Int) : Int := ((l.filter (fun n => is n && decide (of n = id))).map weight).sum
def wIs (is : T_api_Node → Bool) (of : T_api_Node → Int) (l : List T_api_Node) (id : Int) : Prop := ∃ n ∈ l, is n = true ∧ of n = id
def cap (x : Int) : Int := if x < 65536 then x else 65536
structure WOf (is : T_api_Node → Bool) (of : T_api_Node → Int) (l : List T_api_Node) (v : List T_api_Choice) : Prop where
  up : v.Pairwise (fun x y => x.f0 < y.f0)
  mem : ∀ c, c ∈ v ↔ wIs is of l c.f0 ∧ c.f1 = cap (wSum is of l c.f0)
theorem up_ext {v w : List T_api_Choice} (hv : v.Pairwise (fun x y => x.f0 < y.f0)) (hw : w.Pairwise (fun x y => x.f0 < y.f0)) (h : ∀ c, c ∈ v ↔ c ∈ w) : v = w := by
  have hn : ∀ u : List T_api_Choice, u.Pairwise (fun x y => x.f0 < y.f0) → u.Nodup := fun u hu => hu.imp (fun {a b} hab e => by rw [e] at hab; omega)
  refine List.Perm.eq_of_pairwise (le := fun x y => x.f0 < y.f0) (fun a b _ _ h1 h2 => by omega) hv hw ?_
  exact (List.perm_ext_iff_of_nodup (hn v hv) (hn w hw)).2 h
theorem WOf.eq {is : T_api_Node → Bool} {of : T_api_Node → Int} {l : List T_api_Node} {v w : List T_api_Choice} (hv : WOf is of l v) (hw : WOf is of l w) : v = w :=
  up_ext hv.up hw.up (fun c => (hv.mem c).trans (hw.mem c).symm)
def okW (n : T_api_Node) : Prop := 0 ≤ n.f3 ∧ n.f3 ≤ 65536
theorem weight_ok {n : T_api_Node} (h : okW n) : 0 ≤ weight n ∧ weight n ≤ 65536 := by
  unfold weight okW at *
  split <;> omega
theorem wSum_snoc (is : T_api_Node → Bool) (of : T_api_Node → Int) (l : List T_api_Node) (n : T_api_Node) (id : Int) : wSum is of (l ++ [n]) id = wSum is of l id + if is n = true ∧ of n = id then weight n else 0 := by
  unfold wSum
  rw [List.filter_append, List.map_append, List.sum_append]
  congr 1
  by_cases h1 : is n = true
  · by_cases h2 : of n = id
    · simp [h1, h2]
    · simp [h1, h2]
  · simp [h1]
theorem wSum_ge (is : T_api_Node → Bool) (of : T_api_Node → Int) (l : List T_api_Node) (id : Int) (h : ∀ n ∈ l, okW n) : 0 ≤ wSum is of l id ∧ wSum is of l id ≤ 65536 * l.length := by
  induction l with
  | nil => exact ⟨Int.le_refl _, Int.le_refl _⟩
  | cons n l ih =>
    have ih := ih (fun m hm => h m (List.mem_cons_of_mem _ hm))
    have hw := weight_ok (h n List.mem_cons_self)
    unfold wSum at *
    rw [List.length_cons, List.filter_cons]
    split
    · rw [List.map_cons, List.sum_cons]
      omega
    · omega
theorem wIs_snoc (is : T_api_Node → Bool) (of : T_api_Node → Int) (l : List T_api_Node) (n : T_api_Node) (id : Int) : wIs is of (l ++ [n]) id ↔ wIs is of l id ∨ (is n = true ∧ of n = id) := by
  unfold wIs
  constructor
  · rintro ⟨m, hm, h⟩
    rcases List.mem_append.1 hm with hm | hm
    · exact .inl ⟨m, hm, h⟩
    · rw [List.mem_singleton.1 hm] at h
      exact .inr h
  · rintro (⟨m, hm, h⟩ | h)
    · exact ⟨m, List.mem_append.2 (.inl hm), h⟩
    · exact ⟨n, List.mem_append.2 (.inr (List.mem_singleton.2 rfl)), h⟩
theorem wSum_none {is : T_api_Node → Bool} {of : T_api_Node → Int} {l : List T_api_Node} {id : Int} (h : ¬ wIs is of l id) : wSum is of l id = 0 := by
  unfold wSum
  rw [List.filter_eq_nil_iff.2]
  · rfl
  · intro n hn hc
    rw [Bool.and_eq_true, decide_eq_true_eq] at hc
    exact h ⟨n, hn, hc⟩
theorem WOf.snoc {is : T_api_Node → Bool} {of : T_api_Node → Int} {l : List T_api_Node} {v : List T_api_Choice} {n : T_api_Node} (hv : WOf is of l v) (hl : ∀ n ∈ l, okW n) (hn : okW n) : WOf is of (l ++ [n]) (wOne is of v n) := by
  have hw := weight_ok hn
  unfold wOne
  by_cases hi : is n = true
  · rw [if_pos hi]
    refine ⟨addW_up _ _ _ hv.up, fun c => ?_⟩
    have h0 := wSum_ge is of l c.f0 hl
    rw [addW_mem _ _ _ hv.up, wIs_snoc, wSum_snoc, hv.mem]
    by_cases hc : of n = c.f0
    · rw [if_pos ⟨hi, hc⟩]
      have key : (∃ d ∈ v, d.f0 = of n ∧ c.f1 = if d.f1 + weight n < 65536 then d.f1 + weight n else 65536) ↔ wIs is of l c.f0 ∧ c.f1 = cap (wSum is of l c.f0 + weight n) := by
        have e : ∀ s : Int, 0 ≤ s → (if cap s + weight n < 65536 then cap s + weight n else 65536) = cap (s + weight n) := by
          intro s hs
          unfold cap
          split <;> split <;> (try split) <;> omega
        constructor
        · rintro ⟨d, hd, h1, h2⟩
          obtain ⟨h3, h4⟩ := (hv.mem d).1 hd
          have hdc : d.f0 = c.f0 := h1.trans hc
          rw [hdc] at h3 h4
          rw [h4, e _ h0.1] at h2
          exact ⟨h3, h2⟩
        · rintro ⟨h1, h2⟩
          refine ⟨⟨c.f0, cap (wSum is of l c.f0)⟩, (hv.mem _).2 ⟨h1, rfl⟩, hc.symm, ?_⟩
          show c.f1 = if cap (wSum is of l c.f0) + weight n < 65536 then cap (wSum is of l c.f0) + weight n else 65536
          rw [e _ h0.1]
          exact h2
      have key2 : (∀ d ∈ v, d.f0 ≠ of n) ↔ ¬ wIs is of l c.f0 := by
        constructor
        · intro h h1
          exact h ⟨c.f0, cap (wSum is of l c.f0)⟩ ((hv.mem _).2 ⟨h1, rfl⟩) hc.symm
        · intro h d hd e
          exact h (by have := ((hv.mem d).1 hd).1; rwa [e, hc] at this)
      rw [key, key2]
      constructor
      · rintro (⟨_, h⟩ | ⟨_, (⟨h1, h2⟩ | ⟨h1, h2⟩)⟩)
        · exact absurd hc.symm h
        · exact ⟨.inl h1, h2⟩
        · refine ⟨.inr ⟨hi, hc⟩, ?_⟩
          rw [wSum_none h1, h2]
          unfold cap
          split <;> omega
      · rintro ⟨_, h⟩
        refine .inr ⟨hc.symm, ?_⟩
        by_cases h1 : wIs is of l c.f0
        · exact .inl ⟨h1, h⟩
        · refine .inr ⟨h1, ?_⟩
          rw [wSum_none h1] at h
          unfold cap at h
          rw [h]
          split <;> omega
    · rw [if_neg (fun h => hc h.2), Int.add_zero]
      constructor
      · rintro (⟨h, _⟩ | ⟨h, _⟩)
        · exact ⟨.inl h.1, h.2⟩
        · exact absurd h.symm hc
      · rintro ⟨h | h, h'⟩
        · exact .inl ⟨⟨h, h'⟩, fun e => hc e.symm⟩
        · exact absurd h.2 hc
  · rw [if_neg hi]
    refine ⟨hv.up, fun c => ?_⟩
    rw [hv.mem, wIs_snoc, wSum_snoc, if_neg (fun h => hi h.1), Int.add_zero]
    constructor
    · exact fun h => ⟨.inl h.1, h.2⟩
    · rintro ⟨h | h, h'⟩
      · exact ⟨h, h'⟩
      · exact absurd h.1 hi
theorem WOf.nil (is : T_api_Node → Bool) (of : T_api_Node → Int) : WOf is of [] [] := ⟨List.Pairwise.nil, fun c => ⟨(fun h => nomatch h), (fun h => by obtain ⟨⟨_, h, _⟩, _⟩ := h; exact nomatch h)⟩⟩
theorem wL_take {is : T_api_Node → Bool} {of : T_api_Node → Int} {l : List T_api_Node} (i : Nat) (h : i < l.length) : wL is of (l.take (i + 1)) = wOne is of (wL is of (l.take i)) l[i] := by
  unfold wL
  rw [← List.take_append_getElem h, List.foldl_append]
  rfl
theorem wL_of (is : T_api_Node → Bool) (of : T_api_Node → Int) (l : List T_api_Node) (hl : ∀ n ∈ l, okW n) : ∀ i, i ≤ l.length → WOf is of (l.take i) (wL is of (l.take i)) ∧ (wL is of (l.take i)).length ≤ i := by
  intro i
  induction i with
  | zero => exact fun _ => ⟨.nil _ _, Nat.le_refl _⟩
  | succ i ih =>
    intro hi
    have h1 : i < l.length := by omega
    obtain ⟨ih, hlen⟩ := ih (by omega)
    rw [wL_take i h1]
    refine ⟨?_, ?_⟩
    · rw [← List.take_append_getElem h1]
      exact ih.snoc (fun n hn => hl n (List.mem_of_mem_take hn)) (hl _ (List.getElem_mem h1))
    · unfold wOne
      have := addW_len (of l[i]) (weight l[i]) (wL is of (l.take i))
      split <;> omega

/-- The program's weighing, whatever it weighs by. -/
theorem weigh_gen {isO : T_api_Node → Option Bool} {ofO : T_api_Node → Option Int} {is : T_api_Node → Bool} {of : T_api_Node → Int} (his : ∀ n, isO n = some (is n)) (hof : ∀ n, ofO n = some (of n)) (l : List T_api_Node)
    (L : Nat → List T_api_Choice → Int → Option (List T_api_Choice)) (J : Nat → Int → Int × Bool → List T_api_Choice → Option (List T_api_Choice))
    (hL : ∀ k acc x, L (k + 1) acc x = (if x < (l.length : Int) then (if 0 ≤ x ∧ x < (l.length : Int) then ((isO (⟨(nth T_api_Node.z l x).f0, (nth T_api_Node.z l x).f1, (nth T_api_Node.z l x).f2, (nth T_api_Node.z l x).f3, (nth T_api_Node.z l x).f4, (nth T_api_Node.z l x).f5⟩ : T_api_Node)).bind fun t39 => (if t39 = true then ((ofO (⟨(nth T_api_Node.z l x).f0, (nth T_api_Node.z l x).f1, (nth T_api_Node.z l x).f2, (nth T_api_Node.z l x).f3, (nth T_api_Node.z l x).f4, (nth T_api_Node.z l x).f5⟩ : T_api_Node)).bind fun t44 => ((slices_BinarySearchFunc__api_Choice_api_Choice_int_of_topo_weigh_1.f k acc t44).bind fun t47 => (if t47.2 = true then (J k x t47 acc) else ((ofO (⟨(nth T_api_Node.z l x).f0, (nth T_api_Node.z l x).f1, (nth T_api_Node.z l x).f2, (nth T_api_Node.z l x).f3, (nth T_api_Node.z l x).f4, (nth T_api_Node.z l x).f5⟩ : T_api_Node)).bind fun t53 => ((slices_Insert__api_Choice_api_Choice.f acc t47.1 [(⟨t53, 0⟩ : T_api_Choice)]).bind fun t60 => (J k x t47 t60)))))) else (L k acc (w64 (x + 1))))) else (none)) else (some acc)))
    (hJ : ∀ k x t47 l70, J (k + 1) x t47 l70 = (if ((nth T_api_Node.z l x).f5) = true then (if 0 ≤ t47.1 ∧ t47.1 < (l70.length : Int) then (L k (l70.set (t47.1).toNat (⟨(nth T_api_Choice.z l70 t47.1).f0, (if (w64 ((nth T_api_Choice.z l70 t47.1).f1 + (nth T_api_Node.z l x).f3)) < 65536 then (w64 ((nth T_api_Choice.z l70 t47.1).f1 + (nth T_api_Node.z l x).f3)) else 65536)⟩ : T_api_Choice)) (w64 (x + 1))) else (none)) else (L k l70 (w64 (x + 1)))))
    (hl : l.length ≤ 12) (hw : ∀ n ∈ l, okW n) : ∀ (d i : Nat), i + d = l.length → Ev (fun k => L k (wL is of (l.take i)) (i : Int)) (wL is of l) := by
  intro d
  induction d with
  | zero =>
    intro i hi
    refine .s (fun k => hL k _ _) (.n (by omega) (.cv ?_))
    rw [List.take_of_length_le (by omega)]
  | succ d ih =>
    intro i hi
    have h1 : i < l.length := by omega
    have ih := ih (i + 1) (by omega)
    obtain ⟨hW, hlen⟩ := wL_of is of l hw i (by omega)
    rw [wL_take i h1] at ih
    have hn := hw _ (List.getElem_mem h1)
    refine .s (fun k => hL k _ _) (.t (by omega) (.t (by omega) ?_))
    rw [nth_get _ _ _ h1, w64n i (by omega)]
    generalize wL is of (l.take i) = v at hW hlen ih ⊢
    refine .b0 (his l[i]) ?_
    unfold wOne at ih
    by_cases hi1 : is l[i] = true
    · rw [if_pos hi1] at ih
      refine .t hi1 (.b0 (hof l[i]) (.b (search v (of l[i]) (by omega) hW.up) ?_))
      have hp := posn_le (of l[i]) v
      by_cases hf : ∃ h : posn (of l[i]) v < v.length, v[posn (of l[i]) v].f0 = of l[i]
      · obtain ⟨hlt, he⟩ := hf
        rw [addW_set _ _ v hlt he] at ih
        have hmem := (hW.mem _).1 (List.getElem_mem hlt)
        have hs := wSum_ge is of (l.take i) v[posn (of l[i]) v].f0 (fun n hn => hw n (List.mem_of_mem_take hn))
        have hb : 0 ≤ v[posn (of l[i]) v].f1 ∧ v[posn (of l[i]) v].f1 ≤ 65536 := by
          have := hmem.2
          unfold cap at this
          split at this <;> omega
        rw [List.getElem?_eq_getElem hlt]
        refine .t (by simpa using he) (.s (fun k => hJ k _ _ _) ?_)
        dsimp only
        rw [nth_get _ _ _ h1, nth_get _ _ _ hlt, w64n i (by omega), Int.toNat_natCast]
        unfold weight at ih
        unfold okW at hn
        by_cases h5 : l[i].f5 = true
        · rw [if_pos h5] at ih
          refine .t h5 (.t (by omega) ?_)
          rw [w64_of (n := v[posn (of l[i]) v].f1 + l[i].f3) (by omega) (by omega)]
          simp only [he]
          exact ih
        · rw [if_neg h5, Int.add_zero] at ih
          refine .n h5 ?_
          have e : v.set (posn (of l[i]) v) ⟨of l[i], if v[posn (of l[i]) v].f1 < 65536 then v[posn (of l[i]) v].f1 else 65536⟩ = v := by
            have : (⟨of l[i], if v[posn (of l[i]) v].f1 < 65536 then v[posn (of l[i]) v].f1 else 65536⟩ : T_api_Choice) = v[posn (of l[i]) v] := by
              have e2 : (if v[posn (of l[i]) v].f1 < 65536 then v[posn (of l[i]) v].f1 else 65536) = v[posn (of l[i]) v].f1 := by split <;> omega
              rw [e2]
              exact congrArg (fun z => (⟨z, v[posn (of l[i]) v].f1⟩ : T_api_Choice)) he.symm
            rw [this, List.set_getElem_self]
          rw [e] at ih
          exact ih
      · have hne : ∀ h : posn (of l[i]) v < v.length, v[posn (of l[i]) v].f0 ≠ of l[i] := fun h e => hf ⟨h, e⟩
        rw [addW_ins _ _ v hne] at ih
        refine .n ?_ (.b0 (hof l[i]) (.b0 (a := v.take (posn (of l[i]) v) ++ (⟨of l[i], 0⟩ : T_api_Choice) :: v.drop (posn (of l[i]) v)) ?_ (.s (fun k => hJ k _ _ _) ?_)))
        · by_cases h : posn (of l[i]) v < v.length
          · rw [List.getElem?_eq_getElem h]
            simpa using hne h
          · rw [List.getElem?_eq_none (by omega)]
            exact Bool.false_ne_true
        · unfold slices_Insert__api_Choice_api_Choice.f
          dsimp only
          rw [if_pos ⟨by omega, by omega, by omega⟩, Int.toNat_natCast]
        · dsimp only
          have hq : posn (of l[i]) v < (v.take (posn (of l[i]) v) ++ (⟨of l[i], 0⟩ : T_api_Choice) :: v.drop (posn (of l[i]) v)).length := by
            rw [List.length_append, List.length_take, List.length_cons, List.length_drop]
            omega
          have hg : (v.take (posn (of l[i]) v) ++ (⟨of l[i], 0⟩ : T_api_Choice) :: v.drop (posn (of l[i]) v))[posn (of l[i]) v] = ⟨of l[i], 0⟩ := by
            rw [List.getElem_append_right (by rw [List.length_take]; omega)]
            simp only [List.length_take, Nat.min_eq_left hp, Nat.sub_self, List.getElem_cons_zero]
          rw [nth_get _ _ _ h1, nth_get _ _ _ hq, hg, w64n i (by omega), Int.toNat_natCast]
          unfold weight at ih
          unfold okW at hn
          by_cases h5 : l[i].f5 = true
          · rw [if_pos h5] at ih
            refine .t h5 (.t (by omega) ?_)
            have e : (v.take (posn (of l[i]) v) ++ (⟨of l[i], 0⟩ : T_api_Choice) :: v.drop (posn (of l[i]) v)).set (posn (of l[i]) v) (⟨of l[i], if w64 (0 + l[i].f3) < 65536 then w64 (0 + l[i].f3) else 65536⟩ : T_api_Choice) = v.take (posn (of l[i]) v) ++ (⟨of l[i], l[i].f3⟩ : T_api_Choice) :: v.drop (posn (of l[i]) v) := by
              have e2 : (if w64 (0 + l[i].f3) < 65536 then w64 (0 + l[i].f3) else 65536) = l[i].f3 := by
                rw [w64_of (by omega) (by omega)]
                split <;> omega
              rw [e2, List.set_append_right _ _ (by rw [List.length_take]; omega)]
              simp only [List.length_take, Nat.min_eq_left hp, Nat.sub_self, List.set_cons_zero]
            rw [e]
            exact ih
          · rw [if_neg h5] at ih
            exact .n h5 ih
    · rw [if_neg hi1] at ih
      exact .n hi1 ih
/-! nodes that may be -/
theorem rise_ok : ∀ (p : Int) (l : List T_api_Node), rise p l = true → (∀ n ∈ l, okN n) ∧ l.Pairwise (fun x y => x.f0 < y.f0) ∧ ∀ n ∈ l, p < n.f0
  | p, [], _ => ⟨(fun _ h => nomatch h), List.Pairwise.nil, (fun _ h => nomatch h)⟩
  | p, n :: l, h => by
    rw [rise, Bool.and_eq_true, decide_eq_true_eq] at h
    obtain ⟨h1, h2, h3⟩ := rise_ok n.f0 l h.2
    refine ⟨fun m hm => ?_, List.pairwise_cons.2 ⟨h3, h2⟩, fun m hm => ?_⟩
    · rcases List.mem_cons.1 hm with rfl | hm
      · exact h.1.1
      · exact h1 m hm
    · rcases List.mem_cons.1 hm with rfl | hm
      · exact h.1.2
      · have := h3 m hm; have := h.1.2; omega
theorem Nodes.ok {l : List T_api_Node} (h : Nodes l) : ∀ n ∈ l, okN n := (rise_ok 0 l h.2).1
theorem Nodes.up {l : List T_api_Node} (h : Nodes l) : l.Pairwise (fun x y => x.f0 < y.f0) := (rise_ok 0 l h.2).2.1
theorem Nodes.okW {l : List T_api_Node} (h : Nodes l) : ∀ n ∈ l, okW n := fun n hn => (h.ok n hn).2.2.2
theorem wL_full (is : T_api_Node → Bool) (of : T_api_Node → Int) {l : List T_api_Node} (h : Nodes l) : WOf is of l (wL is of l) ∧ (wL is of l).length ≤ l.length := by
  have := wL_of is of l h.okW l.length (Nat.le_refl _)
  rwa [List.take_length] at this
theorem cap_ok {x : Int} (h : 0 ≤ x) : 0 ≤ cap x ∧ cap x ≤ 65536 := by
  unfold cap
  split <;> omega
theorem wL_chs (is : T_api_Node → Bool) (of : T_api_Node → Int) {l : List T_api_Node} (h : Nodes l) (hof : ∀ n, okN n → 0 ≤ of n ∧ of n ≤ 999) : Draw.Chs (wL is of l) := by
  obtain ⟨hW, hlen⟩ := wL_full is of h
  have hl := h.1
  refine ⟨by omega, fun c hc => ?_, hW.up⟩
  obtain ⟨⟨n, hn, _, he⟩, h2⟩ := (hW.mem c).1 hc
  have := hof n (h.ok n hn)
  have h3 := wSum_ge is of l c.f0 h.okW
  have h4 := cap_ok h3.1
  rw [h2]
  exact ⟨by omega, h4⟩
def isZ (_ : T_api_Node) : Bool := true
def isR (z : Int) (n : T_api_Node) : Bool := n.f1 == z
def isL (z r : Int) (n : T_api_Node) : Bool := (z == 0 || n.f1 == z) && (r == 0 || n.f2 == r)
def ofZ (n : T_api_Node) : Int := n.f1
def ofR (n : T_api_Node) : Int := n.f2
def ofL (n : T_api_Node) : Int := n.f0
theorem chk {l : List T_api_Node} (h : Nodes l) : Ev (fun k => topo_Check.f k l) 0 := (check l (by have := h.1; omega)).v (by rw [decide_eq_true h]; rfl)
theorem zones {l : List T_api_Node} (h : Nodes l) : Ev (fun k => topo_Zones.f k l) (wL isZ ofZ l) := by
  have h2 := h.1
  unfold topo_Zones.f topo_weigh_of_topo_Zones_1_topo_Zones_2.f
  refine .b (.b (chk h) (.t rfl ?_)) (.c _)
  exact weigh_gen (isO := topo_Zones_1.f) (ofO := topo_Zones_2.f) (fun _ => rfl) (fun _ => rfl) l _ _ (fun k _ _ => topo_weigh_of_topo_Zones_1_topo_Zones_2.l19_s k l _ _) (fun k _ _ _ => topo_weigh_of_topo_Zones_1_topo_Zones_2.j72_s k l _ _ _) h.1 h.okW l.length 0 (by omega)
theorem racks {l : List T_api_Node} (h : Nodes l) (z : Int) : Ev (fun k => topo_Racks.f k l z) (wL (isR z) ofR l) := by
  have h2 := h.1
  unfold topo_Racks.f topo_weigh_of_topo_Racks_1_topo_Racks_2.f
  refine .b (.b (chk h) (.t rfl ?_)) (.c _)
  exact weigh_gen (isO := fun n => topo_Racks_1.f n z) (ofO := topo_Racks_2.f) (fun _ => rfl) (fun _ => rfl) l _ _ (fun k _ _ => topo_weigh_of_topo_Racks_1_topo_Racks_2.l19_s k l z _ _) (fun k _ _ _ => topo_weigh_of_topo_Racks_1_topo_Racks_2.j72_s k l z _ _ _) h.1 h.okW l.length 0 (by omega)
theorem isl (z r : Int) (n : T_api_Node) : topo_Leaves_1.f n z r = some (isL z r n) := by
  unfold topo_Leaves_1.f isL
  by_cases h1 : z = 0
  · by_cases h2 : r = 0
    · simp [h1, h2]
    · simp [h1, h2]
  · by_cases h3 : n.f1 = z
    · by_cases h2 : r = 0
      · simp [h1, h2, h3]
      · simp [h1, h2, h3]
    · simp [h1, h3]
theorem leaves {l : List T_api_Node} (h : Nodes l) (z r : Int) : Ev (fun k => topo_Leaves.f k l z r) (wL (isL z r) ofL l) := by
  have h2 := h.1
  unfold topo_Leaves.f topo_weigh_of_topo_Leaves_1_topo_Leaves_2.f
  refine .b (.b (chk h) (.t rfl ?_)) (.c _)
  exact weigh_gen (isO := fun n => topo_Leaves_1.f n z r) (ofO := topo_Leaves_2.f) (isl z r) (fun _ => rfl) l _ _ (fun k _ _ => topo_weigh_of_topo_Leaves_1_topo_Leaves_2.l19_s k l z r _ _) (fun k _ _ _ => topo_weigh_of_topo_Leaves_1_topo_Leaves_2.j72_s k l z r _ _ _) h.1 h.okW l.length 0 (by omega)

end Topo
namespace Rule
theorem w64n (i : Nat) (h : i < 9223372036854775807) : w64 ((i : Int) + 1) = ((i + 1 : Nat) : Int) := by rw [w64_of (by omega) (by omega)]; omega
theorem nth_get {α : Type} (z : α) (l : List α) (i : Nat) (h : i < l.length) : nth z l (i : Int) = l[i] := by simp [nth, h]
/-- The level behind a step, where it may stand. -/
def step (at_ : Int) (s : T_api_Step) : Option Int :=
  if s.f0 = 1 then (if at_ = -1 ∧ s.f1 = 0 ∧ s.f2 = 0 then some 0 else none)
  else if s.f0 = 3 then (if at_ = 3 ∧ s.f1 = 0 ∧ s.f2 = 0 then some (-1) else none)
  else if s.f0 = 2 then (if 0 ≤ at_ ∧ at_ < s.f1 ∧ s.f1 ≤ 3 ∧ (s.f1 = 2 → at_ = 1) ∧ 1 ≤ s.f2 ∧ s.f2 ≤ 12 then some s.f1 else none)
  else none
theorem step_ge {a b : Int} {s : T_api_Step} (ha : -1 ≤ a) (h : step a s = some b) : -1 ≤ b := by
  unfold step at h
  repeat' (split at h)
  all_goals first | (cases h; omega) | (cases h)
/-- A rule goes through from a level on. -/
def goes : Int → List T_api_Step → Bool
  | _, [] => true
  | a, s :: l => match step a s with
    | some b => goes b l
    | none => false
def May (l : List T_api_Step) : Prop := (1 ≤ l.length ∧ l.length ≤ 8) ∧ goes (-1) l = true
instance (l : List T_api_Step) : Decidable (May l) := inferInstanceAs (Decidable (_ ∧ _))
theorem next (a : Int) (s : T_api_Step) (k : Nat) (ha : -1 ≤ a) : ∃ b, place_next.f (k + 1) a s = some (b, (step a s).isSome) ∧ ∀ c, step a s = some c → b = c := by
  unfold place_next.f step
  by_cases h1 : s.f0 = 1
  · simp only [if_pos h1]
    by_cases c1 : a = -1
    · by_cases c2 : s.f1 = 0
      · by_cases c3 : s.f2 = 0
        · exact ⟨0, by simp [c1, c2, c3], by simp [c1, c2, c3]⟩
        · exact ⟨0, by simp [c1, c2, c3], by simp [c1, c2, c3]⟩
      · exact ⟨0, by simp [c1, c2], by simp [c1, c2]⟩
    · exact ⟨0, by simp [c1], by simp [c1]⟩
  · simp only [if_neg h1]
    by_cases h3 : s.f0 = 3
    · simp only [if_pos h3]
      by_cases c1 : a = 3
      · by_cases c2 : s.f1 = 0
        · by_cases c3 : s.f2 = 0
          · exact ⟨-1, by simp [c1, c2, c3], by simp [c1, c2, c3]⟩
          · exact ⟨-1, by simp [c1, c2, c3], by simp [c1, c2, c3]⟩
        · exact ⟨-1, by simp [c1, c2], by simp [c1, c2]⟩
      · exact ⟨-1, by simp [c1], by simp [c1]⟩
    · simp only [if_neg h3]
      by_cases h2 : s.f0 = 2
      · simp only [if_pos h2, place_next.j23_s]
        refine ⟨s.f1, ?_, ?_⟩
        · by_cases c0 : 0 ≤ a ∧ a < s.f1 ∧ s.f1 ≤ 3 ∧ (s.f1 = 2 → a = 1) ∧ 1 ≤ s.f2 ∧ s.f2 ≤ 12
          · rw [if_pos c0, if_pos (by omega), if_pos c0.2.2.1]
            have : (if s.f1 = 2 then (if a = -1 then (some (s.f1, false) : Option (Int × Bool)) else (if (a == 1) = true then (if s.f2 ≥ 1 then some (s.f1, decide (s.f2 ≤ 12)) else some (s.f1, false)) else some (s.f1, false))) else (if a = -1 then some (s.f1, false) else (if true = true then (if s.f2 ≥ 1 then some (s.f1, decide (s.f2 ≤ 12)) else some (s.f1, false)) else some (s.f1, false)))) = some (s.f1, true) := by
              obtain ⟨q1, q2, q3, q4, q5, q6⟩ := c0
              by_cases d : s.f1 = 2
              · have := q4 d
                simp [d, this, q5, q6]
              · have : ¬ a = -1 := by omega
                simp [d, this, q5, q6]
            exact this
          · rw [if_neg c0]
            have key : ∀ y : Bool, (y = true → ¬ (0 ≤ a ∧ 1 ≤ s.f2 ∧ s.f2 ≤ 12)) → (if a = -1 then (some (s.f1, false) : Option (Int × Bool)) else (if y = true then (if s.f2 ≥ 1 then some (s.f1, decide (s.f2 ≤ 12)) else some (s.f1, false)) else some (s.f1, false))) = some (s.f1, false) := by
              intro y hy
              by_cases d : a = -1
              · rw [if_pos d]
              · rw [if_neg d]
                cases y with
                | false => rfl
                | true =>
                  rw [if_pos rfl]
                  by_cases e1 : s.f2 ≥ 1
                  · rw [if_pos e1, decide_eq_false (fun e2 => hy rfl ⟨by omega, e1, e2⟩)]
                  · rw [if_neg e1]
            by_cases d1 : s.f1 > a
            · rw [if_pos d1]
              by_cases d2 : s.f1 ≤ 3
              · rw [if_pos d2]
                by_cases d3 : s.f1 = 2
                · rw [if_pos d3]
                  exact key _ (fun hy hh => c0 ⟨hh.1, d1, d2, fun _ => by simpa using hy, hh.2⟩)
                · rw [if_neg d3]
                  simpa using key true (fun _ hh => c0 ⟨hh.1, d1, d2, fun e => absurd e d3, hh.2⟩)
              · rw [if_neg d2]
                exact key _ (fun hy => by cases hy)
            · rw [if_neg d1]
              exact key _ (fun hy => by cases hy)
        · intro c hc
          split at hc
          · exact Option.some.inj hc
          · cases hc
      · simp only [if_neg h2]
        exact ⟨-1, by simp, by simp⟩
theorem check_l18 (l : List T_api_Step) (hl : l.length ≤ 1000) : ∀ (d k i : Nat) (a : Int), -1 ≤ a → i + d = l.length → d + 1 < k → place_Check.l18 k l a (i : Int) = some (if goes a (l.drop i) = true then 0 else 1) := by
  intro d
  induction d with
  | zero =>
    intro k i a ha hi hk
    obtain ⟨k, rfl⟩ : ∃ m, k = m + 1 := ⟨k - 1, by omega⟩
    rw [place_Check.l18_s, if_neg (by omega), List.drop_eq_nil_of_le (by omega)]
    rfl
  | succ d ih =>
    intro k i a ha hi hk
    obtain ⟨k, rfl⟩ : ∃ m, k = m + 2 := ⟨k - 2, by omega⟩
    have h1 : i < l.length := by omega
    rw [place_Check.l18_s, if_pos (by omega), if_pos (by omega), nth_get _ _ _ h1, w64n i (by omega), List.drop_eq_getElem_cons h1]
    obtain ⟨b, hb, hc⟩ := next a (⟨l[i].f0, l[i].f1, l[i].f2⟩ : T_api_Step) k ha
    rw [hb, Option.bind_some]
    dsimp only
    have hs : (⟨l[i].f0, l[i].f1, l[i].f2⟩ : T_api_Step) = l[i] := rfl
    rw [hs] at hc ⊢
    cases hst : step a l[i] with
    | none =>
      simp only [goes, hst, Option.isSome_none, Bool.false_eq_true, if_false]
    | some c =>
      obtain rfl := hc c hst
      simp only [goes, hst, Option.isSome_some, if_true]
      exact ih (k + 1) (i + 1) b (step_ge ha hst) (by omega) (by omega)
theorem check (l : List T_api_Step) (k : Nat) (hk : 1100 < k) : place_Check.f k l = some (if May l then 0 else 1) := by
  obtain ⟨k, rfl⟩ : ∃ m, k = m + 1 := ⟨k - 1, by omega⟩
  unfold place_Check.f
  by_cases h0 : (l.length : Int) = 0
  · rw [if_pos h0, place_Check.j6_s, if_pos rfl, if_neg (fun h : May l => by have := h.1.1; omega)]
  · rw [if_neg h0, place_Check.j6_s]
    by_cases h8 : (l.length : Int) > 8
    · rw [if_pos (decide_eq_true h8), if_neg (fun h : May l => by have := h.1.2; omega)]
    · rw [if_neg (by simpa using h8)]
      refine (check_l18 l (by omega) l.length k 0 (-1) (by omega) (by omega) (by omega)).trans ?_
      rw [List.drop_zero]
      by_cases h : goes (-1) l = true
      · rw [if_pos h, if_pos (show May l from ⟨⟨by omega, by omega⟩, h⟩)]
      · rw [if_neg h, if_neg (fun hh : May l => h hh.2)]
theorem common (k : Nat) (n : Int) : place_Common.f (k + 1) n = some (if 1 ≤ n ∧ n ≤ 3 then [(⟨1, 0, 0⟩ : T_api_Step), ⟨2, 1, n⟩, ⟨2, 2, 1⟩, ⟨2, 3, 1⟩, ⟨3, 0, 0⟩] else []) := by
  unfold place_Common.f
  simp only [place_Common.j6_s]
  by_cases h1 : n < 1
  · rw [if_pos h1, if_pos trivial, if_neg (by omega)]
  · rw [if_neg h1]
    by_cases h3 : n > 3
    · rw [if_pos (decide_eq_true h3), if_neg (by omega)]
    · rw [if_neg (by simpa using h3), if_pos ⟨by omega, by omega⟩]

end Rule
namespace Place
/-! where groups stand -/
def kids (l : List T_api_Node) (g : Int) (s : T_api_Step) (z r : Int) : List Int :=
  (Draw.ord (Mixn.fold (Draw.un g) [Draw.un s.f1, Draw.un z, Draw.un r]) (if s.f1 = 1 then Topo.wL Topo.isZ Topo.ofZ l else if s.f1 = 2 then Topo.wL (Topo.isR z) Topo.ofR l else Topo.wL (Topo.isL z r) Topo.ofL l)).map (fun x => x.f0)
def deeper (s : T_api_Step) (x : T_place_item) (id : Int) : T_place_item := if s.f1 = 1 then ⟨id, x.f1, x.f2⟩ else if s.f1 = 2 then ⟨x.f0, id, x.f2⟩ else ⟨x.f0, x.f1, id⟩
def chooseL (l : List T_api_Node) (g : Int) (s : T_api_Step) (x : T_place_item) : List T_place_item := ((kids l g s x.f0 x.f1).take s.f2.toNat).map (deeper s x)
def emit (size : Int) (out : List Int) (x : T_place_item) : List Int := if (out.length : Int) < size ∧ ¬ x.f2 ∈ out then out ++ [x.f2] else out
def stepL (l : List T_api_Node) (g size : Int) (p : List T_place_item × List Int) (s : T_api_Step) : List T_place_item × List Int :=
  if s.f0 = 1 then ([⟨0, 0, 0⟩], p.2) else if s.f0 = 2 then (p.1.flatMap (chooseL l g s), p.2) else ([], p.1.foldl (emit size) p.2)
def runL (l : List T_api_Node) (rule : List T_api_Step) (g size : Int) : List Int := (rule.foldl (stepL l g size) ([], [])).2
theorem fold_lt (s : Nat) (hs : s < 18446744073709551616) (l : List Nat) : Mixn.fold s l < 18446744073709551616 := by
  unfold Mixn.fold
  have h0 := Mixn.mix_lt s
  generalize Mixn.mix s = x at h0 ⊢
  induction l generalizing x with
  | nil => exact h0
  | cons a l ih => exact ih _ (Mixn.step_lt _ _)
theorem kids_len {l : List T_api_Node} (h : Topo.Nodes l) (g : Int) (s : T_api_Step) (z r : Int) : (kids l g s z r).length ≤ 12 := by
  have hl := h.1
  unfold kids Draw.ord
  rw [List.length_map, sortL_length]
  refine Nat.le_trans (List.length_filter_le _ _) ?_
  split
  · exact Nat.le_trans (Topo.wL_full _ _ h).2 hl
  · split
    · exact Nat.le_trans (Topo.wL_full _ _ h).2 hl
    · exact Nat.le_trans (Topo.wL_full _ _ h).2 hl
theorem fold3 (g a b c : Int) : Ev (fun k => mix_Fold.f k (IntKind.u64.wrap g) [IntKind.u64.wrap a, IntKind.u64.wrap b, IntKind.u64.wrap c]) ((Mixn.fold (Draw.un g) [Draw.un a, Draw.un b, Draw.un c] : Nat) : Int) := by
  have h := Draw.fold (Draw.un g) (Draw.un_eq g).2 [Draw.un a, Draw.un b, Draw.un c] (fun x hx => by
    simp only [List.mem_cons, List.not_mem_nil, or_false] at hx
    rcases hx with rfl | rfl | rfl <;> exact (Draw.un_eq _).2) (by simp)
  rw [(Draw.un_eq g).1, (Draw.un_eq a).1, (Draw.un_eq b).1, (Draw.un_eq c).1]
  exact h
theorem zones_chs {l : List T_api_Node} (h : Topo.Nodes l) : Draw.Chs (Topo.wL Topo.isZ Topo.ofZ l) := Topo.wL_chs _ _ h (fun n hn => by unfold Topo.okN at hn; unfold Topo.ofZ; omega)
theorem racks_chs {l : List T_api_Node} (h : Topo.Nodes l) (z : Int) : Draw.Chs (Topo.wL (Topo.isR z) Topo.ofR l) := Topo.wL_chs _ _ h (fun n hn => by unfold Topo.okN at hn; unfold Topo.ofR; omega)
theorem leaves_chs {l : List T_api_Node} (h : Topo.Nodes l) (z r : Int) : Draw.Chs (Topo.wL (Topo.isL z r) Topo.ofL l) := Topo.wL_chs _ _ h (fun n hn => by unfold Topo.okN at hn; unfold Topo.ofL; omega)
theorem choose_l80 (x : T_place_item) (s : T_api_Step) (o : List Int) (n : Nat) (hn : n ≤ o.length) (ho : o.length ≤ 12) (he : (if (o.length : Int) < s.f2 then (o.length : Int) else s.f2) = (n : Int)) : ∀ (d i : Nat), i + d = n → Ev (fun k => place_choose.l80 k x s o ((o.take i).map (deeper s x)) (i : Int)) ((o.take n).map (deeper s x)) := by
  have ec : cutl o 0 (n : Int) = o.take n := by simp [cutl]
  have el : (o.take n).length = n := by rw [List.length_take]; omega
  intro d
  induction d with
  | zero =>
    intro i hi
    refine .s (fun k => place_choose.l80_s k _ _ _ _ _) ?_
    rw [he, ec, el]
    refine .n (by omega) (.cv ?_)
    rw [show i = n by omega]
  | succ d ih =>
    intro i hi
    have ih := ih (i + 1) (by omega)
    have h1 : i < o.length := by omega
    have h2 : i < (o.take n).length := by omega
    refine .s (fun k => place_choose.l80_s k _ _ _ _ _) ?_
    rw [he, ec, el, nth_get _ _ _ h2, List.getElem_take]
    rw [← List.take_append_getElem h1, List.map_append, List.map_singleton] at ih
    unfold deeper at ih ⊢
    have hq : ((o.take i).map (deeper s x)).length ≤ 12 := by rw [List.length_map, List.length_take]; omega
    unfold deeper at hq
    refine .t (by omega) (.t (by omega) ?_)
    refine .i (fun c => ?_) (fun c => ?_)
    · refine .s (fun k => place_choose.j110_s k _ _ _ _ _ _ _ _) (.t (by omega) ?_)
      rw [w64n i (by omega)]
      rwa [if_pos c] at ih
    · rw [if_neg c] at ih
      refine .i (fun c => ?_) (fun c => ?_)
      · refine .s (fun k => place_choose.j110_s k _ _ _ _ _ _ _ _) (.t (by omega) ?_)
        rw [w64n i (by omega)]
        rwa [if_pos c] at ih
      · refine .s (fun k => place_choose.j110_s k _ _ _ _ _ _ _ _) (.t (by omega) ?_)
        rw [w64n i (by omega)]
        rwa [if_neg c] at ih
theorem choose {l : List T_api_Node} (h : Topo.Nodes l) (x : T_place_item) (s : T_api_Step) (g : Int) (hs : 1 ≤ s.f2) : Ev (fun k => place_choose.f k l x s g) (chooseL l g s x) := by
  have hk := kids_len h g s x.f0 x.f1
  have hj : ∀ c, Draw.Chs c → kids l g s x.f0 x.f1 = (Draw.ord (Mixn.fold (Draw.un g) [Draw.un s.f1, Draw.un x.f0, Draw.un x.f1]) c).map (fun x => x.f0) → Ev (fun k => place_choose.j42 k x s g c) (chooseL l g s x) := by
    intro c hc e
    refine .s (fun k => place_choose.j42_s k _ _ _ _) (.b (fold3 g s.f1 x.f0 x.f1) (.b (Draw.order _ (fold_lt _ (Draw.un_eq g).2 _) c hc) ?_))
    rw [← e]
    unfold chooseL
    generalize kids l g s x.f0 x.f1 = o at hk ⊢
    have he : (if (o.length : Int) < s.f2 then (o.length : Int) else s.f2) = ((min s.f2.toNat o.length : Nat) : Int) := by
      split <;> omega
    rw [he]
    refine .t (by omega) ?_
    have := choose_l80 x s o (min s.f2.toNat o.length) (by omega) hk he (min s.f2.toNat o.length) 0 (by omega)
    rw [← List.take_eq_take_min] at this
    exact this
  unfold place_choose.f
  have hz := zones_chs h
  have hr := racks_chs h x.f0
  have hv := leaves_chs h x.f0 x.f1
  unfold kids at hj
  refine .i (fun c => .b (Topo.zones h) (hj _ hz (by rw [if_pos c]))) (fun c => .i (fun c2 => .b (Topo.racks h _) (hj _ hr (by rw [if_neg c, if_pos c2]))) (fun c2 => .b (Topo.leaves h _ _) (hj _ hv (by rw [if_neg c, if_neg c2]))))

theorem step_is {a : Int} {s : T_api_Step} {r : List T_api_Step} (h : Rule.goes a (s :: r) = true) : ∃ b, Rule.goes b r = true ∧ ((s.f0 = 1 ∧ a = -1 ∧ b = 0) ∨ (s.f0 = 2 ∧ (1 ≤ s.f1 ∧ s.f1 ≤ 3) ∧ (1 ≤ s.f2 ∧ s.f2 ≤ 12) ∧ b = s.f1 ∧ 0 ≤ a) ∨ (s.f0 = 3 ∧ b = -1 ∧ a = 3)) := by
  unfold Rule.goes at h
  split at h
  · rename_i b hb
    refine ⟨b, h, ?_⟩
    unfold Rule.step at hb
    by_cases c1 : s.f0 = 1
    · rw [if_pos c1] at hb
      split at hb
      · cases hb; exact .inl ⟨c1, by omega, rfl⟩
      · cases hb
    · rw [if_neg c1] at hb
      by_cases c3 : s.f0 = 3
      · rw [if_pos c3] at hb
        split at hb
        · cases hb; exact .inr (.inr ⟨c3, rfl, by omega⟩)
        · cases hb
      · rw [if_neg c3] at hb
        split at hb
        · split at hb
          · cases hb; exact .inr (.inl ⟨by assumption, by omega, by omega, rfl, by omega⟩)
          · cases hb
        · cases hb
  · cases h
theorem flat_len {α β : Type} (f : α → List β) (hf : ∀ x, (f x).length ≤ 12) : ∀ l : List α, (l.flatMap f).length ≤ 12 * l.length
  | [] => Nat.le_refl _
  | x :: l => by
    have := flat_len f hf l
    have := hf x
    rw [List.flatMap_cons, List.length_append, List.length_cons]
    omega
theorem chooseL_len {l : List T_api_Node} (h : Topo.Nodes l) (g : Int) (s : T_api_Step) (x : T_place_item) : (chooseL l g s x).length ≤ 12 := by
  unfold chooseL
  rw [List.length_map, List.length_take]
  have := kids_len h g s x.f0 x.f1
  omega
theorem flat_take {α β : Type} (f : α → List β) (l : List α) (i : Nat) (h : i < l.length) : (l.take (i + 1)).flatMap f = (l.take i).flatMap f ++ f l[i] := by
  rw [← List.take_append_getElem h, List.flatMap_append]
  simp
theorem run_l73 {l : List T_api_Node} (h : Topo.Nodes l) (rule : List T_api_Step) (g size : Int) (hand : List T_place_item) (out : List Int) (i : Nat) (hi : i < rule.length) (hs : 1 ≤ rule[i].f2) (hh : hand.length ≤ 429981696) {v : List Int × Int}
    (hv : Ev (fun k => place_Run.l38 k l rule g size (hand.flatMap (chooseL l g rule[i])) out (w64 ((i : Int) + 1))) v) : ∀ (d j : Nat), j + d = hand.length → Ev (fun k => place_Run.l73 k l rule g size hand out (i : Int) ((hand.take j).flatMap (chooseL l g rule[i])) (j : Int)) v := by
  intro d
  induction d with
  | zero =>
    intro j hj
    refine .s (fun k => place_Run.l73_s k _ _ _ _ _ _ _ _ _) (.n (by omega) ?_)
    rw [List.take_of_length_le (by omega)]
    exact hv
  | succ d ih =>
    intro j hj
    have h1 : j < hand.length := by omega
    have ih := ih (j + 1) (by omega)
    rw [flat_take _ _ _ h1] at ih
    have hlen := flat_len (chooseL l g rule[i]) (chooseL_len h g rule[i]) (hand.take j)
    have hlen2 := chooseL_len h g rule[i] hand[j]
    rw [List.length_take] at hlen
    refine .s (fun k => place_Run.l73_s k _ _ _ _ _ _ _ _ _) (.t (by omega) (.t (by omega) ?_))
    rw [nth_get _ _ _ h1, nth_get _ _ _ hi, w64n j (by omega)]
    exact .b (choose h hand[j] rule[i] g hs) (.t (by omega) ih)
theorem emit_len (size : Int) (hand : List T_place_item) : ∀ out : List Int, (out.length : Int) ≤ size → ((hand.foldl (emit size) out).length : Int) ≤ size := by
  induction hand with
  | nil => exact fun _ h => h
  | cons x r ih =>
    intro out h
    refine ih _ ?_
    unfold emit
    split
    · rw [List.length_append, List.length_singleton]; omega
    · exact h
theorem foldl_take {α β : Type} (f : β → α → β) (b : β) (l : List α) (i : Nat) (h : i < l.length) : (l.take (i + 1)).foldl f b = f ((l.take i).foldl f b) l[i] := by
  rw [← List.take_append_getElem h, List.foldl_append]
  rfl
theorem run_l111 (l : List T_api_Node) (rule : List T_api_Step) (g size : Int) (hz : size ≤ 3) (hand : List T_place_item) (out : List Int) (ho : (out.length : Int) ≤ size) (i : Nat) (hh : hand.length ≤ 429981696) {v : List Int × Int}
    (hv : Ev (fun k => place_Run.l38 k l rule g size [] (hand.foldl (emit size) out) (w64 ((i : Int) + 1))) v) : ∀ (d j : Nat), j + d = hand.length → Ev (fun k => place_Run.l111 k l rule g size hand (i : Int) ((hand.take j).foldl (emit size) out) (j : Int)) v := by
  intro d
  induction d with
  | zero =>
    intro j hj
    refine .s (fun k => place_Run.l111_s k _ _ _ _ _ _ _ _) (.n (by omega) ?_)
    rw [List.take_of_length_le (by omega)]
    exact hv
  | succ d ih =>
    intro j hj
    have h1 : j < hand.length := by omega
    have ih := ih (j + 1) (by omega)
    rw [foldl_take _ _ _ _ h1] at ih
    have hlen := emit_len size (hand.take j) out ho
    generalize (hand.take j).foldl (emit size) out = q at ih hlen ⊢
    have hj : ∀ y : Bool, y = decide ((q.length : Int) < size ∧ ¬ hand[j].f2 ∈ q) → Ev (fun k => place_Run.j135 k l rule g size hand (i : Int) q (j : Int) y) v := by
      intro y hy
      subst hy
      refine .s (fun k => place_Run.j135_s k _ _ _ _ _ _ _ _ _) ?_
      rw [nth_get _ _ _ h1, w64n j (by omega)]
      unfold emit at ih
      refine .i (fun c => ?_) (fun c => ?_)
      · rw [if_pos (of_decide_eq_true c)] at ih
        exact .t (by omega) ih
      · rw [if_neg (fun e => c (decide_eq_true e))] at ih
        exact ih
    refine .s (fun k => place_Run.l111_s k _ _ _ _ _ _ _ _) (.t (by omega) (.t (by omega) ?_))
    rw [nth_get _ _ _ h1]
    refine .i (fun c => .b (Topo.contains q hand[j].f2 (by omega)) (hj _ ?_)) (fun c => hj _ ?_)
    · by_cases c2 : hand[j].f2 ∈ q
      · simp [c2]
      · simp [c, c2]
    · simp [c]
theorem run_l38 {l : List T_api_Node} (h : Topo.Nodes l) (rule : List T_api_Step) (hr : rule.length ≤ 8) (g size : Int) (hz : size ≤ 3) : ∀ (d i : Nat) (hand : List T_place_item) (out : List Int) (a : Int), i + d = rule.length → hand.length ≤ 12 ^ i → (out.length : Int) ≤ size → Rule.goes a (rule.drop i) = true → Ev (fun k => place_Run.l38 k l rule g size hand out (i : Int)) (((rule.drop i).foldl (stepL l g size) (hand, out)).2, 0) := by
  intro d
  induction d with
  | zero =>
    intro i hand out a hi _ _ _
    refine .s (fun k => place_Run.l38_s k _ _ _ _ _ _ _) (.n (by omega) (.cv ?_))
    rw [List.drop_eq_nil_of_le (by omega)]
    rfl
  | succ d ih =>
    intro i hand out a hi hh ho hg
    have h1 : i < rule.length := by omega
    have hp : hand.length ≤ 429981696 := Nat.le_trans hh (Nat.le_trans (Nat.pow_le_pow_right (by omega) (show i ≤ 8 by omega)) (by decide))
    have h12 : 0 < 12 ^ i := Nat.pow_pos (by omega)
    rw [List.drop_eq_getElem_cons h1] at hg ⊢
    obtain ⟨b, hb, hc⟩ := step_is hg
    rw [List.foldl_cons]
    refine .s (fun k => place_Run.l38_s k _ _ _ _ _ _ _) (.t (by omega) (.t (by omega) ?_))
    rw [nth_get _ _ _ h1]
    rcases hc with ⟨c1, _, _⟩ | ⟨c1, c2, c3, _, _⟩ | ⟨c1, _, _⟩
    · refine .t c1 ?_
      rw [w64n i (by omega), stepL, if_pos c1]
      exact ih (i + 1) _ _ b (by omega) (by rw [Nat.pow_succ, List.length_singleton]; omega) ho hb
    · refine .n (by omega) (.t c1 ?_)
      rw [stepL, if_neg (by omega), if_pos c1]
      refine run_l73 h rule g size hand out i h1 c3.1 hp ?_ hand.length 0 (by omega)
      rw [w64n i (by omega)]
      refine ih (i + 1) _ _ b (by omega) ?_ ho hb
      have := flat_len (chooseL l g rule[i]) (chooseL_len h g rule[i]) hand
      rw [Nat.pow_succ]
      omega
    · refine .n (by omega) (.n (by omega) ?_)
      rw [stepL, if_neg (by omega), if_neg (by omega)]
      refine run_l111 l rule g size hz hand out ho i hp ?_ hand.length 0 (by omega)
      rw [w64n i (by omega)]
      exact ih (i + 1) _ _ b (by omega) (Nat.zero_le _) (emit_len size hand out ho) hb
/-- What a rule may be asked of. -/
def mayRun (l : List T_api_Node) (rule : List T_api_Step) (g size : Int) : Prop := Topo.Nodes l ∧ Rule.May rule ∧ (0 ≤ g ∧ g < 8) ∧ 1 ≤ size ∧ size ≤ 3
instance (l : List T_api_Node) (rule : List T_api_Step) (g size : Int) : Decidable (mayRun l rule g size) := inferInstanceAs (Decidable (_ ∧ _))
theorem run (l : List T_api_Node) (rule : List T_api_Step) (g size : Int) : Ev (fun k => place_Run.f k l rule g size) (if mayRun l rule g size then (runL l rule g size, 0) else ([], 1)) := by
  have hc : Ev (fun k => place_Check.f k rule) (if Rule.May rule then 0 else 1) := ⟨1101, fun k hk => Rule.check rule k (by omega)⟩
  have hj : ∀ y : Bool, y = decide (¬ (1 ≤ size ∧ size ≤ 3)) → Topo.Nodes l → Rule.May rule → (0 ≤ g ∧ g < 8) → Ev (fun k => place_Run.j16 k l rule g size y) (if mayRun l rule g size then (runL l rule g size, 0) else ([], 1)) := by
    intro y hy h1 h2 h3
    subst hy
    refine .s (fun k => place_Run.j16_s k _ _ _ _ _) ?_
    refine .i (fun c => ?_) (fun c => ?_)
    · rw [if_neg (fun e => of_decide_eq_true c e.2.2.2)]
      exact .c _
    · have c : 1 ≤ size ∧ size ≤ 3 := Decidable.not_not.1 (fun e => c (decide_eq_true e))
      rw [if_pos ⟨h1, h2, h3, c⟩]
      exact run_l38 h1 rule h2.1.2 g size c.2 rule.length 0 [] [] (-1) (by omega) (Nat.zero_le _) (by have := c.1; show ((0 : Nat) : Int) ≤ size; omega) h2.2
  have hn : ¬ mayRun l rule g size → Ev (fun k => place_Run.j16 k l rule g size true) (if mayRun l rule g size then (runL l rule g size, 0) else ([], 1)) := by
    intro c
    rw [if_neg c]
    exact .s (fun k => place_Run.j16_s k _ _ _ _ _) (.t rfl (.c _))
  unfold place_Run.f
  refine .b (Topo.check' l) ?_
  by_cases h1 : Topo.Nodes l
  · rw [decide_eq_true h1]
    refine .t rfl (.b hc ?_)
    by_cases h2 : Rule.May rule
    · rw [if_pos h2]
      refine .t rfl (.i (fun c => hn (fun e => by have := e.2.2.1; omega)) (fun c => .i (fun c => hn (fun e => by have := e.2.2.1; omega)) (fun c2 => .i (fun c => hn (fun e => by have := e.2.2.2; omega)) (fun c3 => hj _ ?_ h1 h2 ⟨by omega, by omega⟩))))
      rw [decide_eq_decide]
      omega
    · rw [if_neg h2]
      exact .n (by decide) (hn (fun e => h2 e.2.1))
  · rw [decide_eq_false h1]
    exact .n (by decide) (hn (fun e => h1 e.1))
theorem steps_len (l : List T_api_Node) (g size : Int) : ∀ (rule : List T_api_Step) (p : List T_place_item × List Int), (p.2.length : Int) ≤ size → ((rule.foldl (stepL l g size) p).2.length : Int) ≤ size
  | [], _, h => h
  | s :: r, p, h => by
    refine steps_len l g size r _ ?_
    unfold stepL
    split
    · exact h
    · split
      · exact h
      · exact emit_len size _ _ h
theorem runL_len (l : List T_api_Node) (rule : List T_api_Step) (g size : Int) (h : 1 ≤ size) : ((runL l rule g size).length : Int) ≤ size := steps_len l g size rule ([], []) (by show ((0 : Nat) : Int) ≤ size; omega)

end Place

namespace Topo
/-- A node by its number. -/
def find (l : List T_api_Node) (id : Int) : T_api_Node × Bool := match l.find? (fun n => decide (n.f0 = id)) with
  | some n => (n, true)
  | none => (⟨0, 0, 0, 0, false, false⟩, false)
theorem find_l7 (l : List T_api_Node) (id : Int) (hl : l.length < 4611686018427387904) : ∀ (d i : Nat), i + d = l.length → Ev (fun k => windroseref06_Find.l7 k l id (i : Int)) (find (l.drop i) id) := by
  intro d
  induction d with
  | zero =>
    intro i hi
    refine .s (fun k => windroseref06_Find.l7_s k _ _ _) (.n (by omega) (.cv ?_))
    rw [List.drop_eq_nil_of_le (by omega)]
    rfl
  | succ d ih =>
    intro i hi
    have h1 : i < l.length := by omega
    refine .s (fun k => windroseref06_Find.l7_s k _ _ _) (.t (by omega) (.t (by omega) ?_))
    rw [List.drop_eq_getElem_cons h1, nth_get _ _ _ h1]
    by_cases h : l[i].f0 = id
    · refine .t h (.cv ?_)
      rw [find, List.find?_cons_of_pos (by simpa using h)]
    · refine .n h ?_
      rw [w64n i (by omega)]
      refine (ih (i + 1) (by omega)).v ?_
      rw [find, find, List.find?_cons_of_neg (by simpa using h)]
theorem reffind (l : List T_api_Node) (id : Int) (hl : l.length < 4611686018427387904) : Ev (fun k => windroseref06_Find.f k l id) (find l id) := by
  unfold windroseref06_Find.f
  exact find_l7 l id hl l.length 0 (by omega)
def zn (l : List T_api_Node) (id : Int) : Int := (find l id).1.f1

end Topo
namespace Place
/-! the common rule -/
theorem wSum_pos {is : T_api_Node → Bool} {of : T_api_Node → Int} {l : List T_api_Node} {id : Int} (h : ∀ n ∈ l, Topo.okW n) : 0 < Topo.wSum is of l id ↔ ∃ n ∈ l, is n = true ∧ of n = id ∧ 0 < Topo.weight n := by
  induction l with
  | nil => exact ⟨fun h => absurd h (Int.lt_irrefl 0), fun h => by obtain ⟨_, h, _⟩ := h; cases h⟩
  | cons n l ih =>
    have hl : ∀ m ∈ l, Topo.okW m := fun m hm => h m (List.mem_cons_of_mem _ hm)
    have ih := ih hl
    have h0 := (Topo.wSum_ge is of l id hl).1
    have hw := (Topo.weight_ok (h n List.mem_cons_self)).1
    have e : Topo.wSum is of (n :: l) id = Topo.wSum is of l id + if is n = true ∧ of n = id then Topo.weight n else 0 := by
      unfold Topo.wSum
      rw [List.filter_cons]
      by_cases c : is n = true ∧ of n = id
      · rw [if_pos (by simp [c]), if_pos c, List.map_cons, List.sum_cons]
        omega
      · rw [if_neg (by simpa using c), if_neg c]
        omega
    rw [e]
    constructor
    · intro hp
      by_cases c : is n = true ∧ of n = id
      · rw [if_pos c] at hp
        by_cases hw0 : 0 < Topo.weight n
        · exact ⟨n, List.mem_cons_self, c.1, c.2, hw0⟩
        · obtain ⟨m, hm, q⟩ := ih.1 (by omega)
          exact ⟨m, List.mem_cons_of_mem _ hm, q⟩
      · rw [if_neg c] at hp
        obtain ⟨m, hm, q⟩ := ih.1 (by omega)
        exact ⟨m, List.mem_cons_of_mem _ hm, q⟩
    · rintro ⟨m, hm, q1, q2, q3⟩
      rcases List.mem_cons.1 hm with rfl | hm
      · rw [if_pos ⟨q1, q2⟩]
        omega
      · have := ih.2 ⟨m, hm, q1, q2, q3⟩
        split <;> omega
theorem ord_mem {key : Nat} {c : List T_api_Choice} {x : T_api_Choice} : x ∈ Draw.ord key c ↔ x ∈ c ∧ x.f1 ≠ 0 := by
  unfold Draw.ord Draw.heavy
  rw [sortL_mem, List.mem_filter]
  simp
theorem kid_mem {l : List T_api_Node} (h : Topo.Nodes l) (is : T_api_Node → Bool) (of : T_api_Node → Int) (key : Nat) (id : Int) : id ∈ (Draw.ord key (Topo.wL is of l)).map (fun x => x.f0) ↔ ∃ n ∈ l, is n = true ∧ of n = id ∧ 0 < Topo.weight n := by
  have hW := (Topo.wL_full is of h).1
  have h0 := (Topo.wSum_ge is of l id h.okW).1
  rw [← wSum_pos h.okW, List.mem_map]
  have hc : ∀ x : Int, 0 ≤ x → (Topo.cap x ≠ 0 ↔ 0 < x) := by
    intro x hx
    unfold Topo.cap
    split <;> omega
  constructor
  · rintro ⟨c, hc1, rfl⟩
    obtain ⟨h1, h2⟩ := ord_mem.1 hc1
    rw [((hW.mem c).1 h1).2] at h2
    exact (hc _ h0).1 h2
  · intro hp
    refine ⟨⟨id, Topo.cap (Topo.wSum is of l id)⟩, ord_mem.2 ⟨(hW.mem _).2 ⟨?_, rfl⟩, (hc _ h0).2 hp⟩, rfl⟩
    obtain ⟨n, hn, q1, q2, _⟩ := (wSum_pos h.okW).1 hp
    exact ⟨n, hn, q1, q2⟩
def st2 (size : Int) : T_api_Step := ⟨2, 1, size⟩
def st3 : T_api_Step := ⟨2, 2, 1⟩
def st4 : T_api_Step := ⟨2, 3, 1⟩
def commonL (size : Int) : List T_api_Step := [⟨1, 0, 0⟩, st2 size, st3, st4, ⟨3, 0, 0⟩]
def zonesOf (l : List T_api_Node) (g : Int) : List Int := (Draw.ord (Mixn.fold (Draw.un g) [Draw.un 1, Draw.un 0, Draw.un 0]) (Topo.wL Topo.isZ Topo.ofZ l)).map (fun x => x.f0)
def pick (l : List T_api_Node) (g : Int) (z : Int) : List T_place_item := (chooseL l g st3 ⟨z, 0, 0⟩).flatMap (chooseL l g st4)
/-- The node that is told for a zone. -/
def pk (l : List T_api_Node) (g : Int) (z : Int) : Int := ((pick l g z).headD ⟨0, 0, 0⟩).f2
theorem pick_one {l : List T_api_Node} (h : Topo.Nodes l) (g : Int) {z : Int} (hz : 1 ≤ z) (hn : ∃ n ∈ l, n.f1 = z ∧ 0 < Topo.weight n) : ∃ n ∈ l, n.f1 = z ∧ 0 < Topo.weight n ∧ ∃ r, pick l g z = [⟨z, r, n.f0⟩] := by
  obtain ⟨n, hn, h1, h2⟩ := hn
  have k3 : kids l g st3 z 0 = (Draw.ord (Mixn.fold (Draw.un g) [Draw.un 2, Draw.un z, Draw.un 0]) (Topo.wL (Topo.isR z) Topo.ofR l)).map (fun x => x.f0) := rfl
  have m3 := kid_mem h (Topo.isR z) Topo.ofR (Mixn.fold (Draw.un g) [Draw.un 2, Draw.un z, Draw.un 0])
  rw [← k3] at m3
  have hr := (m3 n.f2).2 ⟨n, hn, by unfold Topo.isR; simpa using h1, rfl, h2⟩
  generalize hk : kids l g st3 z 0 = k at hr m3
  cases k with
  | nil => cases hr
  | cons r rs =>
    obtain ⟨n2, hn2, i2, o2, w2⟩ := (m3 r).1 List.mem_cons_self
    have e3 : chooseL l g st3 ⟨z, 0, 0⟩ = [⟨z, r, 0⟩] := by
      unfold chooseL
      rw [show kids l g st3 (⟨z, 0, 0⟩ : T_place_item).f0 (⟨z, 0, 0⟩ : T_place_item).f1 = r :: rs from hk]
      rfl
    have k4 : kids l g st4 z r = (Draw.ord (Mixn.fold (Draw.un g) [Draw.un 3, Draw.un z, Draw.un r]) (Topo.wL (Topo.isL z r) Topo.ofL l)).map (fun x => x.f0) := rfl
    have m4 := kid_mem h (Topo.isL z r) Topo.ofL (Mixn.fold (Draw.un g) [Draw.un 3, Draw.un z, Draw.un r])
    rw [← k4] at m4
    have i2 : n2.f1 = z := by unfold Topo.isR at i2; simpa using i2
    have hf := (m4 n2.f0).2 ⟨n2, hn2, by unfold Topo.isL; have : n2.f2 = r := o2; simp [i2, this], rfl, w2⟩
    generalize hk4 : kids l g st4 z r = k4' at hf m4
    cases k4' with
    | nil => cases hf
    | cons q qs =>
      obtain ⟨n3, hn3, i3, o3, w3⟩ := (m4 q).1 List.mem_cons_self
      have o3 : n3.f0 = q := o3
      have i3 : n3.f1 = z := by
        unfold Topo.isL at i3
        rw [Bool.and_eq_true, Bool.or_eq_true, beq_iff_eq, beq_iff_eq] at i3
        rcases i3.1 with c | c
        · omega
        · exact c
      refine ⟨n3, hn3, i3, w3, r, ?_⟩
      unfold pick
      rw [e3, List.flatMap_cons, List.flatMap_nil, List.append_nil]
      unfold chooseL
      rw [show kids l g st4 (⟨z, r, 0⟩ : T_place_item).f0 (⟨z, r, 0⟩ : T_place_item).f1 = q :: qs from hk4, o3]
      rfl
theorem emit_all (size : Int) : ∀ (hand : List T_place_item) (out : List Int), ((out.length + hand.length : Nat) : Int) ≤ size → (hand.map (fun x => x.f2)).Nodup → (∀ x ∈ hand, ¬ x.f2 ∈ out) → hand.foldl (emit size) out = out ++ hand.map (fun x => x.f2)
  | [], out, _, _, _ => (List.append_nil _).symm
  | x :: r, out, hl, hn, ho => by
    rw [List.map_cons] at hn ⊢
    obtain ⟨h1, h2⟩ := List.nodup_cons.1 hn
    rw [List.length_cons] at hl
    rw [List.foldl_cons, emit, if_pos ⟨by omega, ho x List.mem_cons_self⟩, emit_all size r (out ++ [x.f2]) (by rw [List.length_append, List.length_singleton]; omega) h2, List.append_assoc]
    · rfl
    · intro y hy hm
      rcases List.mem_append.1 hm with hm | hm
      · exact ho y (List.mem_cons_of_mem _ hy) hm
      · exact h1 (List.mem_map.2 ⟨y, hy, List.mem_singleton.1 hm⟩)
theorem zone_mem {l : List T_api_Node} (h : Topo.Nodes l) (g : Int) (z : Int) : z ∈ zonesOf l g ↔ ∃ n ∈ l, n.f1 = z ∧ 0 < Topo.weight n := by
  unfold zonesOf
  rw [kid_mem h]
  exact ⟨fun ⟨n, hn, _, q1, q2⟩ => ⟨n, hn, q1, q2⟩, fun ⟨n, hn, q1, q2⟩ => ⟨n, hn, rfl, q1, q2⟩⟩
theorem zone_pk {l : List T_api_Node} (h : Topo.Nodes l) (g : Int) {z : Int} (hz : z ∈ zonesOf l g) : ∃ n ∈ l, n.f1 = z ∧ 0 < Topo.weight n ∧ pk l g z = n.f0 ∧ ∃ r, pick l g z = [⟨z, r, pk l g z⟩] := by
  have hz' := (zone_mem h g z).1 hz
  have h1 : 1 ≤ z := by
    obtain ⟨n, hn, q, _⟩ := hz'
    have := h.ok n hn
    unfold Topo.okN at this
    omega
  obtain ⟨n, hn, q1, q2, r, e⟩ := pick_one h g h1 hz'
  have e2 : pk l g z = n.f0 := by unfold pk; rw [e]; rfl
  exact ⟨n, hn, q1, q2, e2, r, e2 ▸ e⟩
theorem ord_nodup {key : Nat} {c : List T_api_Choice} (h : Draw.Chs c) : ((Draw.ord key c).map (fun x => x.f0)).Nodup := by
  have hp : ((Draw.heavy c).map (fun x => x.f0)).Nodup := by
    unfold List.Nodup
    rw [List.pairwise_map]
    exact (Draw.heavy_up h).imp (fun {a b} hab e => by omega)
  exact ((sortL_perm _ _).map (fun x : T_api_Choice => x.f0)).nodup_iff.2 hp
theorem zones_nodup {l : List T_api_Node} (h : Topo.Nodes l) (g : Int) : (zonesOf l g).Nodup := ord_nodup (zones_chs h)
theorem node_uniq {l : List T_api_Node} (h : Topo.Nodes l) {a b : T_api_Node} (ha : a ∈ l) (hb : b ∈ l) (e : a.f0 = b.f0) : a = b := by
  obtain ⟨i, hi, rfl⟩ := List.getElem_of_mem ha
  obtain ⟨j, hj, rfl⟩ := List.getElem_of_mem hb
  have hup := List.pairwise_iff_getElem.1 h.up
  rcases Nat.lt_trichotomy i j with c | c | c
  · have := hup i j hi hj c; omega
  · subst c; rfl
  · have := hup j i hj hi c; omega
theorem flatMap_congr' {α β : Type} {f g : α → List β} : ∀ {l : List α}, (∀ x ∈ l, f x = g x) → l.flatMap f = l.flatMap g
  | [], _ => rfl
  | x :: l, h => by
    rw [List.flatMap_cons, List.flatMap_cons, h x List.mem_cons_self, flatMap_congr' (fun y hy => h y (List.mem_cons_of_mem _ hy))]
theorem flatMap_one {α β : Type} (f : α → β) (l : List α) : l.flatMap (fun x => [f x]) = l.map f := by
  induction l with
  | nil => rfl
  | cons x l ih => rw [List.flatMap_cons, ih]; rfl
/-- By the common rule: the nodes of the first zones. -/
theorem run_common {l : List T_api_Node} (h : Topo.Nodes l) (g size : Int) (hs : 1 ≤ size ∧ size ≤ 3) : runL l (commonL size) g size = ((zonesOf l g).take size.toNat).map (pk l g) := by
  have e : runL l (commonL size) g size = ((((zonesOf l g).take size.toNat).map (fun z => (⟨z, 0, 0⟩ : T_place_item))).flatMap (chooseL l g st3) |>.flatMap (chooseL l g st4)).foldl (emit size) [] := by
    have e2 : chooseL l g (st2 size) ⟨0, 0, 0⟩ = ((zonesOf l g).take size.toNat).map (fun z => (⟨z, 0, 0⟩ : T_place_item)) := rfl
    have e1 : runL l (commonL size) g size = ((([⟨0, 0, 0⟩] : List T_place_item).flatMap (chooseL l g (st2 size))).flatMap (chooseL l g st3) |>.flatMap (chooseL l g st4)).foldl (emit size) [] := rfl
    rw [e1, List.flatMap_cons, List.flatMap_nil, List.append_nil, e2]
  have hmem : ∀ z ∈ (zonesOf l g).take size.toNat, z ∈ zonesOf l g := fun z hz => List.mem_of_mem_take hz
  have e3 : ((((zonesOf l g).take size.toNat).map (fun z => (⟨z, 0, 0⟩ : T_place_item))).flatMap (chooseL l g st3)).flatMap (chooseL l g st4) = ((zonesOf l g).take size.toNat).map (fun z => (pick l g z).headD ⟨0, 0, 0⟩) := by
    rw [List.flatMap_assoc, List.flatMap_map, ← flatMap_one]
    refine flatMap_congr' (fun z hz => ?_)
    obtain ⟨n, _, _, _, _, r, e⟩ := zone_pk h g (hmem z hz)
    show pick l g z = [(pick l g z).headD ⟨0, 0, 0⟩]
    rw [e]
    rfl
  have hmap : ∀ L : List Int, (L.map (fun z => (pick l g z).headD ⟨0, 0, 0⟩)).map (fun x => x.f2) = L.map (pk l g) := fun L => by rw [List.map_map]; rfl
  rw [e, e3, emit_all, List.nil_append, hmap]
  · rw [List.length_map, List.length_take, List.length_nil]
    omega
  · rw [hmap]
    have hnd : ((zonesOf l g).take size.toNat).Nodup := (zones_nodup h g).sublist (List.take_sublist _ _)
    unfold List.Nodup
    rw [List.pairwise_map]
    refine List.Pairwise.imp_of_mem ?_ hnd
    intro a b ha hb hab e
    obtain ⟨n, hn, q1, _, q2, _⟩ := zone_pk h g (hmem a ha)
    obtain ⟨n', hn', q1', _, q2', _⟩ := zone_pk h g (hmem b hb)
    have : n = n' := node_uniq h hn hn' (by omega)
    subst this
    exact hab (by omega)
  · intro x _ hx
    cases hx
theorem common_may {size : Int} (hs : 1 ≤ size ∧ size ≤ 3) : Rule.May (commonL size) := by
  have : size = 1 ∨ size = 2 ∨ size = 3 := by omega
  rcases this with rfl | rfl | rfl <;> decide
/-- The nodes that the common rule tells. -/
def ofCommon (l : List T_api_Node) (g size : Int) : List Int := if Topo.Nodes l ∧ (0 ≤ g ∧ g < 8) ∧ 1 ≤ size ∧ size ≤ 3 then ((zonesOf l g).take size.toNat).map (pk l g) else []
theorem of_ (l : List T_api_Node) (g size : Int) : Ev (fun k => place_Of.f k l g size) (ofCommon l g size) := by
  unfold place_Of.f
  have hc : Ev (fun k => place_Common.f k size) (if 1 ≤ size ∧ size ≤ 3 then commonL size else []) := ⟨1, fun k hk => by
    obtain ⟨k, rfl⟩ : ∃ m, k = m + 1 := ⟨k - 1, by omega⟩
    exact Rule.common k size⟩
  refine .b hc (.b (run l _ g size) (.cv ?_))
  unfold ofCommon
  by_cases c : Topo.Nodes l ∧ (0 ≤ g ∧ g < 8) ∧ 1 ≤ size ∧ size ≤ 3
  · rw [if_pos c, if_pos c.2.2, if_pos ⟨c.1, common_may c.2.2, c.2.1, c.2.2⟩]
    exact run_common c.1 g size c.2.2
  · rw [if_neg c, if_neg]
    · exact fun m => c ⟨m.1, m.2.2.1, m.2.2.2⟩

theorem find_node {l : List T_api_Node} (h : Topo.Nodes l) {n : T_api_Node} (hn : n ∈ l) : l.find? (fun m => decide (m.f0 = n.f0)) = some n := by
  cases hf : l.find? (fun m => decide (m.f0 = n.f0)) with
  | none =>
    have := List.find?_eq_none.1 hf n hn
    simp at this
  | some m =>
    have h1 := List.find?_some hf
    have h2 := List.mem_of_find?_eq_some hf
    rw [node_uniq h h2 hn (of_decide_eq_true h1)]

/-! little moving: a zone that weighs less -/
structure Less (z : Int) (c c' : List T_api_Choice) : Prop where
  left : ∀ x ∈ c', x.f0 ≠ z → x ∈ c
  right : ∀ x ∈ c, x.f0 ≠ z → x ∈ c'
  less : ∀ y ∈ c', y.f0 = z → ∃ x ∈ c, x.f0 = z ∧ y.f1 ≤ x.f1
theorem Less.filter {z : Int} {c c' : List T_api_Choice} (h : Less z c c') (id : Int) : Less z (c.filter (fun x => !(x.f0 == id))) (c'.filter (fun x => !(x.f0 == id))) := by
  refine ⟨fun x hx hz => ?_, fun x hx hz => ?_, fun y hy hz => ?_⟩
  · obtain ⟨h1, h2⟩ := List.mem_filter.1 hx
    exact List.mem_filter.2 ⟨h.left x h1 hz, h2⟩
  · obtain ⟨h1, h2⟩ := List.mem_filter.1 hx
    exact List.mem_filter.2 ⟨h.right x h1 hz, h2⟩
  · obtain ⟨h1, h2⟩ := List.mem_filter.1 hy
    obtain ⟨x, q1, q2, q3⟩ := h.less y h1 hz
    exact ⟨x, List.mem_filter.2 ⟨q1, by rw [q2]; rwa [hz] at h2⟩, q2, q3⟩
theorem head_best {key : Nat} {c t : List T_api_Choice} {x : T_api_Choice} (hc : Draw.Chs c) (h : Draw.ord key c = x :: t) : Draw.isBest key c x := by
  have hf := Draw.heavy_fine hc
  have hs := sortL_sorted (Draw.ltB_sw key _ hf) _ (fun y hy => hy)
  unfold Draw.ord at h
  rw [h] at hs
  have hm : ∀ y, y ∈ Draw.heavy c ↔ y = x ∨ y ∈ t := fun y => by rw [← sortL_mem (Draw.ltB key), h, List.mem_cons]
  have hx := (hm x).2 (.inl rfl)
  refine ⟨hx, fun y hy => ?_⟩
  by_cases e : x.f0 = y.f0
  · exact .inl (hf.2 y hy x hx e.symm)
  · rcases (hm y).1 hy with rfl | h1
    · exact absurd rfl e
    · have := of_decide_eq_false ((List.pairwise_cons.1 hs).1 y h1)
      exact .inr ((Draw.ltD_total key x y e).resolve_right this)
theorem less_lt {key : Nat} {x y y0 : T_api_Choice} (e : y.f0 = y0.f0) (h1 : y.f1 ≤ y0.f1) (h : Draw.ltD key x y0) : Draw.ltD key x y := by
  have hd := (Draw.dc_bound key x.f0).1
  unfold Draw.ltD at h ⊢
  rw [e]
  have hm := Int.mul_le_mul_of_nonneg_left h1 hd
  rcases h with h | ⟨h, h'⟩
  · exact .inl (Int.lt_of_le_of_lt hm h)
  · exact .inr ⟨Int.le_trans hm h, h'⟩
theorem less_prefix (key : Nat) (z : Int) : ∀ (p r c c' : List T_api_Choice), Draw.Chs c → Draw.Chs c' → Less z c c' → Draw.ord key c = p ++ r → (∀ x ∈ p, x.f0 ≠ z) → ∃ r', Draw.ord key c' = p ++ r'
  | [], _, _, c', _, _, _, _, _ => ⟨Draw.ord key c', rfl⟩
  | x :: p, r, c, c', hc, hc', hL, h, hp => by
    have hb := head_best hc h
    have hxz := hp x List.mem_cons_self
    have hb' : Draw.isBest key c' x := by
      have hx := List.mem_filter.1 hb.1
      refine ⟨List.mem_filter.2 ⟨hL.right x hx.1 hxz, hx.2⟩, fun y hy => ?_⟩
      have hy2 := List.mem_filter.1 hy
      by_cases e : y.f0 = z
      · obtain ⟨y0, q1, q2, q3⟩ := hL.less y hy2.1 e
        have w0 := (hc'.ok y hy2.1).2.1
        have w1 : y.f1 ≠ 0 := by simpa using hy2.2
        have hy0 : y0 ∈ Draw.heavy c := List.mem_filter.2 ⟨q1, by simp; omega⟩
        rcases hb.2 y0 hy0 with rfl | hlt
        · exact absurd q2 hxz
        · exact .inr (less_lt (e.trans q2.symm) q3 hlt)
      · exact hb.2 y (List.mem_filter.2 ⟨hL.left y hy2.1 e, hy2.2⟩)
    have e1 := Draw.best_first key hc hb
    have e2 := Draw.best_first key hc' hb'
    rw [h] at e1
    obtain ⟨r', hr'⟩ := less_prefix key z p r _ _ (hc.filter _) (hc'.filter _) (hL.filter x.f0) (List.cons.inj e1).2.symm (fun y hy => hp y (List.mem_cons_of_mem _ hy))
    exact ⟨r', by rw [e2, hr']; rfl⟩
/-- A node that is out. -/
def out (n : T_api_Node) : T_api_Node := ⟨n.f0, n.f1, n.f2, n.f3, n.f4, false⟩
theorem out_rise (n : T_api_Node) (b : List T_api_Node) : ∀ (p : Int) (a : List T_api_Node), Topo.rise p (a ++ out n :: b) = Topo.rise p (a ++ n :: b)
  | _, [] => rfl
  | p, x :: a => by
    rw [List.cons_append, List.cons_append, Topo.rise, Topo.rise, out_rise n b x.f0 a]
theorem out_nodes {n : T_api_Node} {a b : List T_api_Node} (h : Topo.Nodes (a ++ n :: b)) : Topo.Nodes (a ++ out n :: b) := by
  refine ⟨?_, (out_rise n b 0 a).trans h.2⟩
  have := h.1
  rw [List.length_append, List.length_cons] at this ⊢
  exact this
theorem out_wL (is : T_api_Node → Bool) (of : T_api_Node → Int) (n : T_api_Node) (a b : List T_api_Node) (h : is n = false) (h' : is (out n) = false) : Topo.wL is of (a ++ out n :: b) = Topo.wL is of (a ++ n :: b) := by
  unfold Topo.wL
  rw [List.foldl_append, List.foldl_append, List.foldl_cons, List.foldl_cons]
  congr 1
  unfold Topo.wOne
  rw [h, h']
  rfl
theorem wSum_mid (is : T_api_Node → Bool) (of : T_api_Node → Int) (n : T_api_Node) (a b : List T_api_Node) (id : Int) : Topo.wSum is of (a ++ n :: b) id = Topo.wSum is of a id + (if is n = true ∧ of n = id then Topo.weight n else 0) + Topo.wSum is of b id := by
  have e : a ++ n :: b = (a ++ [n]) ++ b := by rw [List.append_assoc]; rfl
  have e2 := Topo.wSum_snoc is of a n id
  unfold Topo.wSum at e2 ⊢
  rw [e, List.filter_append, List.map_append, List.sum_append, e2]
theorem wIs_mid (n : T_api_Node) (a b : List T_api_Node) (id : Int) : Topo.wIs Topo.isZ Topo.ofZ (a ++ out n :: b) id ↔ Topo.wIs Topo.isZ Topo.ofZ (a ++ n :: b) id := by
  unfold Topo.wIs
  simp only [List.mem_append, List.mem_cons]
  constructor
  · rintro ⟨x, hx | rfl | hx, h⟩
    · exact ⟨x, .inl hx, h⟩
    · exact ⟨n, .inr (.inl rfl), h⟩
    · exact ⟨x, .inr (.inr hx), h⟩
  · rintro ⟨x, hx | rfl | hx, h⟩
    · exact ⟨x, .inl hx, h⟩
    · exact ⟨out x, .inr (.inl rfl), h⟩
    · exact ⟨x, .inr (.inr hx), h⟩
theorem out_less {n : T_api_Node} {a b : List T_api_Node} (h : Topo.Nodes (a ++ n :: b)) : Less n.f1 (Topo.wL Topo.isZ Topo.ofZ (a ++ n :: b)) (Topo.wL Topo.isZ Topo.ofZ (a ++ out n :: b)) := by
  have h' := out_nodes h
  have hW := (Topo.wL_full Topo.isZ Topo.ofZ h).1
  have hW' := (Topo.wL_full Topo.isZ Topo.ofZ h').1
  have hw0 : Topo.weight (out n) = 0 := rfl
  have hwn := Topo.weight_ok (h.okW n (by simp))
  have hs : ∀ id, id ≠ n.f1 → Topo.wSum Topo.isZ Topo.ofZ (a ++ out n :: b) id = Topo.wSum Topo.isZ Topo.ofZ (a ++ n :: b) id := by
    intro id hid
    rw [wSum_mid, wSum_mid, if_neg (fun e => hid e.2.symm), if_neg (fun e => hid e.2.symm)]
  refine ⟨fun x hx hz => ?_, fun x hx hz => ?_, fun y hy hz => ?_⟩
  · have := (hW'.mem x).1 hx
    rw [wIs_mid, hs _ hz] at this
    exact (hW.mem x).2 this
  · have := (hW.mem x).1 hx
    rw [← wIs_mid, ← hs _ hz] at this
    exact (hW'.mem x).2 this
  · have := (hW'.mem y).1 hy
    rw [wIs_mid, hz] at this
    refine ⟨⟨n.f1, Topo.cap (Topo.wSum Topo.isZ Topo.ofZ (a ++ n :: b) n.f1)⟩, (hW.mem _).2 ⟨this.1, rfl⟩, rfl, ?_⟩
    rw [this.2, wSum_mid, wSum_mid, hw0]
    show Topo.cap _ ≤ Topo.cap _
    have e : ∀ x y : Int, x ≤ y → Topo.cap x ≤ Topo.cap y := by
      intro x y hxy
      unfold Topo.cap
      split <;> split <;> omega
    refine e _ _ ?_
    split <;> split <;> omega
theorem isR_other {n : T_api_Node} {z : Int} (h : z ≠ n.f1) : Topo.isR z n = false ∧ Topo.isR z (out n) = false := by
  have : Topo.isR z n = false := by unfold Topo.isR; simpa using fun e => h e.symm
  exact ⟨this, this⟩
theorem isL_other {n : T_api_Node} {z : Int} (r : Int) (h : z ≠ n.f1) (h0 : z ≠ 0) : Topo.isL z r n = false ∧ Topo.isL z r (out n) = false := by
  have : Topo.isL z r n = false := by
    unfold Topo.isL
    have e1 : (z == 0) = false := by simpa using h0
    have e2 : (n.f1 == z) = false := by simpa using fun e => h e.symm
    rw [e1, e2]
    rfl
  exact ⟨this, this⟩
theorem out_pick {n : T_api_Node} {a b : List T_api_Node} (g z : Int) (h : z ≠ n.f1) (h0 : z ≠ 0) : pick (a ++ out n :: b) g z = pick (a ++ n :: b) g z := by
  have e3 : ∀ (s : T_api_Step), s = st3 → chooseL (a ++ out n :: b) g s ⟨z, 0, 0⟩ = chooseL (a ++ n :: b) g s ⟨z, 0, 0⟩ := by
    intro s hs
    subst hs
    unfold chooseL kids
    rw [if_neg (show ¬ st3.f1 = 1 by decide), if_pos (show st3.f1 = 2 from rfl), if_neg (show ¬ st3.f1 = 1 by decide), if_pos (show st3.f1 = 2 from rfl), out_wL _ _ n a b (isR_other h).1 (isR_other h).2]
  have e4 : ∀ r, chooseL (a ++ out n :: b) g st4 ⟨z, r, 0⟩ = chooseL (a ++ n :: b) g st4 ⟨z, r, 0⟩ := by
    intro r
    unfold chooseL kids
    rw [if_neg (show ¬ st4.f1 = 1 by decide), if_neg (show ¬ st4.f1 = 2 by decide), if_neg (show ¬ st4.f1 = 1 by decide), if_neg (show ¬ st4.f1 = 2 by decide), out_wL _ _ n a b (isL_other r h h0).1 (isL_other r h h0).2]
  unfold pick
  rw [e3 _ rfl]
  refine flatMap_congr' (fun x hx => ?_)
  unfold chooseL at hx
  obtain ⟨id, _, rfl⟩ := List.mem_map.1 hx
  exact e4 id

theorem awake (k : Nat) : windroselaw07_awake.f (k + 1100) = some true := by kernel_rfl
theorem awakes : Ev (fun k => windroselaw07_awake.f k) true := ⟨1100, fun k hk => by
  obtain ⟨k, rfl⟩ : ∃ m, k = m + 1100 := ⟨k - 1100, by omega⟩
  exact awake k⟩
theorem same_until {n : T_api_Node} {a b : List T_api_Node} (h : Topo.Nodes (a ++ n :: b)) (g : Int) (i : Nat) (hi : i < (zonesOf (a ++ n :: b) g).length) (hz : ∀ z ∈ (zonesOf (a ++ n :: b) g).take (i + 1), z ≠ n.f1) : ∃ h2 : i < (zonesOf (a ++ out n :: b) g).length, (zonesOf (a ++ out n :: b) g)[i] = (zonesOf (a ++ n :: b) g)[i] := by
  unfold zonesOf at hi hz ⊢
  have hcut := (List.take_append_drop (i + 1) (Draw.ord (Mixn.fold (Draw.un g) [Draw.un 1, Draw.un 0, Draw.un 0]) (Topo.wL Topo.isZ Topo.ofZ (a ++ n :: b)))).symm
  obtain ⟨r', hr'⟩ := less_prefix _ n.f1 _ _ _ _ (zones_chs h) (zones_chs (out_nodes h)) (out_less h) hcut (fun x hx => hz x.f0 (by rw [← List.map_take]; exact List.mem_map.2 ⟨x, hx, rfl⟩))
  rw [List.length_map] at hi
  have h2 : i < ((Draw.ord (Mixn.fold (Draw.un g) [Draw.un 1, Draw.un 0, Draw.un 0]) (Topo.wL Topo.isZ Topo.ofZ (a ++ out n :: b))).map (fun x => x.f0)).length := by
    rw [List.length_map, hr', List.length_append, List.length_take]
    omega
  refine ⟨h2, ?_⟩
  simp only [List.getElem_map, hr']
  rw [List.getElem_append_left (by rw [List.length_take]; omega), List.getElem_take]
theorem moves_l66 {n : T_api_Node} {a b : List T_api_Node} (h : Topo.Nodes (a ++ n :: b)) (g x2 : Int) (hx : ((w64 x2).tmod ((a ++ n :: b).length : Int)) = (a.length : Int)) : ∀ (d i : Nat), i + d = ((zonesOf (a ++ n :: b) g).take 3).length → (∀ z ∈ (zonesOf (a ++ n :: b) g).take i, z ≠ n.f1) →
    Ev (fun k => windroselaw07_PlaceMoves.l66 k (a ++ n :: b) x2 (((zonesOf (a ++ n :: b) g).take 3).map (pk (a ++ n :: b) g)) (((zonesOf (a ++ out n :: b) g).take 3).map (pk (a ++ out n :: b) g)) (i : Int)) true := by
  have aw : Ev (fun k => (windroselaw07_awake.f k).bind fun t => some t) true := .b awakes (.c _)
  have hl := h.1
  have hna : nth T_api_Node.z (a ++ n :: b) (a.length : Int) = n := by
    rw [nth_get _ _ _ (by rw [List.length_append, List.length_cons]; omega), List.getElem_append_right (Nat.le_refl _)]
    simp
  have hlen : (a ++ n :: b).length = a.length + (b.length + 1) := by rw [List.length_append, List.length_cons]
  intro d
  induction d with
  | zero =>
    intro i hi hz
    refine .s (fun k => windroselaw07_PlaceMoves.l66_s k _ _ _ _ _) (.n (by rw [List.length_map]; omega) aw)
  | succ d ih =>
    intro i hi hz
    have hi3 : i < ((zonesOf (a ++ n :: b) g).take 3).length := by omega
    have h1 : i < (((zonesOf (a ++ n :: b) g).take 3).map (pk (a ++ n :: b) g)).length := by rw [List.length_map]; omega
    have hi2 : i < (zonesOf (a ++ n :: b) g).length ∧ i < 3 := by rw [List.length_take] at hi3; omega
    have ih := ih (i + 1) (by omega)
    refine .s (fun k => windroselaw07_PlaceMoves.l66_s k _ _ _ _ _) (.t (by omega) (.t (by omega) ?_))
    have hg : (((zonesOf (a ++ n :: b) g).take 3).map (pk (a ++ n :: b) g))[i] = pk (a ++ n :: b) g (zonesOf (a ++ n :: b) g)[i] := by rw [List.getElem_map, List.getElem_take]
    rw [nth_get _ _ _ h1, hx, hna, hg]
    obtain ⟨nd, hn1, q1, q3, q2, _⟩ := zone_pk h g (List.getElem_mem hi2.1)
    refine .b (Topo.reffind _ _ (by omega)) ?_
    unfold Topo.find
    rw [q2, find_node h hn1]
    have stop : ∀ y, (y = true ∨ (zonesOf (a ++ n :: b) g)[i] ≠ n.f1) → Ev (fun k => windroselaw07_PlaceMoves.j99 k (a ++ n :: b) x2 (((zonesOf (a ++ n :: b) g).take 3).map (pk (a ++ n :: b) g)) (((zonesOf (a ++ out n :: b) g).take 3).map (pk (a ++ out n :: b) g)) (i : Int) y) true := by
      intro y hy
      refine .s (fun k => windroselaw07_PlaceMoves.j99_s k _ _ _ _ _ _) (.i (fun c => aw) (fun c => ?_))
      have hne := hy.resolve_left c
      have hz' : ∀ z ∈ (zonesOf (a ++ n :: b) g).take (i + 1), z ≠ n.f1 := by
        intro z hm
        rw [← List.take_append_getElem hi2.1] at hm
        rcases List.mem_append.1 hm with hm | hm
        · exact hz z hm
        · rw [List.mem_singleton.1 hm]
          exact hne
      obtain ⟨h5, h6⟩ := same_until h g i hi2.1 hz'
      have h7 : i < (((zonesOf (a ++ out n :: b) g).take 3).map (pk (a ++ out n :: b) g)).length := by rw [List.length_map, List.length_take]; omega
      have h0 : (zonesOf (a ++ n :: b) g)[i] ≠ 0 := by
        have := h.ok nd hn1
        unfold Topo.okN at this
        omega
      refine .n (by omega) (.t (by omega) (.s (fun k => windroselaw07_PlaceMoves.j122_s k _ _ _ _ _ _) (.n ?_ ?_)))
      · rw [nth_get _ _ _ h1, nth_get _ _ _ h7, hg, List.getElem_map, List.getElem_take, h6]
        have : pk (a ++ out n :: b) g (zonesOf (a ++ n :: b) g)[i] = pk (a ++ n :: b) g (zonesOf (a ++ n :: b) g)[i] := by
          unfold pk
          rw [out_pick g _ hne h0]
        rw [this]
        simp
      · rw [w64n i (by omega)]
        exact ih hz'
    refine .t (by omega) (.i (fun c => stop _ (.inl rfl)) (fun c => stop _ (.inr ?_)))
    rw [← q1]
    exact c
end Place
theorem purePlaceMoves : PurePlaceMoves := by
  intro l g x2 hl _ hx2
  have hl := hl.1
  refine Ev.one (f := fun k => windroselaw07_PlaceMoves.f k l g x2) (v := true) ?_
  unfold windroselaw07_PlaceMoves.f
  have aw : Ev (fun k => windroselaw07_PlaceMoves.j12 k l g x2 true) true := .s (fun k => windroselaw07_PlaceMoves.j12_s k _ _ _ _) (.t rfl (.b Place.awakes (.c _)))
  refine .i (fun _ => aw) (fun c40 => .b (Topo.may l (by omega)) ?_)
  by_cases h : Topo.Nodes l
  · rw [decide_eq_true h]
    refine .t rfl (.i (fun _ => aw) (fun c1 => .i (fun _ => aw) (fun c2 => ?_)))
    by_cases h0 : l.length = 0
    · rw [h0]
      exact aw
    · have e0 : ((l.length : Int) == 0) = false := by simpa using h0
      rw [e0]
      have hb : 0 ≤ x2 ∧ x2 ≤ 255 := by
        have h1 := hx2
        rw [Lit.wf, Bool.and_eq_true] at h1
        have h2 : (0 : Int) ≤ x2 := of_decide_eq_true h1.1
        have h3 : x2 ≤ (255 : Int) := of_decide_eq_true h1.2
        omega
      have hx : (w64 x2).tmod (l.length : Int) = ((x2.toNat % l.length : Nat) : Int) := by
        rw [w64_of (by omega) (by omega), Int.tmod_eq_emod_of_nonneg hb.1, Int.natCast_emod, Int.toNat_of_nonneg hb.1]
      have hK : x2.toNat % l.length < l.length := Nat.mod_lt _ (by omega)
      refine .s (fun k => windroselaw07_PlaceMoves.j12_s k _ _ _ _) (.n (by decide) (.t (by show ((0 : Nat) + (l.length : Int)) * 40 ≤ _; omega) (.t (by omega) ?_)))
      rw [List.nil_append]
      generalize hKe : x2.toNat % l.length = K at hx hK
      rw [hx]
      refine .t (by omega) ?_
      rw [nth_get _ _ _ hK, Int.toNat_natCast]
      have el : l = l.take K ++ l[K] :: l.drop (K + 1) := by rw [← List.drop_eq_getElem_cons hK, List.take_append_drop]
      have em : l.set K (⟨l[K].f0, l[K].f1, l[K].f2, l[K].f3, l[K].f4, false⟩ : T_api_Node) = l.take K ++ Place.out l[K] :: l.drop (K + 1) := by
        rw [List.set_eq_take_append_cons_drop, if_pos hK]
        rfl
      rw [em]
      have hlK : (l.take K).length = K := by rw [List.length_take]; omega
      generalize l[K] = n at *
      generalize l.take K = a at *
      generalize l.drop (K + 1) = b at *
      subst el
      subst hlK
      refine .b (Place.of_ _ g 3) (.b (Place.of_ _ g 3) ?_)
      unfold Place.ofCommon
      rw [if_pos ⟨h, ⟨by omega, by omega⟩, by decide⟩, if_pos ⟨Place.out_nodes h, ⟨by omega, by omega⟩, by decide⟩]
      exact Place.moves_l66 h g x2 hx _ 0 (Nat.zero_add _) (fun z hz => nomatch hz)
  · rw [decide_eq_false h]
    exact .n (by decide) aw
end Go.Proofs.Ytihjknnhbgkinaa.SM
