/- The law MapsStands, plain. -/
import Derived.Test.YtpohepinmjmbkaaGreatMSoMapsStands
import Derived.Test.YtpohepinmjmbkaaGreatMixn
import Derived.Test.YtpohepinmjmbkaaGreatNegn
namespace Go.Proofs.YtpohepinmjmbkaaGreat.MS
open Go Go.RowKit Go.Proofs.YtpohepinmjmbkaaGreat Go.Proofs.YtpohepinmjmbkaaGreat.Sl
set_option linter.unusedVariables false
set_option linter.unusedSimpArgs false
theorem w64n (i : Nat) (h : i < 9223372036854775807) : w64 ((i : Int) + 1) = ((i + 1 : Nat) : Int) := by rw [w64_of (by omega) (by omega)]; omega
theorem w64p (i : Nat) (h : i < 9223372036854775807) (h0 : 0 < i) : w64 ((i : Int) - 1) = ((i - 1 : Nat) : Int) := by rw [w64_of (by omega) (by omega)]; omega
theorem nth_get {α : Type} (z : α) (l : List α) (i : Nat) (h : i < l.length) : nth z l (i : Int) = l[i] := by simp [nth, h]
/-- In the end, with fuel enough, a run answers so. -/
def Ev {β : Type} (f : Nat → Option β) (v : β) : Prop := ∃ K, ∀ k, K ≤ k → f k = some v
theorem Ev.c {β : Type} (v : β) : Ev (fun _ => some v) v := ⟨0, fun _ _ => rfl⟩
theorem Ev.cv {β : Type} {v w : β} (h : v = w) : Ev (fun _ => some v) w := ⟨0, fun _ _ => congrArg some h⟩
theorem Ev.v {β : Type} {f : Nat → Option β} {v w : β} (h : Ev f v) (e : v = w) : Ev f w := e ▸ h
theorem Ev.s {β : Type} {f g : Nat → Option β} {v : β} (h : ∀ k, f (k + 1) = g k) (hg : Ev g v) : Ev f v := by
  obtain ⟨K, hK⟩ := hg
  refine ⟨K + 1, fun k hk => ?_⟩
  obtain ⟨k, rfl⟩ : ∃ m, k = m + 1 := ⟨k - 1, by omega⟩
  rw [h]
  exact hK k (by omega)
theorem Ev.e {β : Type} {f g : Nat → Option β} {v : β} (h : ∀ k, f k = g k) (hg : Ev g v) : Ev f v := by
  obtain ⟨K, hK⟩ := hg
  exact ⟨K, fun k hk => (h k).trans (hK k hk)⟩
theorem Ev.b {α β : Type} {f : Nat → Option α} {g : Nat → α → Option β} {a : α} {v : β} (hf : Ev f a) (hg : Ev (fun k => g k a) v) : Ev (fun k => (f k).bind (g k)) v := by
  obtain ⟨K, hK⟩ := hf
  obtain ⟨L, hL⟩ := hg
  refine ⟨K + L, fun k hk => ?_⟩
  show (f k).bind (g k) = some v
  rw [hK k (by omega), Option.bind_some]
  exact hL k (by omega)
theorem Ev.b0 {α β : Type} {o : Option α} {g : Nat → α → Option β} {a : α} {v : β} (ho : o = some a) (hg : Ev (fun k => g k a) v) : Ev (fun k => o.bind (g k)) v := Ev.b ⟨0, fun _ _ => ho⟩ hg
theorem Ev.i {β : Type} {c : Prop} [Decidable c] {f g : Nat → Option β} {v : β} (hf : c → Ev f v) (hg : ¬ c → Ev g v) : Ev (fun k => if c then f k else g k) v := by
  by_cases h : c
  · simpa only [if_pos h] using hf h
  · simpa only [if_neg h] using hg h
theorem Ev.t {β : Type} {c : Prop} [Decidable c] {f g : Nat → Option β} {v : β} (h : c) (hf : Ev f v) : Ev (fun k => if c then f k else g k) v := Ev.i (fun _ => hf) (fun n => absurd h n)
theorem Ev.n {β : Type} {c : Prop} [Decidable c] {f g : Nat → Option β} {v : β} (h : ¬ c) (hg : Ev g v) : Ev (fun k => if c then f k else g k) v := Ev.i (fun n => absurd n h) (fun _ => hg)
theorem Ev.and {α β : Type} {f : Nat → Option α} {g : Nat → Option β} {v : α} {w : β} (hf : Ev f v) (hg : Ev g w) : ∃ k, f k = some v ∧ g k = some w := by
  obtain ⟨K, hK⟩ := hf
  obtain ⟨L, hL⟩ := hg
  exact ⟨K + L, hK _ (by omega), hL _ (by omega)⟩
theorem Ev.one {α : Type} {f : Nat → Option α} {v : α} (hf : Ev f v) : ∃ k, f k = some v := by
  obtain ⟨K, hK⟩ := hf
  exact ⟨K, hK _ (by omega)⟩
/-- The answer's number: all well, or an argument that may not be. -/
def eno : Bool → Int
  | true => 0
  | false => 1

/-- A run answers in the end, and the answer is such. -/
def Ht {β : Type} (f : Nat → Option β) (P : β → Prop) : Prop := ∃ v, Ev f v ∧ P v
theorem Ht.c {β : Type} {v : β} {P : β → Prop} (h : P v) : Ht (fun _ => some v) P := ⟨v, .c v, h⟩
theorem Ht.s {β : Type} {f g : Nat → Option β} {P : β → Prop} (h : ∀ k, f (k + 1) = g k) : Ht g P → Ht f P := fun ⟨v, e, p⟩ => ⟨v, .s h e, p⟩
theorem Ht.b {α β : Type} {f : Nat → Option α} {g : Nat → α → Option β} {Q : α → Prop} {P : β → Prop} : Ht f Q → (∀ a, Q a → Ht (fun k => g k a) P) → Ht (fun k => (f k).bind (g k)) P := fun ⟨a, e, q⟩ h => by
  obtain ⟨v, e2, p⟩ := h a q
  exact ⟨v, .b e e2, p⟩
theorem Ht.e {α β : Type} {f : Nat → Option α} {g : Nat → α → Option β} {a : α} {P : β → Prop} (e : Ev f a) : Ht (fun k => g k a) P → Ht (fun k => (f k).bind (g k)) P := fun ⟨v, e2, p⟩ => ⟨v, .b e e2, p⟩
theorem Ht.o {α β : Type} {o : Option α} {g : Nat → α → Option β} {a : α} {P : β → Prop} (e : o = some a) : Ht (fun k => g k a) P → Ht (fun k => o.bind (g k)) P := fun ⟨v, e2, p⟩ => ⟨v, .b0 e e2, p⟩
theorem Ht.i {β : Type} {c : Prop} [Decidable c] {f g : Nat → Option β} {P : β → Prop} (hf : c → Ht f P) (hg : ¬ c → Ht g P) : Ht (fun k => if c then f k else g k) P := by
  by_cases h : c
  · simpa only [if_pos h] using hf h
  · simpa only [if_neg h] using hg h
theorem Ht.t {β : Type} {c : Prop} [Decidable c] {f g : Nat → Option β} {P : β → Prop} (h : c) (hf : Ht f P) : Ht (fun k => if c then f k else g k) P := .i (fun _ => hf) (fun n => absurd h n)
theorem Ht.n {β : Type} {c : Prop} [Decidable c] {f g : Nat → Option β} {P : β → Prop} (h : ¬ c) (hg : Ht g P) : Ht (fun k => if c then f k else g k) P := .i (fun n => absurd n h) (fun _ => hg)
theorem Ht.m {β : Type} {f : Nat → Option β} {P Q : β → Prop} (h : ∀ v, P v → Q v) : Ht f P → Ht f Q := fun ⟨v, e, p⟩ => ⟨v, e, h v p⟩

namespace Topo
/-! nodes -/
theorem tin (x a b : Int) : topo_in.f x a b = some (decide (a ≤ x ∧ x ≤ b)) := by
  unfold topo_in.f
  by_cases h : x ≥ a
  · rw [if_pos h]
    congr 1
    simp only [decide_eq_decide]
    omega
  · rw [if_neg h, decide_eq_false (by omega)]
def okN (n : T_api_Node) : Prop := (1 ≤ n.f0 ∧ n.f0 ≤ 999) ∧ (1 ≤ n.f1 ∧ n.f1 ≤ 9) ∧ (1 ≤ n.f2 ∧ n.f2 ≤ 9) ∧ 0 ≤ n.f3 ∧ n.f3 ≤ 65536
instance (n : T_api_Node) : Decidable (okN n) := inferInstanceAs (Decidable (_ ∧ _))
/-- Nodes that may be, their numbers rising from one on. -/
def rise : Int → List T_api_Node → Bool
  | _, [] => true
  | p, n :: l => decide (okN n ∧ p < n.f0) && rise n.f0 l
/-- The number ahead of a place. -/
def pre (l : List T_api_Node) (i : Nat) : Int := if i = 0 then 0 else (nth T_api_Node.z l (w64 ((i : Int) - 1))).f0
theorem pre_succ (l : List T_api_Node) (i : Nat) (h : i < l.length) (hl : l.length < 4611686018427387904) : pre l (i + 1) = l[i].f0 := by
  unfold pre
  rw [if_neg (by omega), w64p (i + 1) (by omega) (by omega), show i + 1 - 1 = i by omega, nth_get _ _ _ h]
def Nodes (l : List T_api_Node) : Prop := l.length ≤ 12 ∧ rise 0 l = true
instance (l : List T_api_Node) : Decidable (Nodes l) := inferInstanceAs (Decidable (_ ∧ _))
theorem check_l9 (l : List T_api_Node) (hl : l.length < 4611686018427387904) : ∀ (d i : Nat), i + d = l.length → Ev (fun k => topo_Check.l9 k l (i : Int)) (eno (rise (pre l i) (l.drop i))) := by
  intro d
  induction d with
  | zero =>
    intro i hi
    refine .s (fun k => topo_Check.l9_s k _ _) (.n (by omega) (.cv ?_))
    rw [List.drop_eq_nil_of_le (by omega)]
    rfl
  | succ d ih =>
    intro i hi
    have h1 : i < l.length := by omega
    refine .s (fun k => topo_Check.l9_s k _ _) (.t (by omega) (.t (by omega) ?_))
    have ih := ih (i + 1) (by omega)
    rw [pre_succ l i h1 hl] at ih
    rw [List.drop_eq_getElem_cons h1, nth_get _ _ _ h1]
    have hj : ∀ b : Bool, (b = true ↔ ¬ (okN l[i] ∧ pre l i < l[i].f0)) → Ev (fun k => topo_Check.j49 k l (i : Int) b) (eno (rise (pre l i) (l[i] :: l.drop (i + 1)))) := by
      intro b hb
      refine .s (fun k => topo_Check.j49_s k _ _ _) ?_
      simp only [rise]
      by_cases h : okN l[i] ∧ pre l i < l[i].f0
      · refine .n (fun e => (hb.1 e) h) ?_
        rw [w64n i (by omega), decide_eq_true h, Bool.true_and]
        exact ih
      · refine .t (hb.2 h) (.cv ?_)
        rw [decide_eq_false h, Bool.false_and]
        rfl
    clear ih
    have hp0 : i = 0 → pre l i = 0 := fun e => if_pos e
    have hp1 : i ≠ 0 → (nth T_api_Node.z l (w64 ((i : Int) - 1))).f0 = pre l i := fun e => (if_neg e).symm
    have hw : i ≠ 0 → w64 ((i : Int) - 1) = ((i - 1 : Nat) : Int) := fun e => w64p i (by omega) (by omega)
    unfold okN at hj
    generalize hv : eno (rise (pre l i) (l[i] :: l.drop (i + 1))) = v at hj ⊢
    clear hv
    generalize pre l i = p at *
    generalize (nth T_api_Node.z l (w64 ((i : Int) - 1))).f0 = q at *
    generalize l[i] = n at *
    repeat' (first | refine Ev.b0 (tin _ _ _) ?_ | refine Ev.i (fun _ => ?_) (fun _ => ?_))
    all_goals simp only [decide_eq_true_eq] at *
    all_goals first
      | exact hj _ (by simp only [decide_eq_true_eq, Bool.false_eq_true, true_iff, false_iff]; omega)
      | (exfalso; omega)
theorem check' (l : List T_api_Node) : Ev (fun k => topo_Check.f k l) (eno (decide (Nodes l))) := by
  unfold topo_Check.f
  refine .i (fun h => .cv ?_) (fun h => (check_l9 l (by omega) l.length 0 (by omega)).v ?_)
  · rw [decide_eq_false (fun n : Nodes l => by have := n.1; omega)]
    rfl
  · rw [show pre l 0 = 0 from rfl, List.drop_zero]
    congr 1
    rw [Bool.eq_iff_iff, decide_eq_true_eq]
    exact ⟨fun h0 => ⟨by omega, h0⟩, fun n => n.2⟩
theorem check (l : List T_api_Node) (_ : l.length < 4611686018427387904) : Ev (fun k => topo_Check.f k l) (eno (decide (Nodes l))) := check' l
theorem may_l5 (l : List T_api_Node) (hl : l.length < 4611686018427387904) : ∀ (d i : Nat), i + d = l.length → Ev (fun k => windroseref06_May.l5 k l (i : Int)) (rise (pre l i) (l.drop i) && decide (l.length ≤ 12)) := by
  intro d
  induction d with
  | zero =>
    intro i hi
    refine .s (fun k => windroseref06_May.l5_s k _ _) (.n (by omega) (.cv ?_))
    rw [List.drop_eq_nil_of_le (by omega)]
    simp only [rise, Bool.true_and, decide_eq_decide]
    omega
  | succ d ih =>
    intro i hi
    have h1 : i < l.length := by omega
    refine .s (fun k => windroseref06_May.l5_s k _ _) (.t (by omega) (.t (by omega) ?_))
    have ih := ih (i + 1) (by omega)
    rw [pre_succ l i h1 hl] at ih
    rw [List.drop_eq_getElem_cons h1, nth_get _ _ _ h1]
    have hj : ∀ b : Bool, (b = true ↔ ¬ (okN l[i] ∧ pre l i < l[i].f0)) → Ev (fun k => windroseref06_May.j37 k l (i : Int) b) (rise (pre l i) (l[i] :: l.drop (i + 1)) && decide (l.length ≤ 12)) := by
      intro b hb
      refine .s (fun k => windroseref06_May.j37_s k _ _ _) ?_
      simp only [rise]
      by_cases h : okN l[i] ∧ pre l i < l[i].f0
      · refine .n (fun e => (hb.1 e) h) ?_
        rw [w64n i (by omega), decide_eq_true h, Bool.true_and]
        exact ih
      · refine .t (hb.2 h) (.cv ?_)
        rw [decide_eq_false h, Bool.false_and, Bool.false_and]
    clear ih
    have hp0 : i = 0 → pre l i = 0 := fun e => if_pos e
    have hp1 : i ≠ 0 → (nth T_api_Node.z l (w64 ((i : Int) - 1))).f0 = pre l i := fun e => (if_neg e).symm
    have hw : i ≠ 0 → w64 ((i : Int) - 1) = ((i - 1 : Nat) : Int) := fun e => w64p i (by omega) (by omega)
    unfold okN at hj
    generalize hv : (rise (pre l i) (l[i] :: l.drop (i + 1)) && decide (l.length ≤ 12)) = v at hj ⊢
    clear hv
    generalize pre l i = p at *
    generalize (nth T_api_Node.z l (w64 ((i : Int) - 1))).f0 = q at *
    generalize l[i] = n at *
    repeat' (first | refine Ev.i (fun _ => ?_) (fun _ => ?_))
    all_goals first
      | exact hj _ (by simp only [decide_eq_true_eq, Bool.false_eq_true, true_iff, false_iff]; omega)
      | (exfalso; omega)
theorem may (l : List T_api_Node) (hl : l.length < 4611686018427387904) : Ev (fun k => windroseref06_May.f k l) (decide (Nodes l)) := by
  unfold windroseref06_May.f
  refine (may_l5 l hl l.length 0 (by omega)).v ?_
  rw [show pre l 0 = 0 from rfl, List.drop_zero, Bool.eq_iff_iff, Bool.and_eq_true, decide_eq_true_eq, decide_eq_true_eq]
  exact And.comm

theorem index_l5 (l : List Int) (v : Int) (hl : l.length < 4611686018427387904) : ∀ (d i : Nat), i + d = l.length → ∃ x, Ev (fun k => slices_Index__int_int.l5 k l v (i : Int)) x ∧ (0 ≤ x ↔ v ∈ l.drop i) := by
  intro d
  induction d with
  | zero =>
    intro i hi
    refine ⟨-1, .s (fun k => slices_Index__int_int.l5_s k _ _ _) (.n (by omega) (.c _)), ?_⟩
    rw [List.drop_eq_nil_of_le (by omega)]
    simp
  | succ d ih =>
    intro i hi
    have h1 : i < l.length := by omega
    obtain ⟨x, hx, hm⟩ := ih (i + 1) (by omega)
    by_cases h : v = l[i]
    · refine ⟨i, .s (fun k => slices_Index__int_int.l5_s k _ _ _) (.t (by omega) (.t (by omega) (.t (by rw [nth_get _ _ _ h1]; exact h) (.c _)))), ?_⟩
      rw [List.drop_eq_getElem_cons h1]
      exact ⟨fun _ => List.mem_cons.2 (.inl h), fun _ => by omega⟩
    · refine ⟨x, .s (fun k => slices_Index__int_int.l5_s k _ _ _) (.t (by omega) (.t (by omega) (.n (by rw [nth_get _ _ _ h1]; exact h) ?_))), ?_⟩
      · rw [w64n i (by omega)]
        exact hx
      · rw [List.drop_eq_getElem_cons h1, hm]
        exact ⟨fun m => List.mem_cons.2 (.inr m), fun m => (List.mem_cons.1 m).resolve_left h⟩
theorem contains (l : List Int) (v : Int) (hl : l.length < 4611686018427387904) : Ev (fun k => slices_Contains__int_int.f k l v) (decide (v ∈ l)) := by
  obtain ⟨x, hx, hm⟩ := index_l5 l v hl l.length 0 (by omega)
  unfold slices_Contains__int_int.f slices_Index__int_int.f
  refine .b hx (.cv ?_)
  rw [decide_eq_decide]
  exact hm

end Topo
namespace Draw
/-! mixing: what is printed is what the plain numbers are -/
theorem u64n (n : Nat) (h : n < 18446744073709551616) : IntKind.u64.wrap (n : Int) = n := by rw [IntKind.wrap_u64]; omega
theorem xor_nat (a b : Nat) (ha : a < 18446744073709551616) (hb : b < 18446744073709551616) : IntKind.u64.wrap (((BitVec.ofInt 64 (a : Int) ^^^ BitVec.ofInt 64 (b : Int)).toNat : Int)) = ((a ^^^ b : Nat) : Int) := by
  have h : (BitVec.ofInt 64 (a : Int) ^^^ BitVec.ofInt 64 (b : Int)).toNat = a ^^^ b := by
    rw [BitVec.toNat_xor, BitVec.ofInt_natCast, BitVec.ofInt_natCast, BitVec.toNat_ofNat, BitVec.toNat_ofNat, Nat.mod_eq_of_lt (by omega), Nat.mod_eq_of_lt (by omega)]
  rw [h, u64n _ (Mixn.xor_lt ha hb)]
theorem sh_i (x : Nat) (hx : x < 18446744073709551616) : IntKind.u64.wrap (((BitVec.ofInt 64 (x : Int) ^^^ BitVec.ofInt 64 ((x : Int).fdiv 4294967296)).toNat : Int)) = ((Mixn.sh x : Nat) : Int) := by
  have e : (x : Int).fdiv 4294967296 = ((x / 4294967296 : Nat) : Int) := by rw [Int.fdiv_eq_ediv_of_nonneg _ (by omega)]; omega
  rw [e, xor_nat _ _ hx (by omega)]
  rfl
theorem mf_i (n : Nat) : IntKind.u64.wrap ((n : Int) * 15485907386658061715) = ((Mixn.mf n : Nat) : Int) := by
  rw [IntKind.wrap_u64]
  rfl
theorem mix (x : Nat) (hx : x < 18446744073709551616) : Ev (fun k => mix_Mix.f k (x : Int)) ((Mixn.mix x : Nat) : Int) := by
  unfold mix_Mix.f
  refine .s (fun k => mix_Mix.l6_s k _ _) (.t (by omega) ?_)
  rw [sh_i x hx, mf_i]
  refine .s (fun k => mix_Mix.l6_s k _ _) (.t (by decide) ?_)
  rw [sh_i _ (Mixn.mf_lt _), mf_i]
  refine .s (fun k => mix_Mix.l6_s k _ _) (.n (by decide) (.cv ?_))
  rw [sh_i _ (Mixn.mf_lt _)]
  rfl
theorem step_i (s n : Nat) (hs : s < 18446744073709551616) (hn : n < 18446744073709551616) : IntKind.u64.wrap ((IntKind.u64.wrap (((BitVec.ofInt 64 (s : Int) ^^^ BitVec.ofInt 64 (n : Int)).toNat : Int))) + 11400714819323198485) = ((((s ^^^ n) + 11400714819323198485) % 18446744073709551616 : Nat) : Int) := by
  rw [xor_nat _ _ hs hn, IntKind.wrap_u64]
  rfl
/-- Numbers of 64 bits. -/
def ofN (l : List Nat) : List Int := l.map Int.ofNat
theorem ofN_get (l : List Nat) (i : Nat) (h : i < (ofN l).length) : (ofN l)[i] = ((l[i]'(by simpa [ofN] using h) : Nat) : Int) := by simp [ofN]
theorem fold_l10 (l : List Nat) (hl : ∀ x ∈ l, x < 18446744073709551616) (hn : l.length < 4611686018427387904) : ∀ (d i s : Nat), i + d = l.length → s < 18446744073709551616 → Ev (fun k => mix_Fold.l10 k (ofN l) (s : Int) (i : Int)) (((l.drop i).foldl Mixn.step s : Nat) : Int) := by
  have hlen : (ofN l).length = l.length := List.length_map ..
  intro d
  induction d with
  | zero =>
    intro i s hi hs
    refine .s (fun k => mix_Fold.l10_s k _ _ _) (.n (by omega) (.cv ?_))
    rw [List.drop_eq_nil_of_le (by omega)]
    rfl
  | succ d ih =>
    intro i s hi hs
    have h1 : i < l.length := by omega
    refine .s (fun k => mix_Fold.l10_s k _ _ _) (.t (by omega) (.t (by omega) ?_))
    rw [nth_get _ _ _ (by omega), ofN_get, step_i s _ hs (hl _ (List.getElem_mem h1)), w64n i (by omega), List.drop_eq_getElem_cons h1]
    exact .b (mix _ (Nat.mod_lt _ (by decide))) (ih (i + 1) _ (by omega) (Mixn.step_lt _ _))
theorem fold (s : Nat) (hs : s < 18446744073709551616) (l : List Nat) (hl : ∀ x ∈ l, x < 18446744073709551616) (hn : l.length < 4611686018427387904) : Ev (fun k => mix_Fold.f k (s : Int) (ofN l)) ((Mixn.fold s l : Nat) : Int) := by
  unfold mix_Fold.f
  exact .b (mix s hs) (fold_l10 l hl hn l.length 0 _ (by omega) (Mixn.mix_lt _))

/-! costs -/
theorem sq_div (z : Nat) (hz : z ≤ 2147483648) : IntKind.u64.wrap (Int.tdiv (IntKind.u64.wrap ((z : Int) * (z : Int))) 2147483648) = ((z * z / 2147483648 : Nat) : Int) ∧ z * z / 2147483648 ≤ 2147483648 := by
  have h1 : z * z ≤ 2147483648 * 2147483648 := Nat.mul_le_mul hz hz
  have h2 : (2147483648 : Nat) * 2147483648 = 4611686018427387904 := by decide
  rw [h2] at h1
  have e : (z : Int) * (z : Int) = ((z * z : Nat) : Int) := by rw [Int.natCast_mul]
  have h3 : z * z / 2147483648 ≤ 2147483648 := by omega
  rw [e, u64n _ (by omega), Int.tdiv_eq_ediv_of_nonneg (Int.natCast_nonneg _)]
  have e2 : ((z * z : Nat) : Int) / 2147483648 = ((z * z / 2147483648 : Nat) : Int) := by rw [Int.natCast_ediv]; rfl
  rw [e2, u64n _ (by omega)]
  exact ⟨rfl, h3⟩
theorem p16 (i : Nat) (h : i ≤ 16) : 2 ^ i ≤ 65536 := Nat.le_trans (Nat.pow_le_pow_right (by decide) h) (by decide)
theorem cost_l31 (c : Nat) (hc : c ≤ 17) : ∀ (d z f i : Nat), i + d = 16 → z ≤ 2147483648 → f < 2 ^ i → Ev (fun k => neglog_Cost.l31 k (c : Int) (z : Int) (f : Int) (i : Int)) ((c * 65536 + Negn.bitsOf d z f : Nat) : Int) := by
  intro d
  induction d with
  | zero =>
    intro z f i hi hz hf
    have hp := p16 i (by omega)
    refine .s (fun k => neglog_Cost.l31_s k _ _ _ _) (.n (by omega) (.cv ?_))
    rw [w64_of (n := (c : Int) * 65536) (by omega) (by omega), w64_of (by omega) (by omega)]
    rfl
  | succ d ih =>
    intro z f i hi hz hf
    have hp := p16 i (by omega)
    have hp2 : 2 ^ (i + 1) = 2 * 2 ^ i := by rw [Nat.pow_succ, Nat.mul_comm]
    obtain ⟨e1, h1⟩ := sq_div z hz
    have w2 : w64 ((f : Int) * 2) = ((2 * f : Nat) : Int) := by rw [w64_of (by omega) (by omega)]; omega
    have w3 : w64 (((2 * f : Nat) : Int) + 1) = ((2 * f + 1 : Nat) : Int) := w64n _ (by omega)
    refine .s (fun k => neglog_Cost.l31_s k _ _ _ _) (.t (by omega) ?_)
    rw [e1, w2, w3, w64n i (by omega), Negn.bitsOf]
    clear w2 w3 e1
    generalize z * z / 2147483648 = y at *
    by_cases cy : y ≤ 1073741824
    · have w4 : IntKind.u64.wrap ((y : Int) * 2) = ((2 * y : Nat) : Int) := by rw [IntKind.wrap_u64]; omega
      rw [if_pos cy]
      refine .t (by omega) ?_
      rw [w4]
      exact ih (2 * y) (2 * f + 1) (i + 1) (by omega) (by omega) (by omega)
    · rw [if_neg cy]
      exact .n (by omega) (ih y (2 * f) (i + 1) (by omega) (by omega) (by omega))
theorem cost_l17 : ∀ (d u c : Nat), 32768 < u * 2 ^ d → u ≤ 65536 → c + d ≤ 16 → Ev (fun k => neglog_Cost.l17 k (u : Int) (c : Int)) ((c * 65536 + Negn.cst (d + 1) u : Nat) : Int) := by
  have base : ∀ (u c n : Nat), 32768 < u → u ≤ 65536 → c ≤ 16 → Ev (fun k => neglog_Cost.l17 k (u : Int) (c : Int)) ((c * 65536 + Negn.cst (n + 1) u : Nat) : Int) := by
    intro u c n h h1 hc
    have w1 : IntKind.u64.wrap (IntKind.u64.wrap (u : Int) * 32768) = ((u * 32768 : Nat) : Int) := by rw [u64n _ (by omega), IntKind.wrap_u64]; omega
    refine .s (fun k => neglog_Cost.l17_s k _ _) (.n (by omega) ?_)
    rw [w1, Negn.cst_succ, if_neg (by omega)]
    exact cost_l31 c (by omega) 16 (u * 32768) 0 0 (by omega) (by omega) (by decide)
  intro d
  induction d with
  | zero =>
    intro u c h h1 hc
    rw [Nat.pow_zero, Nat.mul_one] at h
    exact base u c 0 h h1 (by omega)
  | succ d ih =>
    intro u c h h1 hc
    by_cases cu : u ≤ 32768
    · have h2 : u * 2 ^ (d + 1) = 2 * u * 2 ^ d := by rw [Nat.pow_succ, Nat.mul_comm (2 ^ d) 2, ← Nat.mul_assoc, Nat.mul_comm u 2]
      have w1 : w64 ((u : Int) * 2) = ((2 * u : Nat) : Int) := by rw [w64_of (by omega) (by omega)]; omega
      refine .s (fun k => neglog_Cost.l17_s k _ _) (.t (by omega) ?_)
      rw [w1, w64n c (by omega), Negn.cst_succ, if_pos cu]
      have ih := ih (2 * u) (c + 1) (by omega) (by omega) (by omega)
      generalize Negn.cst (d + 1) (2 * u) = y at *
      exact ih.v (congrArg Int.ofNat (by omega))
    · exact base u c (d + 1) (by omega) h1 (by omega)
/-- A number's cost; 0, if it is none that has one. -/
def costI (a : Int) : Int := if 1 ≤ a ∧ a ≤ 65536 then ((Negn.cost a.toNat : Nat) : Int) else 0
theorem cost (a : Int) : Ev (fun k => neglog_Cost.f k a) (costI a) := by
  have hbad : ¬ (1 ≤ a ∧ a ≤ 65536) → Ev (fun k => neglog_Cost.j6 k a true) (costI a) := fun h => .s (fun k => neglog_Cost.j6_s k _ _) (.t rfl (.cv (if_neg h).symm))
  unfold neglog_Cost.f
  refine .i (fun h => hbad (by omega)) (fun h => ?_)
  by_cases h2 : a > 65536
  · rw [decide_eq_true h2]
    exact hbad (by omega)
  · rw [decide_eq_false h2]
    obtain ⟨u, rfl⟩ : ∃ u : Nat, a = u := ⟨a.toNat, by omega⟩
    refine .s (fun k => neglog_Cost.j6_s k _ _) (.n (by decide) ((cost_l17 16 u 0 (by omega) (by omega) (by omega)).v ?_))
    rw [costI, if_pos ⟨by omega, by omega⟩, Int.toNat_natCast, Nat.zero_mul, Nat.zero_add]
    rfl

/-! a choice's cost -/
def un (a : Int) : Nat := (IntKind.u64.wrap a).toNat
theorem un_eq (a : Int) : IntKind.u64.wrap a = (un a : Int) ∧ un a < 18446744073709551616 := by
  unfold un
  rw [IntKind.wrap_u64]
  omega
/-- The cost of a number for a key, plainly. -/
def dc (key : Nat) (id : Int) : Int := costI (1 + ((Mixn.fold key [un id] / 281474976710656 : Nat) : Int))
theorem dc_bound (key : Nat) (id : Int) : 0 ≤ dc key id ∧ dc key id ≤ 1179648 := by
  unfold dc costI
  split
  · exact ⟨by omega, by have := Negn.cost_le (1 + ((Mixn.fold key [un id] / 281474976710656 : Nat) : Int)).toNat; omega⟩
  · omega
theorem fold_lt (key : Nat) (n : Nat) : Mixn.fold key [n] < 18446744073709551616 := by
  unfold Mixn.fold
  rw [List.foldl_cons, List.foldl_nil]
  exact Mixn.step_lt _ _
theorem dcost (key : Nat) (hkey : key < 18446744073709551616) (id : Int) : Ev (fun k => draw_Cost.f k (key : Int) id) (dc key id) := by
  have hlt := fold_lt key (un id)
  have h1 := fold key hkey [un id] (fun x hx => by rw [List.mem_singleton.1 hx]; exact (un_eq id).2) (by simp)
  unfold draw_Cost.f
  rw [(un_eq id).1]
  refine .b h1 ?_
  have e : ((Mixn.fold key [un id] : Nat) : Int).fdiv 281474976710656 = ((Mixn.fold key [un id] / 281474976710656 : Nat) : Int) := by rw [Int.fdiv_eq_ediv_of_nonneg _ (by omega)]; omega
  rw [e, w64_of (n := ((Mixn.fold key [un id] / 281474976710656 : Nat) : Int)) (by omega) (by omega), w64_of (by omega) (by omega)]
  exact .b (cost _) (.c _)
theorem nin (x : Int) : neglog_in.f x = some (decide (0 ≤ x ∧ x ≤ 2147483647)) := by
  unfold neglog_in.f
  by_cases h : x ≥ 0
  · rw [if_pos h]
    congr 1
    rw [decide_eq_decide]
    omega
  · rw [if_neg h, decide_eq_false (by omega)]
theorem prod_le {a b : Int} (h0 : 0 ≤ a) (h1 : a ≤ 1179648) (h2 : 0 ≤ b) (h3 : b ≤ 65536) : w64 (a * b) = a * b := by
  have h4 : 0 ≤ a * b := Int.mul_nonneg h0 h2
  have h5 : a * b ≤ 1179648 * 65536 := Int.mul_le_mul h1 h3 h2 (by omega)
  generalize a * b = p at h4 h5 ⊢
  exact w64_of (by omega) (by omega)
theorem better {a b c d : Int} (ha : 0 ≤ a ∧ a ≤ 1179648) (hb : 1 ≤ b ∧ b ≤ 65536) (hc : 0 ≤ c ∧ c ≤ 1179648) (hd : 1 ≤ d ∧ d ≤ 65536) : neglog_Better.f a b c d = some (decide (a * d < c * b)) := by
  unfold neglog_Better.f
  rw [nin, nin, nin, nin, decide_eq_true (show 0 ≤ a ∧ a ≤ 2147483647 by omega), decide_eq_true (show 0 ≤ b ∧ b ≤ 2147483647 by omega), decide_eq_true (show 0 ≤ c ∧ c ≤ 2147483647 by omega), decide_eq_true (show 0 ≤ d ∧ d ≤ 2147483647 by omega)]
  simp only [Option.bind_some, if_true]
  rw [if_pos (by omega), if_pos (by omega), prod_le ha.1 ha.2 (by omega) hd.2, prod_le hc.1 hc.2 (by omega) hb.2]
/-- The order's answer, plainly. -/
def cmpD (key : Nat) (x y : T_api_Choice) : Int := if dc key x.f0 * y.f1 < dc key y.f0 * x.f1 then -1 else if dc key y.f0 * x.f1 < dc key x.f0 * y.f1 then 1 else x.f0 - y.f0
def fineC (x : T_api_Choice) : Prop := (0 ≤ x.f0 ∧ x.f0 ≤ 2147483647) ∧ 1 ≤ x.f1 ∧ x.f1 ≤ 65536
theorem compare (key : Nat) (hkey : key < 18446744073709551616) (x y : T_api_Choice) (hx : fineC x) (hy : fineC y) : Ev (fun k => draw_compare.f k (key : Int) x y) (cmpD key x y) := by
  unfold draw_compare.f cmpD
  refine .b (dcost key hkey _) (.b (dcost key hkey _) ?_)
  have bx := dc_bound key x.f0
  have bY := dc_bound key y.f0
  have e1 := better bx hx.2 bY hy.2
  have e2 := better bY hy.2 bx hx.2
  have hx1 := hx.1
  have hy1 := hy.1
  refine .b0 e1 ?_
  by_cases h1 : dc key x.f0 * y.f1 < dc key y.f0 * x.f1
  · rw [if_pos h1]
    exact .t (decide_eq_true h1) (.c _)
  · rw [if_neg h1]
    refine .n (by simpa using h1) (.b0 e2 ?_)
    by_cases h2 : dc key y.f0 * x.f1 < dc key x.f0 * y.f1
    · rw [if_pos h2]
      exact .t (decide_eq_true h2) (.c _)
    · rw [if_neg h2]
      exact .n (by simpa using h2) (.cv (w64_of (by omega) (by omega)))

/-! the order tells any two choices apart -/
theorem cross_le {a b c d e f : Int} (hb : 0 < b) (hd : 0 < d) (hf : 0 < f) (h1 : a * d ≤ c * b) (h2 : c * f ≤ e * d) : a * f ≤ e * b := by
  have h3 := Int.mul_le_mul_of_nonneg_right h1 (Int.le_of_lt hf)
  have h4 := Int.mul_le_mul_of_nonneg_right h2 (Int.le_of_lt hb)
  refine Int.le_of_mul_le_mul_right (a := d) ?_ hd
  rw [Int.mul_right_comm a f d, Int.mul_right_comm e b d]
  rw [Int.mul_right_comm c b f] at h3
  exact Int.le_trans h3 h4
theorem cross_lt_left {a b c d e f : Int} (hb : 0 < b) (hd : 0 < d) (hf : 0 < f) (h1 : a * d < c * b) (h2 : c * f ≤ e * d) : a * f < e * b := by
  have h3 := Int.mul_lt_mul_of_pos_right h1 hf
  have h4 := Int.mul_le_mul_of_nonneg_right h2 (Int.le_of_lt hb)
  refine Int.lt_of_mul_lt_mul_right (a := d) ?_ (Int.le_of_lt hd)
  rw [Int.mul_right_comm a f d, Int.mul_right_comm e b d]
  rw [Int.mul_right_comm c b f] at h3
  exact Int.lt_of_lt_of_le h3 h4
theorem cross_lt_right {a b c d e f : Int} (hb : 0 < b) (hd : 0 < d) (hf : 0 < f) (h1 : a * d ≤ c * b) (h2 : c * f < e * d) : a * f < e * b := by
  have h3 := Int.mul_le_mul_of_nonneg_right h1 (Int.le_of_lt hf)
  have h4 := Int.mul_lt_mul_of_pos_right h2 hb
  refine Int.lt_of_mul_lt_mul_right (a := d) ?_ (Int.le_of_lt hd)
  rw [Int.mul_right_comm a f d, Int.mul_right_comm e b d]
  rw [Int.mul_right_comm c b f] at h3
  exact Int.lt_of_le_of_lt h3 h4
def ltD (key : Nat) (x y : T_api_Choice) : Prop := dc key x.f0 * y.f1 < dc key y.f0 * x.f1 ∨ (dc key x.f0 * y.f1 ≤ dc key y.f0 * x.f1 ∧ x.f0 < y.f0)
theorem cmpD_lt (key : Nat) (x y : T_api_Choice) : cmpD key x y < 0 ↔ ltD key x y := by
  unfold cmpD ltD
  generalize dc key x.f0 * y.f1 = a
  generalize dc key y.f0 * x.f1 = b
  by_cases h1 : a < b
  · rw [if_pos h1]
    exact ⟨fun _ => .inl h1, fun _ => by omega⟩
  · rw [if_neg h1]
    by_cases h2 : b < a
    · rw [if_pos h2]
      exact ⟨fun h => by omega, fun h => by omega⟩
    · rw [if_neg h2]
      exact ⟨fun h => .inr ⟨by omega, by omega⟩, fun h => by omega⟩
theorem ltD_irrefl (key : Nat) (x : T_api_Choice) : ¬ ltD key x x := fun h => by
  unfold ltD at h
  omega
theorem ltD_trans {key : Nat} {x y z : T_api_Choice} (hx : fineC x) (hy : fineC y) (hz : fineC z) (h1 : ltD key x y) (h2 : ltD key y z) : ltD key x z := by
  have b1 : 0 < x.f1 := by have := hx.2; omega
  have b2 : 0 < y.f1 := by have := hy.2; omega
  have b3 : 0 < z.f1 := by have := hz.2; omega
  rcases h1 with h1 | ⟨h1, i1⟩
  · rcases h2 with h2 | ⟨h2, i2⟩
    · exact .inl (cross_lt_left b1 b2 b3 h1 (Int.le_of_lt h2))
    · exact .inl (cross_lt_left b1 b2 b3 h1 h2)
  · rcases h2 with h2 | ⟨h2, i2⟩
    · exact .inl (cross_lt_right b1 b2 b3 h1 h2)
    · exact .inr ⟨cross_le b1 b2 b3 h1 h2, Int.lt_trans i1 i2⟩
theorem ltD_total (key : Nat) (x y : T_api_Choice) (h : x.f0 ≠ y.f0) : ltD key x y ∨ ltD key y x := by
  unfold ltD
  omega
theorem ev_all {α β : Type} (f : Nat → α → Option β) (v : α → β) : ∀ l : List α, (∀ x ∈ l, Ev (fun k => f k x) (v x)) → ∃ K, ∀ k, K ≤ k → ∀ x ∈ l, f k x = some (v x)
  | [], _ => ⟨0, fun _ _ _ h => nomatch h⟩
  | x :: l, h => by
    obtain ⟨K, hK⟩ := h x List.mem_cons_self
    obtain ⟨L, hL⟩ := ev_all f v l (fun y m => h y (List.mem_cons_of_mem _ m))
    refine ⟨K + L, fun k hk y hy => ?_⟩
    rcases List.mem_cons.1 hy with rfl | hy
    · exact hK k (by omega)
    · exact hL k (by omega) y hy
/-- Choices that may be drawn, no two of one number. -/
def fineL (l : List T_api_Choice) : Prop := (∀ x ∈ l, fineC x) ∧ ∀ x ∈ l, ∀ y ∈ l, x.f0 = y.f0 → x = y
instance (key : Nat) (x y : T_api_Choice) : Decidable (ltD key x y) := inferInstanceAs (Decidable (_ ∨ _))
def ltB (key : Nat) (x y : T_api_Choice) : Bool := decide (ltD key x y)
theorem insertL_congr {α : Type} (f g : α → α → Bool) (x : α) : ∀ l : List α, (∀ y ∈ l, f x y = g x y) → insertL f x l = insertL g x l
  | [], _ => rfl
  | y :: r, h => by
    rw [insertL, insertL, h y List.mem_cons_self, insertL_congr f g x r (fun z m => h z (List.mem_cons_of_mem _ m))]
theorem sortL_congr {α : Type} (f g : α → α → Bool) : ∀ l : List α, (∀ x ∈ l, ∀ y ∈ l, f x y = g x y) → sortL f l = sortL g l
  | [], _ => rfl
  | x :: r, h => by
    have ih := sortL_congr f g r (fun a ha b hb => h a (List.mem_cons_of_mem _ ha) b (List.mem_cons_of_mem _ hb))
    rw [sortL, sortL, ih]
    exact insertL_congr f g x _ (fun y hy => h x List.mem_cons_self y (List.mem_cons_of_mem _ ((sortL_mem _ _).1 hy)))
set_option maxHeartbeats 4000000 in
theorem sorts (key : Nat) (hkey : key < 18446744073709551616) (l : List T_api_Choice) (hf : fineL l) (hl : l.length ≤ 1000000) : Ev (fun k => slices_SortFunc__api_Choice_api_Choice_of_draw_Order_2.f k l (key : Int)) (sortL (ltB key) l) := by
  have hc : ∀ p ∈ l.flatMap (fun x => l.map (fun y => (x, y))), Ev (fun k => slices_SortFunc__api_Choice_api_Choice_of_draw_Order_2.cmp k (key : Int) p.1 p.2) (cmpD key p.1 p.2) := by
    intro p hp
    obtain ⟨x, hx, hp⟩ := List.mem_flatMap.1 hp
    obtain ⟨y, hy, rfl⟩ := List.mem_map.1 hp
    unfold slices_SortFunc__api_Choice_api_Choice_of_draw_Order_2.cmp draw_Order_2.f
    exact .b (compare key hkey x y (hf.1 x hx) (hf.1 y hy)) (.c _)
  obtain ⟨K, hK⟩ := ev_all (fun k (p : T_api_Choice × T_api_Choice) => slices_SortFunc__api_Choice_api_Choice_of_draw_Order_2.cmp k (key : Int) p.1 p.2) (fun p => cmpD key p.1 p.2) _ hc
  refine ⟨K, fun k hk => ?_⟩
  have hK : ∀ x ∈ l, ∀ y ∈ l, slices_SortFunc__api_Choice_api_Choice_of_draw_Order_2.cmp k (key : Int) x y = some (cmpD key x y) := by
    intro x hx y hy
    have hm : (x, y) ∈ l.flatMap (fun x => l.map (fun y => (x, y))) := List.mem_flatMap.2 ⟨x, hx, List.mem_map.2 ⟨y, hy, rfl⟩⟩
    have h := hK k hk (x, y) hm
    dsimp only at h
    exact h
  have hlt : ∀ x ∈ l, ∀ y ∈ l, ltO (slices_SortFunc__api_Choice_api_Choice_of_draw_Order_2.cmp k (key : Int)) x y = ltB key x y := by
    intro x hx y hy
    unfold ltO ltB
    rw [hK x hx y hy, Option.getD_some, decide_eq_decide]
    exact cmpD_lt key x y
  have hok : okSort (slices_SortFunc__api_Choice_api_Choice_of_draw_Order_2.cmp k (key : Int)) l = true := ?_
  · show sortO (slices_SortFunc__api_Choice_api_Choice_of_draw_Order_2.cmp k (key : Int)) l = _
    unfold sortO
    rw [if_pos ⟨hok, hl⟩, sortL_congr _ _ l hlt]
  unfold okSort
  simp only [Bool.and_eq_true, List.all_eq_true]
  refine ⟨⟨⟨?_, ?_⟩, ?_⟩, ?_⟩
  · intro x hx y hy
    rw [hK x hx y hy]
    rfl
  · intro x hx
    rw [hlt x hx x hx, ltB, decide_eq_false (ltD_irrefl key x)]
    rfl
  · intro x hx y hy z hz
    rw [hlt x hx y hy, hlt y hy z hz, hlt x hx z hz]
    unfold ltB
    by_cases h1 : ltD key x y
    · by_cases h2 : ltD key y z
      · simp [h1, h2, ltD_trans (hf.1 x hx) (hf.1 y hy) (hf.1 z hz) h1 h2]
      · simp [h1, h2]
    · by_cases h2 : ltD key y z
      · simp [h1, h2]
      · have h3 : ¬ ltD key x z := by
          intro h3
          by_cases hxy : x.f0 = y.f0
          · exact h2 (hf.2 x hx y hy hxy ▸ h3)
          · rcases ltD_total key x y hxy with h | h
            · exact h1 h
            · exact h2 (ltD_trans (hf.1 y hy) (hf.1 x hx) (hf.1 z hz) h h3)
        simp [h1, h2, h3]
  · intro x hx y hy
    rw [hlt x hx y hy, hlt y hy x hx]
    unfold ltB
    by_cases hxy : x.f0 = y.f0
    · simp [hf.2 x hx y hy hxy]
    · rcases ltD_total key x y hxy with h | h
      · simp [h]
      · simp [h]

/-! choices that may be, rising -/
structure Chs (l : List T_api_Choice) : Prop where
  len : l.length ≤ 64
  ok : ∀ x ∈ l, (0 ≤ x.f0 ∧ x.f0 ≤ 2147483647) ∧ 0 ≤ x.f1 ∧ x.f1 ≤ 65536
  up : l.Pairwise (fun x y => x.f0 < y.f0)
theorem dcheck_l9 (l : List T_api_Choice) (h : Chs l) : ∀ (d i : Nat), i + d = l.length → Ev (fun k => draw_Check.l9 k l (i : Int)) 0 := by
  have hl := h.len
  intro d
  induction d with
  | zero => exact fun i hi => .s (fun k => draw_Check.l9_s k _ _) (.n (by omega) (.c _))
  | succ d ih =>
    intro i hi
    have h1 : i < l.length := by omega
    have hok := h.ok _ (List.getElem_mem h1)
    have hj : Ev (fun k => draw_Check.j37 k l (i : Int) false) 0 := by
      refine .s (fun k => draw_Check.j37_s k _ _ _) (.n (by decide) ?_)
      rw [w64n i (by omega)]
      exact ih (i + 1) (by omega)
    refine .s (fun k => draw_Check.l9_s k _ _) (.t (by omega) (.t (by omega) ?_))
    rw [nth_get _ _ _ h1]
    refine .n (by omega) (.n (by omega) (.n (by omega) (.n (by omega) (.i (fun h0 => ?_) (fun _ => hj)))))
    rw [w64p i (by omega) (by omega)]
    refine .t (by omega) ?_
    rw [nth_get _ _ _ (by omega), decide_eq_false]
    · exact hj
    · have := List.pairwise_iff_getElem.1 h.up (i - 1) i (by omega) h1 (by omega)
      omega
theorem dcheck (l : List T_api_Choice) (h : Chs l) : Ev (fun k => draw_Check.f k l) 0 := by
  have hl := h.len
  unfold draw_Check.f
  exact .n (by omega) (dcheck_l9 l h l.length 0 (by omega))
/-- Those that weigh something. -/
def heavy (l : List T_api_Choice) : List T_api_Choice := l.filter (fun x => !(x.f1 == 0))
theorem heavy_fine {l : List T_api_Choice} (h : Chs l) : fineL (heavy l) := by
  refine ⟨fun x hx => ?_, fun x hx y hy e => ?_⟩
  · obtain ⟨h1, h2⟩ := List.mem_filter.1 hx
    have := h.ok x h1
    have h3 : x.f1 ≠ 0 := by simpa using h2
    exact ⟨this.1, by omega, this.2.2⟩
  · have hx := (List.mem_filter.1 hx).1
    have hy := (List.mem_filter.1 hy).1
    obtain ⟨i, hi, rfl⟩ := List.getElem_of_mem hx
    obtain ⟨j, hj, rfl⟩ := List.getElem_of_mem hy
    have hup := List.pairwise_iff_getElem.1 h.up
    rcases Nat.lt_trichotomy i j with c | c | c
    · have := hup i j hi hj c
      omega
    · subst c; rfl
    · have := hup j i hj hi c
      omega
theorem index0 (l : List T_api_Choice) (hl : l.length ≤ 64) : ∀ (d i : Nat), i + d = l.length → heavy (l.take i) = l.take i → (heavy l = l ∧ Ev (fun k => slices_IndexFunc__api_Choice_api_Choice_of_draw_Order_1.l5 k l (i : Int)) (-1)) ∨ ∃ n : Nat, n < l.length ∧ heavy (l.take n) = l.take n ∧ (∀ h : n < l.length, l[n].f1 = 0) ∧ Ev (fun k => slices_IndexFunc__api_Choice_api_Choice_of_draw_Order_1.l5 k l (i : Int)) (n : Int) := by
  intro d
  induction d with
  | zero =>
    intro i hi ht
    rw [List.take_of_length_le (by omega)] at ht
    exact .inl ⟨ht, .s (fun k => slices_IndexFunc__api_Choice_api_Choice_of_draw_Order_1.l5_s k _ _) (.n (by omega) (.c _))⟩
  | succ d ih =>
    intro i hi ht
    have h1 : i < l.length := by omega
    by_cases h0 : l[i].f1 = 0
    · refine .inr ⟨i, h1, ht, fun _ => h0, .s (fun k => slices_IndexFunc__api_Choice_api_Choice_of_draw_Order_1.l5_s k _ _) (.t (by omega) (.t (by omega) ?_))⟩
      rw [nth_get _ _ _ h1]
      exact .b0 (a := true) (congrArg some (by simpa using h0)) (.t rfl (.c _))
    · have hs : Ev (fun k => slices_IndexFunc__api_Choice_api_Choice_of_draw_Order_1.l5 k l ((i + 1 : Nat) : Int)) = fun v => Ev (fun k => slices_IndexFunc__api_Choice_api_Choice_of_draw_Order_1.l5 k l ((i + 1 : Nat) : Int)) v := rfl
      have go : ∀ v, Ev (fun k => slices_IndexFunc__api_Choice_api_Choice_of_draw_Order_1.l5 k l ((i + 1 : Nat) : Int)) v → Ev (fun k => slices_IndexFunc__api_Choice_api_Choice_of_draw_Order_1.l5 k l (i : Int)) v := by
        intro v hv
        refine .s (fun k => slices_IndexFunc__api_Choice_api_Choice_of_draw_Order_1.l5_s k _ _) (.t (by omega) (.t (by omega) ?_))
        rw [nth_get _ _ _ h1, w64n i (by omega)]
        exact .b0 (a := false) (congrArg some (by simpa using h0)) (.n (by decide) hv)
      have ht' : heavy (l.take (i + 1)) = l.take (i + 1) := by
        rw [List.take_add_one, List.getElem?_eq_getElem h1, Option.toList_some]
        unfold heavy at ht ⊢
        rw [List.filter_append, ht]
        simp [h0]
      rcases ih (i + 1) (by omega) ht' with ⟨a, b⟩ | ⟨n, a, b, c, e⟩
      · exact .inl ⟨a, go _ b⟩
      · exact .inr ⟨n, a, b, c, go _ e⟩
theorem delete_l15 (l : List T_api_Choice) (hl : l.length ≤ 64) : ∀ (d i n : Nat) (q : List T_api_Choice), i + d = l.length → n < i → q.length = l.length → q.take n = heavy (l.take i) → q.drop i = l.drop i → Ev (fun k => slices_DeleteFunc__api_Choice_api_Choice_of_draw_Order_1.l15 k l q (n : Int) (i : Int)) (heavy l) := by
  intro d
  induction d with
  | zero =>
    intro i n q hi hn hq ht hd
    refine .s (fun k => slices_DeleteFunc__api_Choice_api_Choice_of_draw_Order_1.l15_s k _ _ _ _) (.n (by omega) (.t (by omega) (.cv ?_)))
    rw [List.take_of_length_le (by omega : l.length ≤ i)] at ht
    rw [← ht]
    have hlen : (q.take n).length = n := by rw [List.length_take]; omega
    simp only [cutl, Int.toNat_natCast, Int.toNat_zero, List.drop_zero]
    rw [List.take_append_of_le_length (by omega), List.take_of_length_le (by omega)]
  | succ d ih =>
    intro i n q hi hn hq ht hd
    have h1 : i < l.length := by omega
    have h2 : i < q.length := by omega
    have hd2 : q[i] = l[i] ∧ q.drop (i + 1) = l.drop (i + 1) := by
      rw [List.drop_eq_getElem_cons h1, List.drop_eq_getElem_cons h2] at hd
      exact ⟨(List.cons.inj hd).1, (List.cons.inj hd).2⟩
    have hh : heavy (l.take (i + 1)) = heavy (l.take i) ++ (if l[i].f1 = 0 then [] else [l[i]]) := by
      rw [List.take_add_one, List.getElem?_eq_getElem h1, Option.toList_some]
      unfold heavy
      rw [List.filter_append]
      by_cases c : l[i].f1 = 0
      · simp [c]
      · simp [c]
    refine .s (fun k => slices_DeleteFunc__api_Choice_api_Choice_of_draw_Order_1.l15_s k _ _ _ _) (.t (by omega) (.t (by omega) ?_))
    rw [nth_get _ _ _ h2, hd2.1, w64n i (by omega), w64n n (by omega)]
    by_cases h0 : l[i].f1 = 0
    · refine .b0 (a := true) (congrArg some (by simpa using h0)) (.t rfl (ih (i + 1) n q (by omega) (by omega) hq ?_ hd2.2))
      rw [hh, if_pos h0, List.append_nil, ht]
    · refine .b0 (a := false) (congrArg some (by simpa using h0)) (.n (by decide) (.t (by omega) (ih (i + 1) (n + 1) _ (by omega) (by omega) (by rw [List.length_set]; exact hq) ?_ ?_)))
      · rw [hh, if_neg h0, ← ht, Int.toNat_natCast, List.take_add_one, List.take_set_of_le (by omega), List.getElem?_set_self (by omega)]
        rfl
      · rw [Int.toNat_natCast, List.drop_set_of_lt (by omega)]
        exact hd2.2
theorem delete (l : List T_api_Choice) (hl : l.length ≤ 64) : Ev (fun k => slices_DeleteFunc__api_Choice_api_Choice_of_draw_Order_1.f k l) (heavy l) := by
  unfold slices_DeleteFunc__api_Choice_api_Choice_of_draw_Order_1.f slices_IndexFunc__api_Choice_api_Choice_of_draw_Order_1.f
  rcases index0 l hl l.length 0 (by omega) rfl with ⟨a, b⟩ | ⟨n, a, b, c, e⟩
  · exact .b b (.t rfl (.cv a.symm))
  · refine .b e (.n (by omega) ?_)
    rw [w64n n (by omega)]
    refine delete_l15 l hl (l.length - (n + 1)) (n + 1) n l (by omega) (by omega) rfl ?_ rfl
    rw [List.take_add_one, List.getElem?_eq_getElem a, Option.toList_some, ← b]
    unfold heavy
    rw [List.filter_append, List.filter_filter]
    simp [c a]
/-- The draw's order, plainly. -/
def ord (key : Nat) (l : List T_api_Choice) : List T_api_Choice := sortL (ltB key) (heavy l)
theorem order_l44 (t22 t33 : List T_api_Choice) (he : t33.length = t22.length) (hl : t22.length ≤ 64) : ∀ (d i : Nat), i + d = t22.length → Ev (fun k => draw_Order.l44 k t22 t33 ((t33.take i).map (fun x => x.f0)) (i : Int)) (t33.map (fun x => x.f0)) := by
  intro d
  induction d with
  | zero =>
    intro i hi
    refine .s (fun k => draw_Order.l44_s k _ _ _ _) (.n (by omega) (.cv ?_))
    rw [List.take_of_length_le (by omega)]
  | succ d ih =>
    intro i hi
    have h1 : i < t33.length := by omega
    refine .s (fun k => draw_Order.l44_s k _ _ _ _) (.t (by omega) (.t (by omega) (.t (by rw [List.length_map, List.length_take]; omega) ?_)))
    rw [nth_get _ _ _ h1, w64n i (by omega)]
    have ih := ih (i + 1) (by omega)
    rw [List.take_add_one, List.getElem?_eq_getElem h1, Option.toList_some, List.map_append] at ih
    exact ih
theorem order (key : Nat) (hkey : key < 18446744073709551616) (l : List T_api_Choice) (h : Chs l) : Ev (fun k => draw_Order.f k (key : Int) l) ((ord key l).map (fun x => x.f0)) := by
  have hl := h.len
  have hh : (heavy l).length ≤ l.length := List.length_filter_le _ _
  unfold draw_Order.f
  refine .b (dcheck l h) (.t rfl (.b0 (a := l) ?_ (.b (delete l hl) (.b (sorts key hkey _ (heavy_fine h) (by omega)) ?_))))
  · unfold slices_Clone__api_Choice_api_Choice.f
    rw [if_pos]
    · rfl
    · simp only [List.length_nil]
      omega
  · exact order_l44 _ _ (sortL_length _ _) (by omega) (heavy l).length 0 (by omega)

/-! the document's draw -/
def isBest (key : Nat) (l : List T_api_Choice) (m : T_api_Choice) : Prop := m ∈ heavy l ∧ ∀ y ∈ heavy l, y = m ∨ ltD key m y
theorem heavy_snoc (l : List T_api_Choice) (x : T_api_Choice) : heavy (l ++ [x]) = heavy l ++ (if x.f1 = 0 then [] else [x]) := by
  unfold heavy
  rw [List.filter_append]
  by_cases c : x.f1 = 0
  · simp [c]
  · simp [c]
theorem heavy_take (l : List T_api_Choice) (i : Nat) (h : i < l.length) : heavy (l.take (i + 1)) = heavy (l.take i) ++ (if l[i].f1 = 0 then [] else [l[i]]) := by
  rw [List.take_add_one, List.getElem?_eq_getElem h, Option.toList_some, heavy_snoc]

/-! the document's order is the draw's -/
theorem heavy_filter (l : List T_api_Choice) (p : T_api_Choice → Bool) : heavy (l.filter p) = (heavy l).filter p := by
  unfold heavy
  rw [List.filter_filter, List.filter_filter]
  congr 1
  funext x
  exact Bool.and_comm _ _
theorem split_id : ∀ (l : List T_api_Choice) (m : T_api_Choice), l.Pairwise (fun x y => x.f0 < y.f0) → m ∈ l → l.Perm (m :: l.filter (fun x => !(x.f0 == m.f0)))
  | [], _, _, h => nomatch h
  | x :: r, m, hp, h => by
    obtain ⟨h1, h2⟩ := List.pairwise_cons.1 hp
    rcases List.mem_cons.1 h with rfl | h
    · rw [List.filter_cons_of_neg (by simp)]
      have e : r.filter (fun x => !(x.f0 == m.f0)) = r := List.filter_eq_self.2 (fun y hy => by have := h1 y hy; simp; omega)
      rw [e]
    · have hlt := h1 m h
      rw [List.filter_cons_of_pos (by simp; omega)]
      exact ((split_id r m h2 h).cons x).trans (List.Perm.swap m x _)
theorem heavy_up {l : List T_api_Choice} (h : Chs l) : (heavy l).Pairwise (fun x y => x.f0 < y.f0) := h.up.filter _
theorem ltB_sw (key : Nat) (l : List T_api_Choice) (hf : fineL l) : SWOn (fun x => x ∈ l) (ltB key) := by
  refine ⟨fun x hx => decide_eq_false (ltD_irrefl key x), fun x y z hx hy hz h1 h2 => decide_eq_true (ltD_trans (hf.1 x hx) (hf.1 y hy) (hf.1 z hz) (of_decide_eq_true h1) (of_decide_eq_true h2)), fun x y z hx hy hz h1 h2 => decide_eq_false (fun h3 => ?_)⟩
  have h1 := of_decide_eq_false h1
  have h2 := of_decide_eq_false h2
  by_cases hxy : x.f0 = y.f0
  · exact h2 (hf.2 x hx y hy hxy ▸ h3)
  · rcases ltD_total key x y hxy with h | h
    · exact h1 h
    · exact h2 (ltD_trans (hf.1 y hy) (hf.1 x hx) (hf.1 z hz) h h3)
theorem best_first (key : Nat) {l : List T_api_Choice} (h : Chs l) {m : T_api_Choice} (hb : isBest key l m) : ord key l = m :: ord key (l.filter (fun x => !(x.f0 == m.f0))) := by
  have hf := heavy_fine h
  unfold ord
  rw [heavy_filter]
  have hp := split_id (heavy l) m (heavy_up h) hb.1
  have hsub : ∀ y ∈ (heavy l).filter (fun x => !(x.f0 == m.f0)), y ∈ heavy l := fun y hy => (List.mem_filter.1 hy).1
  refine List.Perm.eq_of_pairwise (le := fun a b => ltB key b a = false) ?_ (sortL_sorted (ltB_sw key _ hf) _ (fun y hy => hy)) (List.pairwise_cons.2 ⟨fun y hy => ?_, ?_⟩) ?_
  · intro a b ha hb' h1 h2
    have ha : a ∈ heavy l := (sortL_mem _ _).1 ha
    have hb2 : b ∈ heavy l := by
      rcases List.mem_cons.1 hb' with rfl | hb'
      · exact hb.1
      · exact hsub _ ((sortL_mem _ _).1 hb')
    by_cases e : a.f0 = b.f0
    · exact hf.2 a ha b hb2 e
    · rcases ltD_total key a b e with c | c
      · exact absurd c (of_decide_eq_false h2)
      · exact absurd c (of_decide_eq_false h1)
  · have hy := hsub _ ((sortL_mem _ _).1 hy)
    refine decide_eq_false (fun c => ?_)
    rcases hb.2 y hy with rfl | d
    · exact ltD_irrefl key _ c
    · exact ltD_irrefl key _ (ltD_trans (hf.1 m hb.1) (hf.1 y hy) (hf.1 m hb.1) d c)
  · exact sortL_sorted (ltB_sw key _ hf) _ hsub
  · exact (sortL_perm _ _).trans (hp.trans ((sortL_perm _ _).symm.cons m))
theorem Chs.filter {l : List T_api_Choice} (h : Chs l) (p : T_api_Choice → Bool) : Chs (l.filter p) :=
  ⟨Nat.le_trans (List.length_filter_le _ _) h.len, fun x hx => h.ok x (List.mem_filter.1 hx).1, h.up.filter _⟩

end Draw
namespace Topo
/-! what nodes weigh, by what they are of -/
def weight (n : T_api_Node) : Int := if n.f5 = true then n.f3 else 0
def addW (id w : Int) : List T_api_Choice → List T_api_Choice
  | [] => [⟨id, w⟩]
  | c :: r => if c.f0 < id then c :: addW id w r else if c.f0 = id then ⟨id, if c.f1 + w < 65536 then c.f1 + w else 65536⟩ :: r else ⟨id, w⟩ :: c :: r
def wOne (is : T_api_Node → Bool) (of : T_api_Node → Int) (v : List T_api_Choice) (n : T_api_Node) : List T_api_Choice := if is n = true then addW (of n) (weight n) v else v
def wL (is : T_api_Node → Bool) (of : T_api_Node → Int) (l : List T_api_Node) : List T_api_Choice := l.foldl (wOne is of) []
def posn (id : Int) : List T_api_Choice → Nat
  | [] => 0
  | c :: r => if c.f0 < id then posn id r + 1 else 0
theorem posn_le (id : Int) : ∀ l : List T_api_Choice, posn id l ≤ l.length
  | [] => Nat.le_refl _
  | c :: r => by
    unfold posn
    have := posn_le id r
    rw [List.length_cons]
    split <;> omega
theorem posn_lt (id : Int) : ∀ (l : List T_api_Choice) (i : Nat) (h : i < l.length), i < posn id l → l[i].f0 < id
  | [], _, h, _ => nomatch h
  | c :: r, i, h, hi => by
    unfold posn at hi
    split at hi
    · cases i with
      | zero => assumption
      | succ i => exact posn_lt id r i (by simpa using h) (by omega)
    · omega
theorem posn_ge (id : Int) : ∀ (l : List T_api_Choice), l.Pairwise (fun x y => x.f0 < y.f0) → ∀ (i : Nat) (h : i < l.length), posn id l ≤ i → id ≤ l[i].f0
  | [], _, _, h, _ => nomatch h
  | c :: r, hp, i, h, hi => by
    obtain ⟨h1, h2⟩ := List.pairwise_cons.1 hp
    unfold posn at hi
    split at hi
    · cases i with
      | zero => omega
      | succ i => exact posn_ge id r h2 i (by simpa using h) (by omega)
    · cases i with
      | zero => rename_i hc; exact Int.not_lt.1 hc
      | succ i =>
        rename_i hc
        have hr : i < r.length := by simpa using h
        have := h1 _ (List.getElem_mem hr)
        show id ≤ r[i].f0
        omega
theorem cmpi (a b : Int) : cmp_Compare_int.f a b = some (if a < b then -1 else if a > b then 1 else 0) := by
  unfold cmp_Compare_int.f cmp_isNaN_int.f
  simp only [beq_self_eq_true, Bool.not_true, Option.bind_some, Bool.false_eq_true, if_false]
  by_cases h : a < b
  · rw [if_pos h, if_pos h]
  · rw [if_neg h, if_neg h]
    by_cases h2 : a > b
    · rw [if_pos h2, if_pos h2]
    · rw [if_neg h2, if_neg h2]
theorem mid (a b : Nat) (h : a + b < 4611686018427387904) : w64 ((IntKind.u64.wrap (w64 ((a : Int) + b))).fdiv 2) = ((a + b) / 2 : Nat) := by
  have e : w64 ((a : Int) + b) = ((a + b : Nat) : Int) := by rw [w64_of (by omega) (by omega)]; omega
  have e2 : IntKind.u64.wrap ((a + b : Nat) : Int) = ((a + b : Nat) : Int) := by rw [IntKind.wrap_u64]; omega
  rw [e, e2, Int.fdiv_eq_ediv_of_nonneg _ (by omega), w64_of (by omega) (by omega)]
  omega
theorem search_l7 (l : List T_api_Choice) (id : Int) (hl : l.length < 1000000) (hp : l.Pairwise (fun x y => x.f0 < y.f0)) : ∀ (d a b : Nat), b - a ≤ d → a ≤ posn id l → posn id l ≤ b → b ≤ l.length → Ev (fun k => slices_BinarySearchFunc__api_Choice_api_Choice_int_of_topo_weigh_1.l7 k l id (a : Int) (b : Int)) ((posn id l : Int), match l[posn id l]? with
    | some c => c.f0 == id
    | none => false) := by
  intro d
  induction d with
  | zero =>
    intro a b hd h1 h2 h3
    obtain rfl : a = b := by omega
    obtain rfl : a = posn id l := by omega
    refine .s (fun k => slices_BinarySearchFunc__api_Choice_api_Choice_int_of_topo_weigh_1.l7_s k _ _ _ _) (.n (by omega) ?_)
    by_cases h4 : posn id l < l.length
    · refine .t (by omega) (.t (by omega) ?_)
      rw [nth_get _ _ _ h4, List.getElem?_eq_getElem h4]
      refine .b0 (a := if l[posn id l].f0 < id then -1 else if l[posn id l].f0 > id then 1 else 0) ?_ (.cv ?_)
      · unfold topo_weigh_1.f
        rw [cmpi]
        rfl
      · have := posn_ge id l hp _ h4 (Nat.le_refl _)
        by_cases h5 : l[posn id l].f0 = id
        · simp [h5]
        · rw [if_neg (by omega), if_pos (by omega)]
          simp [h5]
    · rw [List.getElem?_eq_none (by omega)]
      exact .n (by omega) (.c _)
  | succ d ih =>
    intro a b hd h1 h2 h3
    by_cases hab : a < b
    · refine .s (fun k => slices_BinarySearchFunc__api_Choice_api_Choice_int_of_topo_weigh_1.l7_s k _ _ _ _) (.t (by omega) ?_)
      rw [mid a b (by omega)]
      have h4 : (a + b) / 2 < l.length := by omega
      refine .t (by omega) ?_
      rw [nth_get _ _ _ h4]
      refine .b0 (a := if l[(a + b) / 2].f0 < id then -1 else if l[(a + b) / 2].f0 > id then 1 else 0) ?_ ?_
      · unfold topo_weigh_1.f
        rw [cmpi]
        rfl
      · by_cases h5 : l[(a + b) / 2].f0 < id
        · rw [if_pos h5, w64n _ (by omega)]
          refine .t (by decide) (ih _ _ (by omega) ?_ h2 h3)
          rcases Nat.lt_or_ge ((a + b) / 2) (posn id l) with c | c
          · omega
          · have := posn_ge id l hp _ h4 c
            omega
        · rw [if_neg h5]
          refine .n (by split <;> decide) (ih _ _ (by omega) h1 ?_ (by omega))
          rcases Nat.lt_or_ge ((a + b) / 2) (posn id l) with c | c
          · exact absurd (posn_lt id l _ h4 c) h5
          · exact c
    · exact ih a b (by omega) h1 h2 h3
theorem search (l : List T_api_Choice) (id : Int) (hl : l.length < 1000000) (hp : l.Pairwise (fun x y => x.f0 < y.f0)) : Ev (fun k => slices_BinarySearchFunc__api_Choice_api_Choice_int_of_topo_weigh_1.f k l id) ((posn id l : Int), match l[posn id l]? with
    | some c => c.f0 == id
    | none => false) := search_l7 l id hl hp l.length 0 l.length (by omega) (by omega) (posn_le id l) (Nat.le_refl _)
theorem addW_set (id w : Int) : ∀ (l : List T_api_Choice) (h : posn id l < l.length), l[posn id l].f0 = id → addW id w l = l.set (posn id l) ⟨id, if l[posn id l].f1 + w < 65536 then l[posn id l].f1 + w else 65536⟩
  | [], h, _ => nomatch h
  | c :: r, h, he => by
    unfold addW
    by_cases hc : c.f0 < id
    · have e : posn id (c :: r) = posn id r + 1 := by rw [posn, if_pos hc]
      have h' : posn id r < r.length := by rw [e, List.length_cons] at h; omega
      simp only [e, List.getElem_cons_succ] at he
      rw [if_pos hc, addW_set id w r h' he]
      simp only [e, List.set_cons_succ, List.getElem_cons_succ]
    · have e : posn id (c :: r) = 0 := by rw [posn, if_neg hc]
      simp only [e, List.getElem_cons_zero] at he
      rw [if_neg hc, if_pos he]
      simp only [e, List.set_cons_zero, List.getElem_cons_zero]
theorem addW_ins (id w : Int) : ∀ (l : List T_api_Choice), (∀ h : posn id l < l.length, l[posn id l].f0 ≠ id) → addW id w l = l.take (posn id l) ++ ⟨id, w⟩ :: l.drop (posn id l)
  | [], _ => rfl
  | c :: r, he => by
    unfold addW
    by_cases hc : c.f0 < id
    · have e : posn id (c :: r) = posn id r + 1 := by rw [posn, if_pos hc]
      rw [if_pos hc, addW_ins id w r (fun h => by have := he (by rw [e, List.length_cons]; omega); simpa only [e, List.getElem_cons_succ] using this)]
      simp only [e, List.take_succ_cons, List.drop_succ_cons, List.cons_append]
    · have e : posn id (c :: r) = 0 := by rw [posn, if_neg hc]
      have := he (by rw [e, List.length_cons]; omega)
      simp only [e, List.getElem_cons_zero] at this
      rw [if_neg hc, if_neg this]
      simp only [e, List.take_zero, List.drop_zero, List.nil_append]
theorem addW_len (id w : Int) : ∀ l : List T_api_Choice, (addW id w l).length ≤ l.length + 1
  | [] => Nat.le_refl _
  | c :: r => by
    unfold addW
    have := addW_len id w r
    split
    · rw [List.length_cons, List.length_cons]; omega
    · split <;> simp
/-- Where a number stands among choices that rise. -/
theorem addW_mem (id w : Int) : ∀ (l : List T_api_Choice), l.Pairwise (fun x y => x.f0 < y.f0) → ∀ c : T_api_Choice, c ∈ addW id w l ↔ (c ∈ l ∧ c.f0 ≠ id) ∨ (c.f0 = id ∧ ((∃ d ∈ l, d.f0 = id ∧ c.f1 = if d.f1 + w < 65536 then d.f1 + w else 65536) ∨ ((∀ d ∈ l, d.f0 ≠ id) ∧ c.f1 = w)))
  | [], _, c => by
    unfold addW
    rw [List.mem_singleton]
    constructor
    · rintro rfl
      exact .inr ⟨rfl, .inr ⟨(fun _ h => nomatch h), rfl⟩⟩
    · rintro (⟨h, _⟩ | ⟨h, (⟨_, h', _⟩ | ⟨_, h'⟩)⟩)
      · exact nomatch h
      · exact nomatch h'
      · cases c; cases h; cases h'; rfl
  | x :: r, hp, c => by
    obtain ⟨h1, h2⟩ := List.pairwise_cons.1 hp
    unfold addW
    by_cases hx : x.f0 < id
    · rw [if_pos hx, List.mem_cons, addW_mem id w r h2 c, List.mem_cons]
      constructor
      · rintro (rfl | ⟨h, h'⟩ | ⟨h, (⟨d, q1, q2⟩ | ⟨q1, q2⟩)⟩)
        · exact .inl ⟨.inl rfl, by omega⟩
        · exact .inl ⟨.inr h, h'⟩
        · exact .inr ⟨h, .inl ⟨d, List.mem_cons_of_mem _ q1, q2⟩⟩
        · refine .inr ⟨h, .inr ⟨fun d hd => ?_, q2⟩⟩
          rcases List.mem_cons.1 hd with rfl | hd
          · omega
          · exact q1 d hd
      · rintro (⟨h | h, h'⟩ | ⟨h, (⟨d, q1, q2⟩ | ⟨q1, q2⟩)⟩)
        · exact .inl h
        · exact .inr (.inl ⟨h, h'⟩)
        · rcases List.mem_cons.1 q1 with rfl | q1
          · have := q2.1; omega
          · exact .inr (.inr ⟨h, .inl ⟨d, q1, q2⟩⟩)
        · exact .inr (.inr ⟨h, .inr ⟨fun d hd => q1 d (List.mem_cons_of_mem _ hd), q2⟩⟩)
    · rw [if_neg hx]
      by_cases he : x.f0 = id
      · rw [if_pos he, List.mem_cons, List.mem_cons]
        constructor
        · rintro (rfl | h)
          · exact .inr ⟨rfl, .inl ⟨x, List.mem_cons_self, he, rfl⟩⟩
          · exact .inl ⟨.inr h, by have := h1 c h; omega⟩
        · rintro (⟨h | h, h'⟩ | ⟨h, (⟨d, q1, q2, q3⟩ | ⟨q1, q2⟩)⟩)
          · exact absurd (h ▸ he) h'
          · exact .inr h
          · rcases List.mem_cons.1 q1 with rfl | q1
            · left; cases c; cases h; cases q3; rfl
            · have := h1 d q1; omega
          · exact absurd he (q1 x List.mem_cons_self)
      · rw [if_neg he, List.mem_cons]
        constructor
        · rintro (rfl | h)
          · refine .inr ⟨rfl, .inr ⟨fun d hd => ?_, rfl⟩⟩
            rcases List.mem_cons.1 hd with rfl | hd
            · exact he
            · have := h1 d hd; show d.f0 ≠ id; omega
          · refine .inl ⟨h, ?_⟩
            rcases List.mem_cons.1 h with rfl | hd
            · exact he
            · have := h1 c hd; omega
        · rintro (⟨h, h'⟩ | ⟨h, (⟨d, q1, q2, q3⟩ | ⟨q1, q2⟩)⟩)
          · exact .inr h
          · rcases List.mem_cons.1 q1 with rfl | q1
            · exact absurd q2 he
            · have := h1 d q1; omega
          · left; cases c; cases h; cases q2; rfl
theorem addW_ids {id w : Int} {l : List T_api_Choice} {c : T_api_Choice} : ∀ _ : c ∈ addW id w l, c.f0 = id ∨ ∃ d ∈ l, d.f0 = c.f0 := by
  induction l with
  | nil => intro h; rw [addW, List.mem_singleton] at h; exact .inl (h ▸ rfl)
  | cons x r ih =>
    intro h
    unfold addW at h
    split at h
    · rcases List.mem_cons.1 h with rfl | h
      · exact .inr ⟨c, List.mem_cons_self, rfl⟩
      · rcases ih h with e | ⟨d, hd, e⟩
        · exact .inl e
        · exact .inr ⟨d, List.mem_cons_of_mem _ hd, e⟩
    · split at h
      · rcases List.mem_cons.1 h with rfl | h
        · exact .inl rfl
        · exact .inr ⟨c, List.mem_cons_of_mem _ h, rfl⟩
      · rcases List.mem_cons.1 h with rfl | h
        · exact .inl rfl
        · exact .inr ⟨c, h, rfl⟩
theorem addW_up (id w : Int) : ∀ (l : List T_api_Choice), l.Pairwise (fun x y => x.f0 < y.f0) → (addW id w l).Pairwise (fun x y => x.f0 < y.f0)
  | [], _ => List.pairwise_singleton _ _
  | x :: r, hp => by
    obtain ⟨h1, h2⟩ := List.pairwise_cons.1 hp
    unfold addW
    by_cases hx : x.f0 < id
    · rw [if_pos hx]
      refine List.pairwise_cons.2 ⟨fun y hy => ?_, addW_up id w r h2⟩
      rcases addW_ids hy with e | ⟨d, hd, e⟩
      · omega
      · have := h1 d hd; omega
    · rw [if_neg hx]
      by_cases he : x.f0 = id
      · rw [if_pos he]
        exact List.pairwise_cons.2 ⟨fun y hy => by have := h1 y hy; show id < y.f0; omega, h2⟩
      · rw [if_neg he]
        refine List.pairwise_cons.2 ⟨fun y hy => ?_, hp⟩
        show id < y.f0
        rcases List.mem_cons.1 hy with rfl | hy
        · omega
        · have := h1 y hy; omega
/-- What all those of a number weigh. -/
def wSum (is : T_api_Node → Bool) (of : T_api_Node → Int) (l : List T_api_Node) (id : Int) : Int := ((l.filter (fun n => is n && decide (of n = id))).map weight).sum
def wIs (is : T_api_Node → Bool) (of : T_api_Node → Int) (l : List T_api_Node) (id : Int) : Prop := ∃ n ∈ l, is n = true ∧ of n = id
def cap (x : Int) : Int := if x < 65536 then x else 65536
structure WOf (is : T_api_Node → Bool) (of : T_api_Node → Int) (l : List T_api_Node) (v : List T_api_Choice) : Prop where
  up : v.Pairwise (fun x y => x.f0 < y.f0)
  mem : ∀ c, c ∈ v ↔ wIs is of l c.f0 ∧ c.f1 = cap (wSum is of l c.f0)
theorem up_ext {v w : List T_api_Choice} (hv : v.Pairwise (fun x y => x.f0 < y.f0)) (hw : w.Pairwise (fun x y => x.f0 < y.f0)) (h : ∀ c, c ∈ v ↔ c ∈ w) : v = w := by
  have hn : ∀ u : List T_api_Choice, u.Pairwise (fun x y => x.f0 < y.f0) → u.Nodup := fun u hu => hu.imp (fun {a b} hab e => by rw [e] at hab; omega)
  refine List.Perm.eq_of_pairwise (le := fun x y => x.f0 < y.f0) (fun a b _ _ h1 h2 => by omega) hv hw ?_
  exact (List.perm_ext_iff_of_nodup (hn v hv) (hn w hw)).2 h
theorem WOf.eq {is : T_api_Node → Bool} {of : T_api_Node → Int} {l : List T_api_Node} {v w : List T_api_Choice} (hv : WOf is of l v) (hw : WOf is of l w) : v = w :=
  up_ext hv.up hw.up (fun c => (hv.mem c).trans (hw.mem c).symm)
def okW (n : T_api_Node) : Prop := 0 ≤ n.f3 ∧ n.f3 ≤ 65536
theorem weight_ok {n : T_api_Node} (h : okW n) : 0 ≤ weight n ∧ weight n ≤ 65536 := by
  unfold weight okW at *
  split <;> omega
theorem wSum_snoc (is : T_api_Node → Bool) (of : T_api_Node → Int) (l : List T_api_Node) (n : T_api_Node) (id : Int) : wSum is of (l ++ [n]) id = wSum is of l id + if is n = true ∧ of n = id then weight n else 0 := by
  unfold wSum
  rw [List.filter_append, List.map_append, List.sum_append]
  congr 1
  by_cases h1 : is n = true
  · by_cases h2 : of n = id
    · simp [h1, h2]
    · simp [h1, h2]
  · simp [h1]
theorem wSum_ge (is : T_api_Node → Bool) (of : T_api_Node → Int) (l : List T_api_Node) (id : Int) (h : ∀ n ∈ l, okW n) : 0 ≤ wSum is of l id ∧ wSum is of l id ≤ 65536 * l.length := by
  induction l with
  | nil => exact ⟨Int.le_refl _, Int.le_refl _⟩
  | cons n l ih =>
    have ih := ih (fun m hm => h m (List.mem_cons_of_mem _ hm))
    have hw := weight_ok (h n List.mem_cons_self)
    unfold wSum at *
    rw [List.length_cons, List.filter_cons]
    split
    · rw [List.map_cons, List.sum_cons]
      omega
    · omega
theorem wIs_snoc (is : T_api_Node → Bool) (of : T_api_Node → Int) (l : List T_api_Node) (n : T_api_Node) (id : Int) : wIs is of (l ++ [n]) id ↔ wIs is of l id ∨ (is n = true ∧ of n = id) := by
  unfold wIs
  constructor
  · rintro ⟨m, hm, h⟩
    rcases List.mem_append.1 hm with hm | hm
    · exact .inl ⟨m, hm, h⟩
    · rw [List.mem_singleton.1 hm] at h
      exact .inr h
  · rintro (⟨m, hm, h⟩ | h)
    · exact ⟨m, List.mem_append.2 (.inl hm), h⟩
    · exact ⟨n, List.mem_append.2 (.inr (List.mem_singleton.2 rfl)), h⟩
theorem wSum_none {is : T_api_Node → Bool} {of : T_api_Node → Int} {l : List T_api_Node} {id : Int} (h : ¬ wIs is of l id) : wSum is of l id = 0 := by
  unfold wSum
  rw [List.filter_eq_nil_iff.2]
  · rfl
  · intro n hn hc
    rw [Bool.and_eq_true, decide_eq_true_eq] at hc
    exact h ⟨n, hn, hc⟩
theorem WOf.snoc {is : T_api_Node → Bool} {of : T_api_Node → Int} {l : List T_api_Node} {v : List T_api_Choice} {n : T_api_Node} (hv : WOf is of l v) (hl : ∀ n ∈ l, okW n) (hn : okW n) : WOf is of (l ++ [n]) (wOne is of v n) := by
  have hw := weight_ok hn
  unfold wOne
  by_cases hi : is n = true
  · rw [if_pos hi]
    refine ⟨addW_up _ _ _ hv.up, fun c => ?_⟩
    have h0 := wSum_ge is of l c.f0 hl
    rw [addW_mem _ _ _ hv.up, wIs_snoc, wSum_snoc, hv.mem]
    by_cases hc : of n = c.f0
    · rw [if_pos ⟨hi, hc⟩]
      have key : (∃ d ∈ v, d.f0 = of n ∧ c.f1 = if d.f1 + weight n < 65536 then d.f1 + weight n else 65536) ↔ wIs is of l c.f0 ∧ c.f1 = cap (wSum is of l c.f0 + weight n) := by
        have e : ∀ s : Int, 0 ≤ s → (if cap s + weight n < 65536 then cap s + weight n else 65536) = cap (s + weight n) := by
          intro s hs
          unfold cap
          split <;> split <;> (try split) <;> omega
        constructor
        · rintro ⟨d, hd, h1, h2⟩
          obtain ⟨h3, h4⟩ := (hv.mem d).1 hd
          have hdc : d.f0 = c.f0 := h1.trans hc
          rw [hdc] at h3 h4
          rw [h4, e _ h0.1] at h2
          exact ⟨h3, h2⟩
        · rintro ⟨h1, h2⟩
          refine ⟨⟨c.f0, cap (wSum is of l c.f0)⟩, (hv.mem _).2 ⟨h1, rfl⟩, hc.symm, ?_⟩
          show c.f1 = if cap (wSum is of l c.f0) + weight n < 65536 then cap (wSum is of l c.f0) + weight n else 65536
          rw [e _ h0.1]
          exact h2
      have key2 : (∀ d ∈ v, d.f0 ≠ of n) ↔ ¬ wIs is of l c.f0 := by
        constructor
        · intro h h1
          exact h ⟨c.f0, cap (wSum is of l c.f0)⟩ ((hv.mem _).2 ⟨h1, rfl⟩) hc.symm
        · intro h d hd e
          exact h (by have := ((hv.mem d).1 hd).1; rwa [e, hc] at this)
      rw [key, key2]
      constructor
      · rintro (⟨_, h⟩ | ⟨_, (⟨h1, h2⟩ | ⟨h1, h2⟩)⟩)
        · exact absurd hc.symm h
        · exact ⟨.inl h1, h2⟩
        · refine ⟨.inr ⟨hi, hc⟩, ?_⟩
          rw [wSum_none h1, h2]
          unfold cap
          split <;> omega
      · rintro ⟨_, h⟩
        refine .inr ⟨hc.symm, ?_⟩
        by_cases h1 : wIs is of l c.f0
        · exact .inl ⟨h1, h⟩
        · refine .inr ⟨h1, ?_⟩
          rw [wSum_none h1] at h
          unfold cap at h
          rw [h]
          split <;> omega
    · rw [if_neg (fun h => hc h.2), Int.add_zero]
      constructor
      · rintro (⟨h, _⟩ | ⟨h, _⟩)
        · exact ⟨.inl h.1, h.2⟩
        · exact absurd h.symm hc
      · rintro ⟨h | h, h'⟩
        · exact .inl ⟨⟨h, h'⟩, fun e => hc e.symm⟩
        · exact absurd h.2 hc
  · rw [if_neg hi]
    refine ⟨hv.up, fun c => ?_⟩
    rw [hv.mem, wIs_snoc, wSum_snoc, if_neg (fun h => hi h.1), Int.add_zero]
    constructor
    · exact fun h => ⟨.inl h.1, h.2⟩
    · rintro ⟨h | h, h'⟩
      · exact ⟨h, h'⟩
      · exact absurd h.1 hi
theorem WOf.nil (is : T_api_Node → Bool) (of : T_api_Node → Int) : WOf is of [] [] := ⟨List.Pairwise.nil, fun c => ⟨(fun h => nomatch h), (fun h => by obtain ⟨⟨_, h, _⟩, _⟩ := h; exact nomatch h)⟩⟩
theorem wL_take {is : T_api_Node → Bool} {of : T_api_Node → Int} {l : List T_api_Node} (i : Nat) (h : i < l.length) : wL is of (l.take (i + 1)) = wOne is of (wL is of (l.take i)) l[i] := by
  unfold wL
  rw [← List.take_append_getElem h, List.foldl_append]
  rfl
theorem wL_of (is : T_api_Node → Bool) (of : T_api_Node → Int) (l : List T_api_Node) (hl : ∀ n ∈ l, okW n) : ∀ i, i ≤ l.length → WOf is of (l.take i) (wL is of (l.take i)) ∧ (wL is of (l.take i)).length ≤ i := by
  intro i
  induction i with
  | zero => exact fun _ => ⟨.nil _ _, Nat.le_refl _⟩
  | succ i ih =>
    intro hi
    have h1 : i < l.length := by omega
    obtain ⟨ih, hlen⟩ := ih (by omega)
    rw [wL_take i h1]
    refine ⟨?_, ?_⟩
    · rw [← List.take_append_getElem h1]
      exact ih.snoc (fun n hn => hl n (List.mem_of_mem_take hn)) (hl _ (List.getElem_mem h1))
    · unfold wOne
      have := addW_len (of l[i]) (weight l[i]) (wL is of (l.take i))
      split <;> omega

/-- The program's weighing, whatever it weighs by. -/
theorem weigh_gen {isO : T_api_Node → Option Bool} {ofO : T_api_Node → Option Int} {is : T_api_Node → Bool} {of : T_api_Node → Int} (his : ∀ n, isO n = some (is n)) (hof : ∀ n, ofO n = some (of n)) (l : List T_api_Node)
    (L : Nat → List T_api_Choice → Int → Option (List T_api_Choice)) (J : Nat → Int → Int × Bool → List T_api_Choice → Option (List T_api_Choice))
    (hL : ∀ k acc x, L (k + 1) acc x = (if x < (l.length : Int) then (if 0 ≤ x ∧ x < (l.length : Int) then ((isO (⟨(nth T_api_Node.z l x).f0, (nth T_api_Node.z l x).f1, (nth T_api_Node.z l x).f2, (nth T_api_Node.z l x).f3, (nth T_api_Node.z l x).f4, (nth T_api_Node.z l x).f5⟩ : T_api_Node)).bind fun t39 => (if t39 = true then ((ofO (⟨(nth T_api_Node.z l x).f0, (nth T_api_Node.z l x).f1, (nth T_api_Node.z l x).f2, (nth T_api_Node.z l x).f3, (nth T_api_Node.z l x).f4, (nth T_api_Node.z l x).f5⟩ : T_api_Node)).bind fun t44 => ((slices_BinarySearchFunc__api_Choice_api_Choice_int_of_topo_weigh_1.f k acc t44).bind fun t47 => (if t47.2 = true then (J k x t47 acc) else ((ofO (⟨(nth T_api_Node.z l x).f0, (nth T_api_Node.z l x).f1, (nth T_api_Node.z l x).f2, (nth T_api_Node.z l x).f3, (nth T_api_Node.z l x).f4, (nth T_api_Node.z l x).f5⟩ : T_api_Node)).bind fun t53 => ((slices_Insert__api_Choice_api_Choice.f acc t47.1 [(⟨t53, 0⟩ : T_api_Choice)]).bind fun t60 => (J k x t47 t60)))))) else (L k acc (w64 (x + 1))))) else (none)) else (some acc)))
    (hJ : ∀ k x t47 l70, J (k + 1) x t47 l70 = (if ((nth T_api_Node.z l x).f5) = true then (if 0 ≤ t47.1 ∧ t47.1 < (l70.length : Int) then (L k (l70.set (t47.1).toNat (⟨(nth T_api_Choice.z l70 t47.1).f0, (if (w64 ((nth T_api_Choice.z l70 t47.1).f1 + (nth T_api_Node.z l x).f3)) < 65536 then (w64 ((nth T_api_Choice.z l70 t47.1).f1 + (nth T_api_Node.z l x).f3)) else 65536)⟩ : T_api_Choice)) (w64 (x + 1))) else (none)) else (L k l70 (w64 (x + 1)))))
    (hl : l.length ≤ 12) (hw : ∀ n ∈ l, okW n) : ∀ (d i : Nat), i + d = l.length → Ev (fun k => L k (wL is of (l.take i)) (i : Int)) (wL is of l) := by
  intro d
  induction d with
  | zero =>
    intro i hi
    refine .s (fun k => hL k _ _) (.n (by omega) (.cv ?_))
    rw [List.take_of_length_le (by omega)]
  | succ d ih =>
    intro i hi
    have h1 : i < l.length := by omega
    have ih := ih (i + 1) (by omega)
    obtain ⟨hW, hlen⟩ := wL_of is of l hw i (by omega)
    rw [wL_take i h1] at ih
    have hn := hw _ (List.getElem_mem h1)
    refine .s (fun k => hL k _ _) (.t (by omega) (.t (by omega) ?_))
    rw [nth_get _ _ _ h1, w64n i (by omega)]
    generalize wL is of (l.take i) = v at hW hlen ih ⊢
    refine .b0 (his l[i]) ?_
    unfold wOne at ih
    by_cases hi1 : is l[i] = true
    · rw [if_pos hi1] at ih
      refine .t hi1 (.b0 (hof l[i]) (.b (search v (of l[i]) (by omega) hW.up) ?_))
      have hp := posn_le (of l[i]) v
      by_cases hf : ∃ h : posn (of l[i]) v < v.length, v[posn (of l[i]) v].f0 = of l[i]
      · obtain ⟨hlt, he⟩ := hf
        rw [addW_set _ _ v hlt he] at ih
        have hmem := (hW.mem _).1 (List.getElem_mem hlt)
        have hs := wSum_ge is of (l.take i) v[posn (of l[i]) v].f0 (fun n hn => hw n (List.mem_of_mem_take hn))
        have hb : 0 ≤ v[posn (of l[i]) v].f1 ∧ v[posn (of l[i]) v].f1 ≤ 65536 := by
          have := hmem.2
          unfold cap at this
          split at this <;> omega
        rw [List.getElem?_eq_getElem hlt]
        refine .t (by simpa using he) (.s (fun k => hJ k _ _ _) ?_)
        dsimp only
        rw [nth_get _ _ _ h1, nth_get _ _ _ hlt, w64n i (by omega), Int.toNat_natCast]
        unfold weight at ih
        unfold okW at hn
        by_cases h5 : l[i].f5 = true
        · rw [if_pos h5] at ih
          refine .t h5 (.t (by omega) ?_)
          rw [w64_of (n := v[posn (of l[i]) v].f1 + l[i].f3) (by omega) (by omega)]
          simp only [he]
          exact ih
        · rw [if_neg h5, Int.add_zero] at ih
          refine .n h5 ?_
          have e : v.set (posn (of l[i]) v) ⟨of l[i], if v[posn (of l[i]) v].f1 < 65536 then v[posn (of l[i]) v].f1 else 65536⟩ = v := by
            have : (⟨of l[i], if v[posn (of l[i]) v].f1 < 65536 then v[posn (of l[i]) v].f1 else 65536⟩ : T_api_Choice) = v[posn (of l[i]) v] := by
              have e2 : (if v[posn (of l[i]) v].f1 < 65536 then v[posn (of l[i]) v].f1 else 65536) = v[posn (of l[i]) v].f1 := by split <;> omega
              rw [e2]
              exact congrArg (fun z => (⟨z, v[posn (of l[i]) v].f1⟩ : T_api_Choice)) he.symm
            rw [this, List.set_getElem_self]
          rw [e] at ih
          exact ih
      · have hne : ∀ h : posn (of l[i]) v < v.length, v[posn (of l[i]) v].f0 ≠ of l[i] := fun h e => hf ⟨h, e⟩
        rw [addW_ins _ _ v hne] at ih
        refine .n ?_ (.b0 (hof l[i]) (.b0 (a := v.take (posn (of l[i]) v) ++ (⟨of l[i], 0⟩ : T_api_Choice) :: v.drop (posn (of l[i]) v)) ?_ (.s (fun k => hJ k _ _ _) ?_)))
        · by_cases h : posn (of l[i]) v < v.length
          · rw [List.getElem?_eq_getElem h]
            simpa using hne h
          · rw [List.getElem?_eq_none (by omega)]
            exact Bool.false_ne_true
        · unfold slices_Insert__api_Choice_api_Choice.f
          dsimp only
          rw [if_pos ⟨by omega, by omega, by omega⟩, Int.toNat_natCast]
        · dsimp only
          have hq : posn (of l[i]) v < (v.take (posn (of l[i]) v) ++ (⟨of l[i], 0⟩ : T_api_Choice) :: v.drop (posn (of l[i]) v)).length := by
            rw [List.length_append, List.length_take, List.length_cons, List.length_drop]
            omega
          have hg : (v.take (posn (of l[i]) v) ++ (⟨of l[i], 0⟩ : T_api_Choice) :: v.drop (posn (of l[i]) v))[posn (of l[i]) v] = ⟨of l[i], 0⟩ := by
            rw [List.getElem_append_right (by rw [List.length_take]; omega)]
            simp only [List.length_take, Nat.min_eq_left hp, Nat.sub_self, List.getElem_cons_zero]
          rw [nth_get _ _ _ h1, nth_get _ _ _ hq, hg, w64n i (by omega), Int.toNat_natCast]
          unfold weight at ih
          unfold okW at hn
          by_cases h5 : l[i].f5 = true
          · rw [if_pos h5] at ih
            refine .t h5 (.t (by omega) ?_)
            have e : (v.take (posn (of l[i]) v) ++ (⟨of l[i], 0⟩ : T_api_Choice) :: v.drop (posn (of l[i]) v)).set (posn (of l[i]) v) (⟨of l[i], if w64 (0 + l[i].f3) < 65536 then w64 (0 + l[i].f3) else 65536⟩ : T_api_Choice) = v.take (posn (of l[i]) v) ++ (⟨of l[i], l[i].f3⟩ : T_api_Choice) :: v.drop (posn (of l[i]) v) := by
              have e2 : (if w64 (0 + l[i].f3) < 65536 then w64 (0 + l[i].f3) else 65536) = l[i].f3 := by
                rw [w64_of (by omega) (by omega)]
                split <;> omega
              rw [e2, List.set_append_right _ _ (by rw [List.length_take]; omega)]
              simp only [List.length_take, Nat.min_eq_left hp, Nat.sub_self, List.set_cons_zero]
            rw [e]
            exact ih
          · rw [if_neg h5] at ih
            exact .n h5 ih
    · rw [if_neg hi1] at ih
      exact .n hi1 ih
/-! nodes that may be -/
theorem rise_ok : ∀ (p : Int) (l : List T_api_Node), rise p l = true → (∀ n ∈ l, okN n) ∧ l.Pairwise (fun x y => x.f0 < y.f0) ∧ ∀ n ∈ l, p < n.f0
  | p, [], _ => ⟨(fun _ h => nomatch h), List.Pairwise.nil, (fun _ h => nomatch h)⟩
  | p, n :: l, h => by
    rw [rise, Bool.and_eq_true, decide_eq_true_eq] at h
    obtain ⟨h1, h2, h3⟩ := rise_ok n.f0 l h.2
    refine ⟨fun m hm => ?_, List.pairwise_cons.2 ⟨h3, h2⟩, fun m hm => ?_⟩
    · rcases List.mem_cons.1 hm with rfl | hm
      · exact h.1.1
      · exact h1 m hm
    · rcases List.mem_cons.1 hm with rfl | hm
      · exact h.1.2
      · have := h3 m hm; have := h.1.2; omega
theorem Nodes.ok {l : List T_api_Node} (h : Nodes l) : ∀ n ∈ l, okN n := (rise_ok 0 l h.2).1
theorem Nodes.up {l : List T_api_Node} (h : Nodes l) : l.Pairwise (fun x y => x.f0 < y.f0) := (rise_ok 0 l h.2).2.1
theorem Nodes.okW {l : List T_api_Node} (h : Nodes l) : ∀ n ∈ l, okW n := fun n hn => (h.ok n hn).2.2.2
theorem wL_full (is : T_api_Node → Bool) (of : T_api_Node → Int) {l : List T_api_Node} (h : Nodes l) : WOf is of l (wL is of l) ∧ (wL is of l).length ≤ l.length := by
  have := wL_of is of l h.okW l.length (Nat.le_refl _)
  rwa [List.take_length] at this
theorem cap_ok {x : Int} (h : 0 ≤ x) : 0 ≤ cap x ∧ cap x ≤ 65536 := by
  unfold cap
  split <;> omega
theorem wL_chs (is : T_api_Node → Bool) (of : T_api_Node → Int) {l : List T_api_Node} (h : Nodes l) (hof : ∀ n, okN n → 0 ≤ of n ∧ of n ≤ 999) : Draw.Chs (wL is of l) := by
  obtain ⟨hW, hlen⟩ := wL_full is of h
  have hl := h.1
  refine ⟨by omega, fun c hc => ?_, hW.up⟩
  obtain ⟨⟨n, hn, _, he⟩, h2⟩ := (hW.mem c).1 hc
  have := hof n (h.ok n hn)
  have h3 := wSum_ge is of l c.f0 h.okW
  have h4 := cap_ok h3.1
  rw [h2]
  exact ⟨by omega, h4⟩
def isZ (_ : T_api_Node) : Bool := true
def isR (z : Int) (n : T_api_Node) : Bool := n.f1 == z
def isL (z r : Int) (n : T_api_Node) : Bool := (z == 0 || n.f1 == z) && (r == 0 || n.f2 == r)
def ofZ (n : T_api_Node) : Int := n.f1
def ofR (n : T_api_Node) : Int := n.f2
def ofL (n : T_api_Node) : Int := n.f0
theorem chk {l : List T_api_Node} (h : Nodes l) : Ev (fun k => topo_Check.f k l) 0 := (check l (by have := h.1; omega)).v (by rw [decide_eq_true h]; rfl)
theorem zones {l : List T_api_Node} (h : Nodes l) : Ev (fun k => topo_Zones.f k l) (wL isZ ofZ l) := by
  have h2 := h.1
  unfold topo_Zones.f topo_weigh_of_topo_Zones_1_topo_Zones_2.f
  refine .b (.b (chk h) (.t rfl ?_)) (.c _)
  exact weigh_gen (isO := topo_Zones_1.f) (ofO := topo_Zones_2.f) (fun _ => rfl) (fun _ => rfl) l _ _ (fun k _ _ => topo_weigh_of_topo_Zones_1_topo_Zones_2.l19_s k l _ _) (fun k _ _ _ => topo_weigh_of_topo_Zones_1_topo_Zones_2.j72_s k l _ _ _) h.1 h.okW l.length 0 (by omega)
theorem racks {l : List T_api_Node} (h : Nodes l) (z : Int) : Ev (fun k => topo_Racks.f k l z) (wL (isR z) ofR l) := by
  have h2 := h.1
  unfold topo_Racks.f topo_weigh_of_topo_Racks_1_topo_Racks_2.f
  refine .b (.b (chk h) (.t rfl ?_)) (.c _)
  exact weigh_gen (isO := fun n => topo_Racks_1.f n z) (ofO := topo_Racks_2.f) (fun _ => rfl) (fun _ => rfl) l _ _ (fun k _ _ => topo_weigh_of_topo_Racks_1_topo_Racks_2.l19_s k l z _ _) (fun k _ _ _ => topo_weigh_of_topo_Racks_1_topo_Racks_2.j72_s k l z _ _ _) h.1 h.okW l.length 0 (by omega)
theorem isl (z r : Int) (n : T_api_Node) : topo_Leaves_1.f n z r = some (isL z r n) := by
  unfold topo_Leaves_1.f isL
  by_cases h1 : z = 0
  · by_cases h2 : r = 0
    · simp [h1, h2]
    · simp [h1, h2]
  · by_cases h3 : n.f1 = z
    · by_cases h2 : r = 0
      · simp [h1, h2, h3]
      · simp [h1, h2, h3]
    · simp [h1, h3]
theorem leaves {l : List T_api_Node} (h : Nodes l) (z r : Int) : Ev (fun k => topo_Leaves.f k l z r) (wL (isL z r) ofL l) := by
  have h2 := h.1
  unfold topo_Leaves.f topo_weigh_of_topo_Leaves_1_topo_Leaves_2.f
  refine .b (.b (chk h) (.t rfl ?_)) (.c _)
  exact weigh_gen (isO := fun n => topo_Leaves_1.f n z r) (ofO := topo_Leaves_2.f) (isl z r) (fun _ => rfl) l _ _ (fun k _ _ => topo_weigh_of_topo_Leaves_1_topo_Leaves_2.l19_s k l z r _ _) (fun k _ _ _ => topo_weigh_of_topo_Leaves_1_topo_Leaves_2.j72_s k l z r _ _ _) h.1 h.okW l.length 0 (by omega)

end Topo
namespace Rule
theorem w64n (i : Nat) (h : i < 9223372036854775807) : w64 ((i : Int) + 1) = ((i + 1 : Nat) : Int) := by rw [w64_of (by omega) (by omega)]; omega
theorem nth_get {α : Type} (z : α) (l : List α) (i : Nat) (h : i < l.length) : nth z l (i : Int) = l[i] := by simp [nth, h]
/-- The level behind a step, where it may stand. -/
def step (at_ : Int) (s : T_api_Step) : Option Int :=
  if s.f0 = 1 then (if at_ = -1 ∧ s.f1 = 0 ∧ s.f2 = 0 then some 0 else none)
  else if s.f0 = 3 then (if at_ = 3 ∧ s.f1 = 0 ∧ s.f2 = 0 then some (-1) else none)
  else if s.f0 = 2 then (if 0 ≤ at_ ∧ at_ < s.f1 ∧ s.f1 ≤ 3 ∧ (s.f1 = 2 → at_ = 1) ∧ 1 ≤ s.f2 ∧ s.f2 ≤ 12 then some s.f1 else none)
  else none
theorem step_ge {a b : Int} {s : T_api_Step} (ha : -1 ≤ a) (h : step a s = some b) : -1 ≤ b := by
  unfold step at h
  repeat' (split at h)
  all_goals first | (cases h; omega) | (cases h)
/-- A rule goes through from a level on. -/
def goes : Int → List T_api_Step → Bool
  | _, [] => true
  | a, s :: l => match step a s with
    | some b => goes b l
    | none => false
def May (l : List T_api_Step) : Prop := (1 ≤ l.length ∧ l.length ≤ 8) ∧ goes (-1) l = true
instance (l : List T_api_Step) : Decidable (May l) := inferInstanceAs (Decidable (_ ∧ _))
theorem next (a : Int) (s : T_api_Step) (k : Nat) (ha : -1 ≤ a) : ∃ b, place_next.f (k + 1) a s = some (b, (step a s).isSome) ∧ ∀ c, step a s = some c → b = c := by
  unfold place_next.f step
  by_cases h1 : s.f0 = 1
  · simp only [if_pos h1]
    by_cases c1 : a = -1
    · by_cases c2 : s.f1 = 0
      · by_cases c3 : s.f2 = 0
        · exact ⟨0, by simp [c1, c2, c3], by simp [c1, c2, c3]⟩
        · exact ⟨0, by simp [c1, c2, c3], by simp [c1, c2, c3]⟩
      · exact ⟨0, by simp [c1, c2], by simp [c1, c2]⟩
    · exact ⟨0, by simp [c1], by simp [c1]⟩
  · simp only [if_neg h1]
    by_cases h3 : s.f0 = 3
    · simp only [if_pos h3]
      by_cases c1 : a = 3
      · by_cases c2 : s.f1 = 0
        · by_cases c3 : s.f2 = 0
          · exact ⟨-1, by simp [c1, c2, c3], by simp [c1, c2, c3]⟩
          · exact ⟨-1, by simp [c1, c2, c3], by simp [c1, c2, c3]⟩
        · exact ⟨-1, by simp [c1, c2], by simp [c1, c2]⟩
      · exact ⟨-1, by simp [c1], by simp [c1]⟩
    · simp only [if_neg h3]
      by_cases h2 : s.f0 = 2
      · simp only [if_pos h2, place_next.j23_s]
        refine ⟨s.f1, ?_, ?_⟩
        · by_cases c0 : 0 ≤ a ∧ a < s.f1 ∧ s.f1 ≤ 3 ∧ (s.f1 = 2 → a = 1) ∧ 1 ≤ s.f2 ∧ s.f2 ≤ 12
          · rw [if_pos c0, if_pos (by omega), if_pos c0.2.2.1]
            have : (if s.f1 = 2 then (if a = -1 then (some (s.f1, false) : Option (Int × Bool)) else (if (a == 1) = true then (if s.f2 ≥ 1 then some (s.f1, decide (s.f2 ≤ 12)) else some (s.f1, false)) else some (s.f1, false))) else (if a = -1 then some (s.f1, false) else (if true = true then (if s.f2 ≥ 1 then some (s.f1, decide (s.f2 ≤ 12)) else some (s.f1, false)) else some (s.f1, false)))) = some (s.f1, true) := by
              obtain ⟨q1, q2, q3, q4, q5, q6⟩ := c0
              by_cases d : s.f1 = 2
              · have := q4 d
                simp [d, this, q5, q6]
              · have : ¬ a = -1 := by omega
                simp [d, this, q5, q6]
            exact this
          · rw [if_neg c0]
            have key : ∀ y : Bool, (y = true → ¬ (0 ≤ a ∧ 1 ≤ s.f2 ∧ s.f2 ≤ 12)) → (if a = -1 then (some (s.f1, false) : Option (Int × Bool)) else (if y = true then (if s.f2 ≥ 1 then some (s.f1, decide (s.f2 ≤ 12)) else some (s.f1, false)) else some (s.f1, false))) = some (s.f1, false) := by
              intro y hy
              by_cases d : a = -1
              · rw [if_pos d]
              · rw [if_neg d]
                cases y with
                | false => rfl
                | true =>
                  rw [if_pos rfl]
                  by_cases e1 : s.f2 ≥ 1
                  · rw [if_pos e1, decide_eq_false (fun e2 => hy rfl ⟨by omega, e1, e2⟩)]
                  · rw [if_neg e1]
            by_cases d1 : s.f1 > a
            · rw [if_pos d1]
              by_cases d2 : s.f1 ≤ 3
              · rw [if_pos d2]
                by_cases d3 : s.f1 = 2
                · rw [if_pos d3]
                  exact key _ (fun hy hh => c0 ⟨hh.1, d1, d2, fun _ => by simpa using hy, hh.2⟩)
                · rw [if_neg d3]
                  simpa using key true (fun _ hh => c0 ⟨hh.1, d1, d2, fun e => absurd e d3, hh.2⟩)
              · rw [if_neg d2]
                exact key _ (fun hy => by cases hy)
            · rw [if_neg d1]
              exact key _ (fun hy => by cases hy)
        · intro c hc
          split at hc
          · exact Option.some.inj hc
          · cases hc
      · simp only [if_neg h2]
        exact ⟨-1, by simp, by simp⟩
theorem check_l18 (l : List T_api_Step) (hl : l.length ≤ 1000) : ∀ (d k i : Nat) (a : Int), -1 ≤ a → i + d = l.length → d + 1 < k → place_Check.l18 k l a (i : Int) = some (if goes a (l.drop i) = true then 0 else 1) := by
  intro d
  induction d with
  | zero =>
    intro k i a ha hi hk
    obtain ⟨k, rfl⟩ : ∃ m, k = m + 1 := ⟨k - 1, by omega⟩
    rw [place_Check.l18_s, if_neg (by omega), List.drop_eq_nil_of_le (by omega)]
    rfl
  | succ d ih =>
    intro k i a ha hi hk
    obtain ⟨k, rfl⟩ : ∃ m, k = m + 2 := ⟨k - 2, by omega⟩
    have h1 : i < l.length := by omega
    rw [place_Check.l18_s, if_pos (by omega), if_pos (by omega), nth_get _ _ _ h1, w64n i (by omega), List.drop_eq_getElem_cons h1]
    obtain ⟨b, hb, hc⟩ := next a (⟨l[i].f0, l[i].f1, l[i].f2⟩ : T_api_Step) k ha
    rw [hb, Option.bind_some]
    dsimp only
    have hs : (⟨l[i].f0, l[i].f1, l[i].f2⟩ : T_api_Step) = l[i] := rfl
    rw [hs] at hc ⊢
    cases hst : step a l[i] with
    | none =>
      simp only [goes, hst, Option.isSome_none, Bool.false_eq_true, if_false]
    | some c =>
      obtain rfl := hc c hst
      simp only [goes, hst, Option.isSome_some, if_true]
      exact ih (k + 1) (i + 1) b (step_ge ha hst) (by omega) (by omega)
theorem check (l : List T_api_Step) (k : Nat) (hk : 1100 < k) : place_Check.f k l = some (if May l then 0 else 1) := by
  obtain ⟨k, rfl⟩ : ∃ m, k = m + 1 := ⟨k - 1, by omega⟩
  unfold place_Check.f
  by_cases h0 : (l.length : Int) = 0
  · rw [if_pos h0, place_Check.j6_s, if_pos rfl, if_neg (fun h : May l => by have := h.1.1; omega)]
  · rw [if_neg h0, place_Check.j6_s]
    by_cases h8 : (l.length : Int) > 8
    · rw [if_pos (decide_eq_true h8), if_neg (fun h : May l => by have := h.1.2; omega)]
    · rw [if_neg (by simpa using h8)]
      refine (check_l18 l (by omega) l.length k 0 (-1) (by omega) (by omega) (by omega)).trans ?_
      rw [List.drop_zero]
      by_cases h : goes (-1) l = true
      · rw [if_pos h, if_pos (show May l from ⟨⟨by omega, by omega⟩, h⟩)]
      · rw [if_neg h, if_neg (fun hh : May l => h hh.2)]
theorem common (k : Nat) (n : Int) : place_Common.f (k + 1) n = some (if 1 ≤ n ∧ n ≤ 3 then [(⟨1, 0, 0⟩ : T_api_Step), ⟨2, 1, n⟩, ⟨2, 2, 1⟩, ⟨2, 3, 1⟩, ⟨3, 0, 0⟩] else []) := by
  unfold place_Common.f
  simp only [place_Common.j6_s]
  by_cases h1 : n < 1
  · rw [if_pos h1, if_pos trivial, if_neg (by omega)]
  · rw [if_neg h1]
    by_cases h3 : n > 3
    · rw [if_pos (decide_eq_true h3), if_neg (by omega)]
    · rw [if_neg (by simpa using h3), if_pos ⟨by omega, by omega⟩]

end Rule
namespace Place
/-! where groups stand -/
def kids (l : List T_api_Node) (g : Int) (s : T_api_Step) (z r : Int) : List Int :=
  (Draw.ord (Mixn.fold (Draw.un g) [Draw.un s.f1, Draw.un z, Draw.un r]) (if s.f1 = 1 then Topo.wL Topo.isZ Topo.ofZ l else if s.f1 = 2 then Topo.wL (Topo.isR z) Topo.ofR l else Topo.wL (Topo.isL z r) Topo.ofL l)).map (fun x => x.f0)
def deeper (s : T_api_Step) (x : T_place_item) (id : Int) : T_place_item := if s.f1 = 1 then ⟨id, x.f1, x.f2⟩ else if s.f1 = 2 then ⟨x.f0, id, x.f2⟩ else ⟨x.f0, x.f1, id⟩
def chooseL (l : List T_api_Node) (g : Int) (s : T_api_Step) (x : T_place_item) : List T_place_item := ((kids l g s x.f0 x.f1).take s.f2.toNat).map (deeper s x)
def emit (size : Int) (out : List Int) (x : T_place_item) : List Int := if (out.length : Int) < size ∧ ¬ x.f2 ∈ out then out ++ [x.f2] else out
def stepL (l : List T_api_Node) (g size : Int) (p : List T_place_item × List Int) (s : T_api_Step) : List T_place_item × List Int :=
  if s.f0 = 1 then ([⟨0, 0, 0⟩], p.2) else if s.f0 = 2 then (p.1.flatMap (chooseL l g s), p.2) else ([], p.1.foldl (emit size) p.2)
def runL (l : List T_api_Node) (rule : List T_api_Step) (g size : Int) : List Int := (rule.foldl (stepL l g size) ([], [])).2
theorem fold_lt (s : Nat) (hs : s < 18446744073709551616) (l : List Nat) : Mixn.fold s l < 18446744073709551616 := by
  unfold Mixn.fold
  have h0 := Mixn.mix_lt s
  generalize Mixn.mix s = x at h0 ⊢
  induction l generalizing x with
  | nil => exact h0
  | cons a l ih => exact ih _ (Mixn.step_lt _ _)
theorem kids_len {l : List T_api_Node} (h : Topo.Nodes l) (g : Int) (s : T_api_Step) (z r : Int) : (kids l g s z r).length ≤ 12 := by
  have hl := h.1
  unfold kids Draw.ord
  rw [List.length_map, sortL_length]
  refine Nat.le_trans (List.length_filter_le _ _) ?_
  split
  · exact Nat.le_trans (Topo.wL_full _ _ h).2 hl
  · split
    · exact Nat.le_trans (Topo.wL_full _ _ h).2 hl
    · exact Nat.le_trans (Topo.wL_full _ _ h).2 hl
theorem fold3 (g a b c : Int) : Ev (fun k => mix_Fold.f k (IntKind.u64.wrap g) [IntKind.u64.wrap a, IntKind.u64.wrap b, IntKind.u64.wrap c]) ((Mixn.fold (Draw.un g) [Draw.un a, Draw.un b, Draw.un c] : Nat) : Int) := by
  have h := Draw.fold (Draw.un g) (Draw.un_eq g).2 [Draw.un a, Draw.un b, Draw.un c] (fun x hx => by
    simp only [List.mem_cons, List.not_mem_nil, or_false] at hx
    rcases hx with rfl | rfl | rfl <;> exact (Draw.un_eq _).2) (by simp)
  rw [(Draw.un_eq g).1, (Draw.un_eq a).1, (Draw.un_eq b).1, (Draw.un_eq c).1]
  exact h
theorem zones_chs {l : List T_api_Node} (h : Topo.Nodes l) : Draw.Chs (Topo.wL Topo.isZ Topo.ofZ l) := Topo.wL_chs _ _ h (fun n hn => by unfold Topo.okN at hn; unfold Topo.ofZ; omega)
theorem racks_chs {l : List T_api_Node} (h : Topo.Nodes l) (z : Int) : Draw.Chs (Topo.wL (Topo.isR z) Topo.ofR l) := Topo.wL_chs _ _ h (fun n hn => by unfold Topo.okN at hn; unfold Topo.ofR; omega)
theorem leaves_chs {l : List T_api_Node} (h : Topo.Nodes l) (z r : Int) : Draw.Chs (Topo.wL (Topo.isL z r) Topo.ofL l) := Topo.wL_chs _ _ h (fun n hn => by unfold Topo.okN at hn; unfold Topo.ofL; omega)
theorem choose_l80 (x : T_place_item) (s : T_api_Step) (o : List Int) (n : Nat) (hn : n ≤ o.length) (ho : o.length ≤ 12) (he : (if (o.length : Int) < s.f2 then (o.length : Int) else s.f2) = (n : Int)) : ∀ (d i : Nat), i + d = n → Ev (fun k => place_choose.l80 k x s o ((o.take i).map (deeper s x)) (i : Int)) ((o.take n).map (deeper s x)) := by
  have ec : cutl o 0 (n : Int) = o.take n := by simp [cutl]
  have el : (o.take n).length = n := by rw [List.length_take]; omega
  intro d
  induction d with
  | zero =>
    intro i hi
    refine .s (fun k => place_choose.l80_s k _ _ _ _ _) ?_
    rw [he, ec, el]
    refine .n (by omega) (.cv ?_)
    rw [show i = n by omega]
  | succ d ih =>
    intro i hi
    have ih := ih (i + 1) (by omega)
    have h1 : i < o.length := by omega
    have h2 : i < (o.take n).length := by omega
    refine .s (fun k => place_choose.l80_s k _ _ _ _ _) ?_
    rw [he, ec, el, nth_get _ _ _ h2, List.getElem_take]
    rw [← List.take_append_getElem h1, List.map_append, List.map_singleton] at ih
    unfold deeper at ih ⊢
    have hq : ((o.take i).map (deeper s x)).length ≤ 12 := by rw [List.length_map, List.length_take]; omega
    unfold deeper at hq
    refine .t (by omega) (.t (by omega) ?_)
    refine .i (fun c => ?_) (fun c => ?_)
    · refine .s (fun k => place_choose.j110_s k _ _ _ _ _ _ _ _) (.t (by omega) ?_)
      rw [w64n i (by omega)]
      rwa [if_pos c] at ih
    · rw [if_neg c] at ih
      refine .i (fun c => ?_) (fun c => ?_)
      · refine .s (fun k => place_choose.j110_s k _ _ _ _ _ _ _ _) (.t (by omega) ?_)
        rw [w64n i (by omega)]
        rwa [if_pos c] at ih
      · refine .s (fun k => place_choose.j110_s k _ _ _ _ _ _ _ _) (.t (by omega) ?_)
        rw [w64n i (by omega)]
        rwa [if_neg c] at ih
theorem choose {l : List T_api_Node} (h : Topo.Nodes l) (x : T_place_item) (s : T_api_Step) (g : Int) (hs : 1 ≤ s.f2) : Ev (fun k => place_choose.f k l x s g) (chooseL l g s x) := by
  have hk := kids_len h g s x.f0 x.f1
  have hj : ∀ c, Draw.Chs c → kids l g s x.f0 x.f1 = (Draw.ord (Mixn.fold (Draw.un g) [Draw.un s.f1, Draw.un x.f0, Draw.un x.f1]) c).map (fun x => x.f0) → Ev (fun k => place_choose.j42 k x s g c) (chooseL l g s x) := by
    intro c hc e
    refine .s (fun k => place_choose.j42_s k _ _ _ _) (.b (fold3 g s.f1 x.f0 x.f1) (.b (Draw.order _ (fold_lt _ (Draw.un_eq g).2 _) c hc) ?_))
    rw [← e]
    unfold chooseL
    generalize kids l g s x.f0 x.f1 = o at hk ⊢
    have he : (if (o.length : Int) < s.f2 then (o.length : Int) else s.f2) = ((min s.f2.toNat o.length : Nat) : Int) := by
      split <;> omega
    rw [he]
    refine .t (by omega) ?_
    have := choose_l80 x s o (min s.f2.toNat o.length) (by omega) hk he (min s.f2.toNat o.length) 0 (by omega)
    rw [← List.take_eq_take_min] at this
    exact this
  unfold place_choose.f
  have hz := zones_chs h
  have hr := racks_chs h x.f0
  have hv := leaves_chs h x.f0 x.f1
  unfold kids at hj
  refine .i (fun c => .b (Topo.zones h) (hj _ hz (by rw [if_pos c]))) (fun c => .i (fun c2 => .b (Topo.racks h _) (hj _ hr (by rw [if_neg c, if_pos c2]))) (fun c2 => .b (Topo.leaves h _ _) (hj _ hv (by rw [if_neg c, if_neg c2]))))

theorem step_is {a : Int} {s : T_api_Step} {r : List T_api_Step} (h : Rule.goes a (s :: r) = true) : ∃ b, Rule.goes b r = true ∧ ((s.f0 = 1 ∧ a = -1 ∧ b = 0) ∨ (s.f0 = 2 ∧ (1 ≤ s.f1 ∧ s.f1 ≤ 3) ∧ (1 ≤ s.f2 ∧ s.f2 ≤ 12) ∧ b = s.f1 ∧ 0 ≤ a) ∨ (s.f0 = 3 ∧ b = -1 ∧ a = 3)) := by
  unfold Rule.goes at h
  split at h
  · rename_i b hb
    refine ⟨b, h, ?_⟩
    unfold Rule.step at hb
    by_cases c1 : s.f0 = 1
    · rw [if_pos c1] at hb
      split at hb
      · cases hb; exact .inl ⟨c1, by omega, rfl⟩
      · cases hb
    · rw [if_neg c1] at hb
      by_cases c3 : s.f0 = 3
      · rw [if_pos c3] at hb
        split at hb
        · cases hb; exact .inr (.inr ⟨c3, rfl, by omega⟩)
        · cases hb
      · rw [if_neg c3] at hb
        split at hb
        · split at hb
          · cases hb; exact .inr (.inl ⟨by assumption, by omega, by omega, rfl, by omega⟩)
          · cases hb
        · cases hb
  · cases h
theorem flat_len {α β : Type} (f : α → List β) (hf : ∀ x, (f x).length ≤ 12) : ∀ l : List α, (l.flatMap f).length ≤ 12 * l.length
  | [] => Nat.le_refl _
  | x :: l => by
    have := flat_len f hf l
    have := hf x
    rw [List.flatMap_cons, List.length_append, List.length_cons]
    omega
theorem chooseL_len {l : List T_api_Node} (h : Topo.Nodes l) (g : Int) (s : T_api_Step) (x : T_place_item) : (chooseL l g s x).length ≤ 12 := by
  unfold chooseL
  rw [List.length_map, List.length_take]
  have := kids_len h g s x.f0 x.f1
  omega
theorem flat_take {α β : Type} (f : α → List β) (l : List α) (i : Nat) (h : i < l.length) : (l.take (i + 1)).flatMap f = (l.take i).flatMap f ++ f l[i] := by
  rw [← List.take_append_getElem h, List.flatMap_append]
  simp
theorem run_l73 {l : List T_api_Node} (h : Topo.Nodes l) (rule : List T_api_Step) (g size : Int) (hand : List T_place_item) (out : List Int) (i : Nat) (hi : i < rule.length) (hs : 1 ≤ rule[i].f2) (hh : hand.length ≤ 429981696) {v : List Int × Int}
    (hv : Ev (fun k => place_Run.l38 k l rule g size (hand.flatMap (chooseL l g rule[i])) out (w64 ((i : Int) + 1))) v) : ∀ (d j : Nat), j + d = hand.length → Ev (fun k => place_Run.l73 k l rule g size hand out (i : Int) ((hand.take j).flatMap (chooseL l g rule[i])) (j : Int)) v := by
  intro d
  induction d with
  | zero =>
    intro j hj
    refine .s (fun k => place_Run.l73_s k _ _ _ _ _ _ _ _ _) (.n (by omega) ?_)
    rw [List.take_of_length_le (by omega)]
    exact hv
  | succ d ih =>
    intro j hj
    have h1 : j < hand.length := by omega
    have ih := ih (j + 1) (by omega)
    rw [flat_take _ _ _ h1] at ih
    have hlen := flat_len (chooseL l g rule[i]) (chooseL_len h g rule[i]) (hand.take j)
    have hlen2 := chooseL_len h g rule[i] hand[j]
    rw [List.length_take] at hlen
    refine .s (fun k => place_Run.l73_s k _ _ _ _ _ _ _ _ _) (.t (by omega) (.t (by omega) ?_))
    rw [nth_get _ _ _ h1, nth_get _ _ _ hi, w64n j (by omega)]
    exact .b (choose h hand[j] rule[i] g hs) (.t (by omega) ih)
theorem emit_len (size : Int) (hand : List T_place_item) : ∀ out : List Int, (out.length : Int) ≤ size → ((hand.foldl (emit size) out).length : Int) ≤ size := by
  induction hand with
  | nil => exact fun _ h => h
  | cons x r ih =>
    intro out h
    refine ih _ ?_
    unfold emit
    split
    · rw [List.length_append, List.length_singleton]; omega
    · exact h
theorem foldl_take {α β : Type} (f : β → α → β) (b : β) (l : List α) (i : Nat) (h : i < l.length) : (l.take (i + 1)).foldl f b = f ((l.take i).foldl f b) l[i] := by
  rw [← List.take_append_getElem h, List.foldl_append]
  rfl
theorem run_l111 (l : List T_api_Node) (rule : List T_api_Step) (g size : Int) (hz : size ≤ 3) (hand : List T_place_item) (out : List Int) (ho : (out.length : Int) ≤ size) (i : Nat) (hh : hand.length ≤ 429981696) {v : List Int × Int}
    (hv : Ev (fun k => place_Run.l38 k l rule g size [] (hand.foldl (emit size) out) (w64 ((i : Int) + 1))) v) : ∀ (d j : Nat), j + d = hand.length → Ev (fun k => place_Run.l111 k l rule g size hand (i : Int) ((hand.take j).foldl (emit size) out) (j : Int)) v := by
  intro d
  induction d with
  | zero =>
    intro j hj
    refine .s (fun k => place_Run.l111_s k _ _ _ _ _ _ _ _) (.n (by omega) ?_)
    rw [List.take_of_length_le (by omega)]
    exact hv
  | succ d ih =>
    intro j hj
    have h1 : j < hand.length := by omega
    have ih := ih (j + 1) (by omega)
    rw [foldl_take _ _ _ _ h1] at ih
    have hlen := emit_len size (hand.take j) out ho
    generalize (hand.take j).foldl (emit size) out = q at ih hlen ⊢
    have hj : ∀ y : Bool, y = decide ((q.length : Int) < size ∧ ¬ hand[j].f2 ∈ q) → Ev (fun k => place_Run.j135 k l rule g size hand (i : Int) q (j : Int) y) v := by
      intro y hy
      subst hy
      refine .s (fun k => place_Run.j135_s k _ _ _ _ _ _ _ _ _) ?_
      rw [nth_get _ _ _ h1, w64n j (by omega)]
      unfold emit at ih
      refine .i (fun c => ?_) (fun c => ?_)
      · rw [if_pos (of_decide_eq_true c)] at ih
        exact .t (by omega) ih
      · rw [if_neg (fun e => c (decide_eq_true e))] at ih
        exact ih
    refine .s (fun k => place_Run.l111_s k _ _ _ _ _ _ _ _) (.t (by omega) (.t (by omega) ?_))
    rw [nth_get _ _ _ h1]
    refine .i (fun c => .b (Topo.contains q hand[j].f2 (by omega)) (hj _ ?_)) (fun c => hj _ ?_)
    · by_cases c2 : hand[j].f2 ∈ q
      · simp [c2]
      · simp [c, c2]
    · simp [c]
theorem run_l38 {l : List T_api_Node} (h : Topo.Nodes l) (rule : List T_api_Step) (hr : rule.length ≤ 8) (g size : Int) (hz : size ≤ 3) : ∀ (d i : Nat) (hand : List T_place_item) (out : List Int) (a : Int), i + d = rule.length → hand.length ≤ 12 ^ i → (out.length : Int) ≤ size → Rule.goes a (rule.drop i) = true → Ev (fun k => place_Run.l38 k l rule g size hand out (i : Int)) (((rule.drop i).foldl (stepL l g size) (hand, out)).2, 0) := by
  intro d
  induction d with
  | zero =>
    intro i hand out a hi _ _ _
    refine .s (fun k => place_Run.l38_s k _ _ _ _ _ _ _) (.n (by omega) (.cv ?_))
    rw [List.drop_eq_nil_of_le (by omega)]
    rfl
  | succ d ih =>
    intro i hand out a hi hh ho hg
    have h1 : i < rule.length := by omega
    have hp : hand.length ≤ 429981696 := Nat.le_trans hh (Nat.le_trans (Nat.pow_le_pow_right (by omega) (show i ≤ 8 by omega)) (by decide))
    have h12 : 0 < 12 ^ i := Nat.pow_pos (by omega)
    rw [List.drop_eq_getElem_cons h1] at hg ⊢
    obtain ⟨b, hb, hc⟩ := step_is hg
    rw [List.foldl_cons]
    refine .s (fun k => place_Run.l38_s k _ _ _ _ _ _ _) (.t (by omega) (.t (by omega) ?_))
    rw [nth_get _ _ _ h1]
    rcases hc with ⟨c1, _, _⟩ | ⟨c1, c2, c3, _, _⟩ | ⟨c1, _, _⟩
    · refine .t c1 ?_
      rw [w64n i (by omega), stepL, if_pos c1]
      exact ih (i + 1) _ _ b (by omega) (by rw [Nat.pow_succ, List.length_singleton]; omega) ho hb
    · refine .n (by omega) (.t c1 ?_)
      rw [stepL, if_neg (by omega), if_pos c1]
      refine run_l73 h rule g size hand out i h1 c3.1 hp ?_ hand.length 0 (by omega)
      rw [w64n i (by omega)]
      refine ih (i + 1) _ _ b (by omega) ?_ ho hb
      have := flat_len (chooseL l g rule[i]) (chooseL_len h g rule[i]) hand
      rw [Nat.pow_succ]
      omega
    · refine .n (by omega) (.n (by omega) ?_)
      rw [stepL, if_neg (by omega), if_neg (by omega)]
      refine run_l111 l rule g size hz hand out ho i hp ?_ hand.length 0 (by omega)
      rw [w64n i (by omega)]
      exact ih (i + 1) _ _ b (by omega) (Nat.zero_le _) (emit_len size hand out ho) hb
/-- What a rule may be asked of. -/
def mayRun (l : List T_api_Node) (rule : List T_api_Step) (g size : Int) : Prop := Topo.Nodes l ∧ Rule.May rule ∧ (0 ≤ g ∧ g < 8) ∧ 1 ≤ size ∧ size ≤ 3
instance (l : List T_api_Node) (rule : List T_api_Step) (g size : Int) : Decidable (mayRun l rule g size) := inferInstanceAs (Decidable (_ ∧ _))
theorem run (l : List T_api_Node) (rule : List T_api_Step) (g size : Int) : Ev (fun k => place_Run.f k l rule g size) (if mayRun l rule g size then (runL l rule g size, 0) else ([], 1)) := by
  have hc : Ev (fun k => place_Check.f k rule) (if Rule.May rule then 0 else 1) := ⟨1101, fun k hk => Rule.check rule k (by omega)⟩
  have hj : ∀ y : Bool, y = decide (¬ (1 ≤ size ∧ size ≤ 3)) → Topo.Nodes l → Rule.May rule → (0 ≤ g ∧ g < 8) → Ev (fun k => place_Run.j16 k l rule g size y) (if mayRun l rule g size then (runL l rule g size, 0) else ([], 1)) := by
    intro y hy h1 h2 h3
    subst hy
    refine .s (fun k => place_Run.j16_s k _ _ _ _ _) ?_
    refine .i (fun c => ?_) (fun c => ?_)
    · rw [if_neg (fun e => of_decide_eq_true c e.2.2.2)]
      exact .c _
    · have c : 1 ≤ size ∧ size ≤ 3 := Decidable.not_not.1 (fun e => c (decide_eq_true e))
      rw [if_pos ⟨h1, h2, h3, c⟩]
      exact run_l38 h1 rule h2.1.2 g size c.2 rule.length 0 [] [] (-1) (by omega) (Nat.zero_le _) (by have := c.1; show ((0 : Nat) : Int) ≤ size; omega) h2.2
  have hn : ¬ mayRun l rule g size → Ev (fun k => place_Run.j16 k l rule g size true) (if mayRun l rule g size then (runL l rule g size, 0) else ([], 1)) := by
    intro c
    rw [if_neg c]
    exact .s (fun k => place_Run.j16_s k _ _ _ _ _) (.t rfl (.c _))
  unfold place_Run.f
  refine .b (Topo.check' l) ?_
  by_cases h1 : Topo.Nodes l
  · rw [decide_eq_true h1]
    refine .t rfl (.b hc ?_)
    by_cases h2 : Rule.May rule
    · rw [if_pos h2]
      refine .t rfl (.i (fun c => hn (fun e => by have := e.2.2.1; omega)) (fun c => .i (fun c => hn (fun e => by have := e.2.2.1; omega)) (fun c2 => .i (fun c => hn (fun e => by have := e.2.2.2; omega)) (fun c3 => hj _ ?_ h1 h2 ⟨by omega, by omega⟩))))
      rw [decide_eq_decide]
      omega
    · rw [if_neg h2]
      exact .n (by decide) (hn (fun e => h2 e.2.1))
  · rw [decide_eq_false h1]
    exact .n (by decide) (hn (fun e => h1 e.1))
theorem steps_len (l : List T_api_Node) (g size : Int) : ∀ (rule : List T_api_Step) (p : List T_place_item × List Int), (p.2.length : Int) ≤ size → ((rule.foldl (stepL l g size) p).2.length : Int) ≤ size
  | [], _, h => h
  | s :: r, p, h => by
    refine steps_len l g size r _ ?_
    unfold stepL
    split
    · exact h
    · split
      · exact h
      · exact emit_len size _ _ h
theorem runL_len (l : List T_api_Node) (rule : List T_api_Step) (g size : Int) (h : 1 ≤ size) : ((runL l rule g size).length : Int) ≤ size := steps_len l g size rule ([], []) (by show ((0 : Nat) : Int) ≤ size; omega)

end Place

namespace Draw
theorem shift (x : Nat) (hx : x < 18446744073709551616) : windroseref01_shift.f (x : Int) = some ((Mixn.sh x : Nat) : Int) := by
  unfold windroseref01_shift.f
  have e2 : Int.tdiv (x : Int) 4294967296 = ((x / 4294967296 : Nat) : Int) := by rw [Int.tdiv_eq_ediv_of_nonneg (Int.natCast_nonneg _), Int.natCast_ediv]; rfl
  have e4 : Int.tmod (x : Int) 4294967296 = ((x % 4294967296 : Nat) : Int) := by rw [Int.tmod_eq_emod_of_nonneg (Int.natCast_nonneg _), Int.natCast_emod]; rfl
  have hl : (x % 4294967296) ^^^ (x / 4294967296) < 2 ^ 32 := Nat.xor_lt_two_pow (by omega) (by omega)
  rw [e2, u64n _ (by omega), e4, xor_nat _ _ (by omega) (by omega), Mixn.sh_split hx]
  congr 1
  generalize (x % 4294967296) ^^^ (x / 4294967296) = l at *
  have h6 : x / 4294967296 < 4294967296 := by omega
  generalize x / 4294967296 = h at *
  rw [IntKind.wrap_u64, IntKind.wrap_u64]
  omega
theorem refmix (x : Nat) (hx : x < 18446744073709551616) : windroseref01_Mix.f (x : Int) = some ((Mixn.mix x : Nat) : Int) := by
  unfold windroseref01_Mix.f
  rw [shift x hx, Option.bind_some, mf_i, shift _ (Mixn.mf_lt _), Option.bind_some, mf_i, shift _ (Mixn.mf_lt _), Option.bind_some]
  rfl
theorem reffold_l10 (l : List Nat) (hl : ∀ x ∈ l, x < 18446744073709551616) (hn : l.length < 4611686018427387904) : ∀ (d i s : Nat), i + d = l.length → s < 18446744073709551616 → Ev (fun k => windroseref01_Fold.l10 k (ofN l) (s : Int) (i : Int)) (((l.drop i).foldl Mixn.step s : Nat) : Int) := by
  have hlen : (ofN l).length = l.length := List.length_map ..
  intro d
  induction d with
  | zero =>
    intro i s hi hs
    refine .s (fun k => windroseref01_Fold.l10_s k _ _ _) (.n (by omega) (.cv ?_))
    rw [List.drop_eq_nil_of_le (by omega)]
    rfl
  | succ d ih =>
    intro i s hi hs
    have h1 : i < l.length := by omega
    refine .s (fun k => windroseref01_Fold.l10_s k _ _ _) (.t (by omega) (.t (by omega) ?_))
    rw [nth_get _ _ _ (by omega), ofN_get, step_i s _ hs (hl _ (List.getElem_mem h1)), w64n i (by omega), List.drop_eq_getElem_cons h1]
    exact .b0 (refmix _ (Nat.mod_lt _ (by decide))) (ih (i + 1) _ (by omega) (Mixn.step_lt _ _))
theorem reffold (s : Nat) (hs : s < 18446744073709551616) (l : List Nat) (hl : ∀ x ∈ l, x < 18446744073709551616) (hn : l.length < 4611686018427387904) : Ev (fun k => windroseref01_Fold.f k (s : Int) (ofN l)) ((Mixn.fold s l : Nat) : Int) := by
  unfold windroseref01_Fold.f
  exact .b0 (refmix s hs) (reffold_l10 l hl hn l.length 0 _ (by omega) (Mixn.mix_lt _))

theorem ref_l27 : ∀ (d z f i : Nat), i + d = 16 → z ≤ 2147483648 → f < 2 ^ i → Ev (fun k => windroseref04_Cost.l27 k (z : Int) (f : Int) (i : Int)) ((Negn.bitsOf d z f : Nat) : Int) := by
  intro d
  induction d with
  | zero => exact fun z f i hi hz hf => .s (fun k => windroseref04_Cost.l27_s k _ _ _) (.n (by omega) (.c _))
  | succ d ih =>
    intro z f i hi hz hf
    have hp := p16 i (by omega)
    have hp2 : 2 ^ (i + 1) = 2 * 2 ^ i := by rw [Nat.pow_succ, Nat.mul_comm]
    obtain ⟨e1, h1⟩ := sq_div z hz
    have w2 : w64 (2 * (f : Int)) = ((2 * f : Nat) : Int) := by rw [w64_of (by omega) (by omega)]; omega
    have w3 : w64 (((2 * f : Nat) : Int) + 1) = ((2 * f + 1 : Nat) : Int) := w64n _ (by omega)
    refine .s (fun k => windroseref04_Cost.l27_s k _ _ _) (.t (by omega) ?_)
    rw [e1, w2, w3, w64n i (by omega), Negn.bitsOf]
    clear w2 w3 e1
    generalize z * z / 2147483648 = y at *
    by_cases cy : y ≤ 1073741824
    · have w4 : IntKind.u64.wrap (2 * (y : Int)) = ((2 * y : Nat) : Int) := by rw [IntKind.wrap_u64]; omega
      rw [if_pos cy]
      refine .t (by omega) ?_
      rw [w4]
      exact ih (2 * y) (2 * f + 1) (i + 1) (by omega) (by omega) (by omega)
    · rw [if_neg cy]
      exact .n (by omega) (ih y (2 * f) (i + 1) (by omega) (by omega) (by omega))
theorem refcost_nat : ∀ (d u : Nat), 32768 < u * 2 ^ d → 1 ≤ u → u ≤ 65536 → d ≤ 16 → Ev (fun k => windroseref04_Cost.f k (u : Int)) ((Negn.cst (d + 1) u : Nat) : Int) := by
  have start : ∀ (u : Nat) (v : Int), 1 ≤ u → u ≤ 65536 → Ev (fun k => windroseref04_Cost.j6 k (u : Int) false) v → Ev (fun k => windroseref04_Cost.f k (u : Int)) v := by
    intro u v h1 h2 h
    refine .s (fun k => by rw [windroseref04_Cost.f]) (.n (by omega) ?_)
    rw [decide_eq_false (by omega)]
    exact h
  have base : ∀ (u n : Nat), 32768 < u → u ≤ 65536 → Ev (fun k => windroseref04_Cost.f k (u : Int)) ((Negn.cst (n + 1) u : Nat) : Int) := by
    intro u n h h1
    have w1 : IntKind.u64.wrap (IntKind.u64.wrap (u : Int) * 32768) = ((u * 32768 : Nat) : Int) := by rw [u64n _ (by omega), IntKind.wrap_u64]; omega
    refine start u _ (by omega) h1 (.s (fun k => windroseref04_Cost.j6_s k _ _) (.n (by decide) (.n (by omega) ?_)))
    rw [w1, Negn.cst_succ, if_neg (by omega)]
    exact ref_l27 16 (u * 32768) 0 0 (by omega) (by omega) (by decide)
  intro d
  induction d with
  | zero =>
    intro u h h0 h1 hd
    rw [Nat.pow_zero, Nat.mul_one] at h
    exact base u 0 h h1
  | succ d ih =>
    intro u h h0 h1 hd
    by_cases cu : u ≤ 32768
    · have h2 : u * 2 ^ (d + 1) = 2 * u * 2 ^ d := by rw [Nat.pow_succ, Nat.mul_comm (2 ^ d) 2, ← Nat.mul_assoc, Nat.mul_comm u 2]
      have w1 : w64 (2 * (u : Int)) = ((2 * u : Nat) : Int) := by rw [w64_of (by omega) (by omega)]; omega
      have hc := Negn.cst_le (d + 1) (2 * u)
      refine start u _ h0 h1 (.s (fun k => windroseref04_Cost.j6_s k _ _) (.n (by decide) (.t (by omega) ?_)))
      rw [w1]
      refine .b (ih (2 * u) (by omega) (by omega) (by omega) (by omega)) (.cv ?_)
      have e := Negn.cst_succ (d + 1) u
      rw [if_pos cu] at e
      rw [e, w64_of (by omega) (by omega)]
      omega
    · exact base u (d + 1) (by omega) h1
theorem refcost (a : Int) : Ev (fun k => windroseref04_Cost.f k a) (costI a) := by
  by_cases h : 1 ≤ a ∧ a ≤ 65536
  · obtain ⟨u, rfl⟩ : ∃ u : Nat, a = u := ⟨a.toNat, by omega⟩
    rw [costI, if_pos h, Int.toNat_natCast]
    exact refcost_nat 16 u (by omega) (by omega) (by omega) (by omega)
  · have hbad : Ev (fun k => windroseref04_Cost.j6 k a true) (costI a) := .s (fun k => windroseref04_Cost.j6_s k _ _) (.t rfl (.cv (if_neg h).symm))
    refine .s (fun k => by rw [windroseref04_Cost.f]) (.i (fun _ => hbad) (fun h2 => ?_))
    rw [decide_eq_true (by omega)]
    exact hbad

theorem refdcost (key : Nat) (hkey : key < 18446744073709551616) (id : Int) : Ev (fun k => windroseref05_Cost.f k (key : Int) id) (dc key id) := by
  have hlt := fold_lt key (un id)
  have h1 := reffold key hkey [un id] (fun x hx => by rw [List.mem_singleton.1 hx]; exact (un_eq id).2) (by simp)
  unfold windroseref05_Cost.f
  rw [(un_eq id).1]
  refine .b h1 ?_
  have e : IntKind.u64.wrap (((Mixn.fold key [un id] : Nat) : Int).tdiv 281474976710656) = ((Mixn.fold key [un id] / 281474976710656 : Nat) : Int) := by
    rw [Int.tdiv_eq_ediv_of_nonneg (by omega), IntKind.wrap_u64]
    omega
  rw [e, w64_of (n := ((Mixn.fold key [un id] / 281474976710656 : Nat) : Int)) (by omega) (by omega), w64_of (by omega) (by omega)]
  exact .b (refcost _) (.c _)

theorem best_l7 (key : Nat) (hkey : key < 18446744073709551616) (l : List T_api_Choice) (h : Chs l) : ∀ (d i : Nat) (a : Int), i + d = l.length → ((a = -1 ∧ heavy (l.take i) = []) ∨ ∃ n : Nat, n < i ∧ a = n ∧ ∃ hn : n < l.length, isBest key (l.take i) l[n]) →
    Ht (fun k => windroseref05_Best.l7 k (key : Int) l a (i : Int)) (fun w => (w = (0, false) ∧ heavy l = []) ∨ ∃ m, isBest key l m ∧ w = (m.f0, true)) := by
  have hl := h.len
  intro d
  induction d with
  | zero =>
    intro i a hi hI
    rw [List.take_of_length_le (by omega)] at hI
    refine .s (fun k => windroseref05_Best.l7_s k _ _ _ _) (.n (by omega) ?_)
    rcases hI with ⟨rfl, e⟩ | ⟨n, hn, rfl, hnl, hb⟩
    · exact .t (by decide) (.c (.inl ⟨rfl, e⟩))
    · refine .n (by omega) (.t (by omega) (.c (.inr ⟨_, hb, ?_⟩)))
      rw [nth_get _ _ _ hnl]
  | succ d ih =>
    intro i a hi hI
    have h1 : i < l.length := by omega
    have hx := h.ok _ (List.getElem_mem h1)
    have ih := fun b => ih (i + 1) b (by omega)
    rw [heavy_take l i h1] at ih
    unfold isBest at ih
    rw [heavy_take l i h1] at ih
    refine .s (fun k => windroseref05_Best.l7_s k _ _ _ _) (.t (by omega) (.t (by omega) ?_))
    rw [nth_get _ _ _ h1, w64n i (by omega)]
    by_cases h0 : l[i].f1 = 0
    · refine .t h0 (ih a ?_)
      rw [if_pos h0, List.append_nil]
      rcases hI with ⟨e1, e2⟩ | ⟨n, hn, e1, hnl, hb⟩
      · exact .inl ⟨e1, e2⟩
      · exact .inr ⟨n, by omega, e1, hnl, hb⟩
    · refine .n h0 ?_
      rw [if_neg h0] at ih
      rcases hI with ⟨rfl, e2⟩ | ⟨n, hn, rfl, hnl, hb⟩
      · refine .t (by decide) (.s (fun k => windroseref05_Best.j45_s k _ _ _ _ _) (.t rfl ?_))
        rw [w64n i (by omega)]
        refine ih _ (.inr ⟨i, by omega, rfl, h1, ?_⟩)
        rw [e2]
        exact ⟨by simp, fun y hy => .inl (by simpa using hy)⟩
      · have hy := h.ok _ (List.getElem_mem hnl)
        have hyw : l[n].f1 ≠ 0 := by simpa using (List.mem_filter.1 hb.1).2
        have hup : l[n].f0 < l[i].f0 := List.pairwise_iff_getElem.1 h.up n i hnl h1 hn
        have c1 := dc_bound key l[i].f0
        have c2 := dc_bound key l[n].f0
        refine .n (by omega) (.t (by omega) (.e (refdcost key hkey _) ?_))
        rw [nth_get _ _ _ hnl]
        refine .e (refdcost key hkey _) (.s (fun k => windroseref05_Best.j45_s k _ _ _ _ _) ?_)
        rw [prod_le c1.1 c1.2 (by omega) (by omega), prod_le c2.1 c2.2 (by omega) (by omega), w64n i (by omega)]
        have fi : fineC l[i] := ⟨hx.1, by omega, hx.2.2⟩
        have fn : fineC l[n] := ⟨hy.1, by omega, hy.2.2⟩
        have hsub : ∀ z ∈ heavy (l.take i), fineC z := fun z hz => (heavy_fine h).1 z (List.mem_filter.2 ⟨List.mem_of_mem_take (List.mem_filter.1 hz).1, (List.mem_filter.1 hz).2⟩)
        refine .i (fun hlt => ih _ (.inr ⟨i, by omega, rfl, h1, by simp, fun z hz => ?_⟩)) (fun hlt => ih _ (.inr ⟨n, by omega, rfl, hnl, List.mem_append.2 (.inl hb.1), fun z hz => ?_⟩))
        · have hlt : ltD key l[i] l[n] := .inl (of_decide_eq_true hlt)
          rcases List.mem_append.1 hz with hz | hz
          · rcases hb.2 z hz with rfl | h3
            · exact .inr hlt
            · exact .inr (ltD_trans fi fn (hsub z hz) hlt h3)
          · exact .inl (by simpa using hz)
        · have hlt : ¬ (dc key l[i].f0 * l[n].f1 < dc key l[n].f0 * l[i].f1) := fun e => hlt (decide_eq_true e)
          rcases List.mem_append.1 hz with hz | hz
          · exact hb.2 z hz
          · obtain rfl : z = l[i] := by simpa using hz
            exact .inr (Or.inr ⟨Int.not_lt.1 hlt, hup⟩)

theorem without_l14 (l : List T_api_Choice) (id : Int) (hl : l.length ≤ 64) : ∀ (d i : Nat), i + d = l.length → Ev (fun k => windroseref05_Without.l14 k l id ((l.take i).filter (fun x => !(x.f0 == id))) (i : Int)) (l.filter (fun x => !(x.f0 == id))) := by
  intro d
  induction d with
  | zero =>
    intro i hi
    refine .s (fun k => windroseref05_Without.l14_s k _ _ _ _) (.n (by omega) (.cv ?_))
    rw [List.take_of_length_le (by omega)]
  | succ d ih =>
    intro i hi
    have h1 : i < l.length := by omega
    have ih := ih (i + 1) (by omega)
    have hlen : ((l.take i).filter (fun x => !(x.f0 == id))).length ≤ i := Nat.le_trans (List.length_filter_le _ _) (by rw [List.length_take]; omega)
    rw [← List.take_append_getElem h1, List.filter_append] at ih
    refine .s (fun k => windroseref05_Without.l14_s k _ _ _ _) (.t (by omega) (.t (by omega) ?_))
    rw [nth_get _ _ _ h1, w64n i (by omega)]
    refine .i (fun c => ?_) (fun c => .t (by omega) ?_)
    · simpa [c] using ih
    · simpa [c] using ih
theorem without (l : List T_api_Choice) (id : Int) (hl : l.length ≤ 64) : Ev (fun k => windroseref05_Without.f k l id) (l.filter (fun x => !(x.f0 == id))) := without_l14 l id hl l.length 0 (by omega)
theorem reforder_l20 (key : Nat) (hkey : key < 18446744073709551616) (l0 : List T_api_Choice) (hl0 : l0.length ≤ 64) : ∀ (d i : Nat) (l : List T_api_Choice) (o : List Int), i + d = l0.length → o.length ≤ i → Chs l → (heavy l).length ≤ d → Ev (fun k => windroseref05_Order.l20 k (key : Int) l0 l o (i : Int)) (o ++ (ord key l).map (fun x => x.f0)) := by
  intro d
  induction d with
  | zero =>
    intro i l o hi ho h hd
    refine .s (fun k => windroseref05_Order.l20_s k _ _ _ _ _) (.n (by omega) (.cv ?_))
    have : ord key l = [] := List.length_eq_zero_iff.1 (by unfold ord; rw [sortL_length]; omega)
    rw [this, List.map_nil, List.append_nil]
  | succ d ih =>
    intro i l o hi ho h hd
    obtain ⟨w, hw, hP⟩ := best_l7 key hkey l h l.length 0 (-1) (by omega) (.inl ⟨rfl, rfl⟩)
    refine .s (fun k => windroseref05_Order.l20_s k _ _ _ _ _) (.t (by omega) (.b (a := w) ?_ ?_))
    · exact hw
    · rcases hP with ⟨rfl, e⟩ | ⟨m, hm, rfl⟩
      · refine .n (by decide) (.cv ?_)
        unfold ord
        rw [e]
        exact (List.append_nil _).symm
      · refine .t rfl (.t (by omega) (.b (without l m.f0 h.len) ?_))
        rw [w64n i (by omega)]
        have hlen : (heavy (l.filter (fun x => !(x.f0 == m.f0)))).length ≤ d := by
          have := (split_id (heavy l) m (heavy_up h) hm.1).length_eq
          rw [heavy_filter]
          rw [List.length_cons] at this
          omega
        refine (ih (i + 1) _ (o ++ [m.f0]) (by omega) (by rw [List.length_append, List.length_singleton]; omega) (h.filter _) hlen).v ?_
        rw [best_first key h hm, List.map_cons, List.append_assoc]
        rfl
theorem reforder (key : Nat) (hkey : key < 18446744073709551616) (l : List T_api_Choice) (h : Chs l) : Ev (fun k => windroseref05_Order.f k (key : Int) l) ((ord key l).map (fun x => x.f0)) := by
  have hl := h.len
  have := reforder_l20 key hkey l h.len l.length 0 l [] (by omega) (by simp) h (List.length_filter_le _ _)
  exact this

end Draw
namespace Topo
/-! the document's weighing -/
theorem rweight (n : T_api_Node) : windroseref06_weight.f n = some (weight n) := by
  unfold windroseref06_weight.f weight
  split <;> rfl
def wAny (is : T_api_Node → Bool) (of : T_api_Node → Int) (l : List T_api_Node) (id : Int) : Bool := l.any (fun n => is n && decide (of n = id))
theorem wAny_is {is : T_api_Node → Bool} {of : T_api_Node → Int} {l : List T_api_Node} {id : Int} : wAny is of l id = true ↔ wIs is of l id := by
  unfold wAny wIs
  simp [List.any_eq_true]
theorem wAny_snoc (is : T_api_Node → Bool) (of : T_api_Node → Int) (l : List T_api_Node) (n : T_api_Node) (id : Int) : wAny is of (l ++ [n]) id = (wAny is of l id || (is n && decide (of n = id))) := by
  unfold wAny
  simp
theorem rsum_l29 (is : T_api_Node → Bool) (of : T_api_Node → Int) (l : List T_api_Node) (os : List Int) (h : Nodes l) (hos : os.length = l.length) (id : Int) (hid : ∀ j (h1 : j < os.length) (h2 : j < l.length), os[j] = id ↔ is l[j] = true ∧ of l[j] = id) (acc : List T_api_Choice) {P : List T_api_Choice → Prop}
    (hP : Ht (fun k => windroseref06_sum.j57 k l os acc id (wAny is of l id) (cap (wSum is of l id))) P) : ∀ (d j : Nat), j + d = l.length → Ht (fun k => windroseref06_sum.l29 k l os acc id (wSum is of (l.take j) id) (wAny is of (l.take j) id) (j : Int)) P := by
  have hl := h.1
  intro d
  induction d with
  | zero =>
    intro j hj
    refine .s (fun k => windroseref06_sum.l29_s k _ _ _ _ _ _ _) (.n (by omega) ?_)
    rw [List.take_of_length_le (by omega)]
    unfold cap at hP
    refine .i (fun c => ?_) (fun c => ?_)
    · rwa [if_neg (by omega)] at hP
    · by_cases e : wSum is of l id < 65536
      · rwa [if_pos e] at hP
      · rw [if_neg e] at hP
        rwa [show wSum is of l id = 65536 by omega]
  | succ d ih =>
    intro j hj
    have h1 : j < l.length := by omega
    have h2 : j < os.length := by omega
    have ih := ih (j + 1) (by omega)
    have hs := wSum_ge is of (l.take j) id (fun n hn => h.okW n (List.mem_of_mem_take hn))
    have hlt : (l.take j).length ≤ 12 := by rw [List.length_take]; omega
    have hw := weight_ok (h.okW _ (List.getElem_mem h1))
    rw [← List.take_append_getElem h1, wSum_snoc, wAny_snoc] at ih
    refine .s (fun k => windroseref06_sum.l29_s k _ _ _ _ _ _ _) (.t (by omega) (.t (by omega) ?_))
    rw [nth_get _ _ _ h1, nth_get _ _ _ h2, w64n j (by omega)]
    by_cases c : is l[j] = true ∧ of l[j] = id
    · rw [if_pos c, c.1, decide_eq_true c.2, Bool.true_and, Bool.or_true] at ih
      refine .t ((hid j h2 h1).2 c) (.t (by omega) (.o (rweight l[j]) ?_))
      rw [w64_of (by omega) (by omega)]
      exact ih
    · have e : (is l[j] && decide (of l[j] = id)) = false := by
        by_cases c1 : is l[j] = true
        · rw [decide_eq_false (fun e => c ⟨c1, e⟩), Bool.and_false]
        · rw [eq_false_of_ne_true c1, Bool.false_and]
      rw [if_neg c, e, Int.add_zero, Bool.or_false] at ih
      exact .n (fun e => c ((hid j h2 h1).1 e)) ih
theorem rsum_l14 (is : T_api_Node → Bool) (of : T_api_Node → Int) (l : List T_api_Node) (os : List Int) (h : Nodes l) (hos : os.length = l.length) (hof : ∀ n ∈ l, is n = true → of n ≤ 999) (hid : ∀ (id : Nat), 1 ≤ id → ∀ j (h1 : j < os.length) (h2 : j < l.length), os[j] = (id : Int) ↔ is l[j] = true ∧ of l[j] = (id : Int)) : ∀ (d i : Nat) (acc : List T_api_Choice), i + d = 1000 → 1 ≤ i → acc.length < i → acc.Pairwise (fun x y => x.f0 < y.f0) → (∀ c : T_api_Choice, c ∈ acc ↔ c.f0 < i ∧ wIs is of l c.f0 ∧ c.f1 = cap (wSum is of l c.f0)) →
    Ht (fun k => windroseref06_sum.l14 k l os acc (i : Int)) (WOf is of l) := by
  intro d
  induction d with
  | zero =>
    intro i acc hi h1 hlen hup hmem
    refine .s (fun k => windroseref06_sum.l14_s k _ _ _ _) (.n (by omega) (.c ⟨hup, fun c => (hmem c).trans ⟨fun h => h.2, fun h => ⟨?_, h⟩⟩⟩))
    obtain ⟨⟨n, hn, hi2, he⟩, _⟩ := h
    have := hof n hn hi2
    omega
  | succ d ih =>
    intro i acc hi h1 hlen hup hmem
    refine .s (fun k => windroseref06_sum.l14_s k _ _ _ _) (.t (by omega) ?_)
    refine rsum_l29 is of l os h hos (i : Int) (hid i h1) acc ?_ l.length 0 (by omega)
    refine .s (fun k => windroseref06_sum.j57_s k _ _ _ _ _ _) ?_
    rw [w64n i (by omega)]
    refine .i (fun c => ?_) (fun c => ?_)
    · have c := wAny_is.1 c
      refine .t (by omega) (ih (i + 1) _ (by omega) (by omega) (by rw [List.length_append, List.length_singleton]; omega) ?_ ?_)
      · refine List.pairwise_append.2 ⟨hup, List.pairwise_singleton _ _, fun a ha b hb => ?_⟩
        rw [List.mem_singleton.1 hb]
        exact ((hmem a).1 ha).1
      · intro x
        rw [List.mem_append, List.mem_singleton, hmem]
        constructor
        · rintro (⟨a, b⟩ | rfl)
          · exact ⟨by omega, b⟩
          · exact ⟨by show (i : Int) < ((i + 1 : Nat) : Int); omega, c, rfl⟩
        · rintro ⟨a, b, e⟩
          by_cases q : x.f0 = i
          · right
            rw [q] at e
            cases x; cases q; cases e; rfl
          · exact .inl ⟨by omega, b, e⟩
    · have c : ¬ wIs is of l i := fun e => c (wAny_is.2 e)
      refine ih (i + 1) acc (by omega) (by omega) (by omega) hup (fun x => (hmem x).trans ⟨fun q => ⟨by omega, q.2⟩, fun q => ⟨?_, q.2⟩⟩)
      have hne : x.f0 ≠ i := fun e => c (e ▸ q.2.1)
      have := q.1
      omega
theorem Ht.wof {is : T_api_Node → Bool} {of : T_api_Node → Int} {l : List T_api_Node} {f : Nat → Option (List T_api_Choice)} (h : Nodes l) (hf : Ht f (WOf is of l)) : Ev f (wL is of l) := by
  obtain ⟨v, e, p⟩ := hf
  exact e.v (p.eq (wL_full is of h).1)
theorem rsum (is : T_api_Node → Bool) (of : T_api_Node → Int) (l : List T_api_Node) (h : Nodes l) (hof : ∀ n ∈ l, 1 ≤ of n ∧ of n ≤ 999) : Ev (fun k => windroseref06_sum.f k l (l.map (fun n => if is n = true then of n else 0))) (wL is of l) := by
  refine Ht.wof h ?_
  refine rsum_l14 is of l _ h (List.length_map ..) (fun n hn _ => (hof n hn).2) (fun id hid j h1 h2 => ?_) 999 1 [] (by omega) (by omega) (by simp) List.Pairwise.nil ?_
  · rw [List.getElem_map]
    split
    · rename_i c
      exact ⟨fun e => ⟨c, e⟩, fun e => e.2⟩
    · rename_i c
      exact ⟨fun e => by omega, fun e => absurd e.1 c⟩
  · intro c
    refine ⟨(fun h => nomatch h), fun h0 => ?_⟩
    obtain ⟨h1, ⟨n, hn, _, he⟩, _⟩ := h0
    have := (hof n hn).1
    omega
theorem fill_step {l : List T_api_Node} (f : T_api_Node → Int) (i : Nat) (h1 : i < l.length) : ((l.take i).map f ++ List.replicate (l.length - i) (0 : Int)).set i (f l[i]) = (l.take (i + 1)).map f ++ List.replicate (l.length - (i + 1)) 0 := by
  have e : l.length - i = (l.length - (i + 1)) + 1 := by omega
  have e2 : ((l.take i).map f).length = i := by rw [List.length_map, List.length_take]; omega
  rw [e, List.replicate_succ, List.set_append_right _ _ (by omega), e2, Nat.sub_self, List.set_cons_zero, ← List.take_append_getElem h1, List.map_append, List.append_assoc]
  rfl
theorem fill_skip {l : List T_api_Node} (f : T_api_Node → Int) (i : Nat) (h1 : i < l.length) (h : f l[i] = 0) : (l.take i).map f ++ List.replicate (l.length - i) (0 : Int) = (l.take (i + 1)).map f ++ List.replicate (l.length - (i + 1)) 0 := by
  have e : l.length - i = (l.length - (i + 1)) + 1 := by omega
  rw [e, List.replicate_succ, ← List.take_append_getElem h1, List.map_append, List.append_assoc, List.map_singleton, h]
  rfl
theorem rzones {l : List T_api_Node} (h : Nodes l) : Ev (fun k => windroseref06_Zones.f k l) (wL isZ ofZ l) := by
  have hl := h.1
  have go : ∀ (d i : Nat), i + d = l.length → Ev (fun k => windroseref06_Zones.l12 k l ((l.take i).map (fun n => if isZ n = true then ofZ n else 0) ++ List.replicate (l.length - i) (0 : Int)) (i : Int)) (wL isZ ofZ l) := by
    intro d
    induction d with
    | zero =>
      intro i hi
      refine .s (fun k => windroseref06_Zones.l12_s k _ _ _) (.n (by omega) ?_)
      rw [List.take_of_length_le (by omega), show l.length - i = 0 by omega, List.replicate_zero, List.append_nil]
      exact .b (rsum isZ ofZ l h (fun n hn => by have := h.ok n hn; unfold okN at this; unfold ofZ; omega)) (.c _)
    | succ d ih =>
      intro i hi
      have h1 : i < l.length := by omega
      have ih := ih (i + 1) (by omega)
      rw [← fill_step _ i h1] at ih
      refine .s (fun k => windroseref06_Zones.l12_s k _ _ _) (.t (by omega) (.t (by omega) (.t (by rw [List.length_replicate]; omega) ?_)))
      rw [nth_get _ _ _ h1, w64n i (by omega)]
      exact ih
  unfold windroseref06_Zones.f
  refine .t (by omega) ?_
  exact go l.length 0 (by omega)
theorem rracks {l : List T_api_Node} (h : Nodes l) (z : Int) : Ev (fun k => windroseref06_Racks.f k l z) (wL (isR z) ofR l) := by
  have hl := h.1
  have go : ∀ (d i : Nat), i + d = l.length → Ev (fun k => windroseref06_Racks.l12 k l z ((l.take i).map (fun n => if isR z n = true then ofR n else 0) ++ List.replicate (l.length - i) (0 : Int)) (i : Int)) (wL (isR z) ofR l) := by
    intro d
    induction d with
    | zero =>
      intro i hi
      refine .s (fun k => windroseref06_Racks.l12_s k _ _ _ _) (.n (by omega) ?_)
      rw [List.take_of_length_le (by omega), show l.length - i = 0 by omega, List.replicate_zero, List.append_nil]
      exact .b (rsum (isR z) ofR l h (fun n hn => by have := h.ok n hn; unfold okN at this; unfold ofR; omega)) (.c _)
    | succ d ih =>
      intro i hi
      have h1 : i < l.length := by omega
      have ih := ih (i + 1) (by omega)
      refine .s (fun k => windroseref06_Racks.l12_s k _ _ _ _) (.t (by omega) (.t (by omega) ?_))
      rw [nth_get _ _ _ h1, w64n i (by omega)]
      by_cases c : l[i].f1 = z
      · refine .t c (.t (by rw [List.length_replicate]; omega) ?_)
        rw [← fill_step _ i h1, if_pos (show isR z l[i] = true by unfold isR; simpa using c)] at ih
        exact ih
      · refine .n c ?_
        rw [← fill_skip _ i h1 (if_neg (by unfold isR; simpa using c))] at ih
        exact ih
  unfold windroseref06_Racks.f
  refine .t (by omega) ?_
  exact go l.length 0 (by omega)
theorem addW_last (id w : Int) : ∀ l : List T_api_Choice, (∀ c ∈ l, c.f0 < id) → addW id w l = l ++ [⟨id, w⟩]
  | [], _ => rfl
  | c :: r, h => by
    unfold addW
    rw [if_pos (h c List.mem_cons_self), addW_last id w r (fun x hx => h x (List.mem_cons_of_mem _ hx))]
    rfl
theorem rleaves {l : List T_api_Node} (h : Nodes l) (z r : Int) : Ev (fun k => windroseref06_Leaves.f k l z r) (wL (isL z r) ofL l) := by
  have hl := h.1
  have go : ∀ (d i : Nat), i + d = l.length → Ev (fun k => windroseref06_Leaves.l14 k l z r (wL (isL z r) ofL (l.take i)) (i : Int)) (wL (isL z r) ofL l) := by
    intro d
    induction d with
    | zero =>
      intro i hi
      refine .s (fun k => windroseref06_Leaves.l14_s k _ _ _ _ _) (.n (by omega) (.cv ?_))
      rw [List.take_of_length_le (by omega)]
    | succ d ih =>
      intro i hi
      have h1 : i < l.length := by omega
      have ih := ih (i + 1) (by omega)
      obtain ⟨hW, hlen⟩ := wL_of (isL z r) ofL l h.okW i (by omega)
      rw [wL_take i h1] at ih
      have hlast : ∀ c ∈ wL (isL z r) ofL (l.take i), c.f0 < ofL l[i] := by
        intro c hc
        obtain ⟨⟨n, hn, _, he⟩, _⟩ := (hW.mem c).1 hc
        rw [← he]
        obtain ⟨j, hj, rfl⟩ := List.getElem_of_mem hn
        rw [List.length_take] at hj
        rw [List.getElem_take]
        exact List.pairwise_iff_getElem.1 h.up j i (by omega) h1 (by omega)
      generalize wL (isL z r) ofL (l.take i) = v at hlen ih hlast ⊢
      have hj : ∀ y : Bool, y = isL z r l[i] → Ev (fun k => windroseref06_Leaves.j41 k l z r v (i : Int) y) (wL (isL z r) ofL l) := by
        intro y hy
        subst hy
        refine .s (fun k => windroseref06_Leaves.j41_s k _ _ _ _ _ _) ?_
        rw [nth_get _ _ _ h1, w64n i (by omega)]
        unfold wOne at ih
        refine .i (fun c => ?_) (fun c => ?_)
        · rw [if_pos c, addW_last _ _ _ hlast] at ih
          exact .t (by omega) (.b0 (rweight l[i]) (.t (by omega) ih))
        · rw [if_neg c] at ih
          exact ih
      unfold isL at hj
      refine .s (fun k => windroseref06_Leaves.l14_s k _ _ _ _ _) (.t (by omega) ?_)
      rw [nth_get _ _ _ h1]
      refine .i (fun c1 => ?_) (fun c1 => ?_)
      · refine .i (fun c2 => hj _ (by simp [c1, c2])) (fun c2 => .t (by omega) (hj _ (by simp [c1, c2])))
      · refine .t (by omega) (.i (fun c3 => ?_) (fun c3 => hj _ (by simp [c1, c3])))
        exact .i (fun c2 => hj _ (by simp [c1, c2, c3])) (fun c2 => hj _ (by simp [c1, c2, c3]))
  unfold windroseref06_Leaves.f
  exact go l.length 0 (by omega)

end Topo
namespace Place
theorem rfold3 (g a b c : Int) : Ev (fun k => windroseref01_Fold.f k (IntKind.u64.wrap g) [IntKind.u64.wrap a, IntKind.u64.wrap b, IntKind.u64.wrap c]) ((Mixn.fold (Draw.un g) [Draw.un a, Draw.un b, Draw.un c] : Nat) : Int) := by
  have h := Draw.reffold (Draw.un g) (Draw.un_eq g).2 [Draw.un a, Draw.un b, Draw.un c] (fun x hx => by
    simp only [List.mem_cons, List.not_mem_nil, or_false] at hx
    rcases hx with rfl | rfl | rfl <;> exact (Draw.un_eq _).2) (by simp)
  rw [(Draw.un_eq g).1, (Draw.un_eq a).1, (Draw.un_eq b).1, (Draw.un_eq c).1]
  exact h

/-! the document's rule -/
def tr (x : T_place_item) : Ar3_i64 := ⟨x.f0, x.f1, x.f2⟩
theorem rrun_l212 (l : List T_api_Node) (rule : List T_api_Step) (g size : Int) (hand : List Ar3_i64) (out : List Int) (i : Nat) (hi : i < rule.length) (hs : (1 ≤ rule[i].f1 ∧ rule[i].f1 ≤ 3) ∧ 1 ≤ rule[i].f2) (j : Nat) (x : T_place_item) (hx : nth Ar3_i64.z hand (j : Int) = tr x) (o : List Int) (ho : o.length ≤ 12) (base : List T_place_item) (hb : base.length ≤ 6000000000) {v : List Int}
    (hv : Ev (fun k => windroseref07_Run.l78 k l rule g size hand (i : Int) out ((base ++ (o.take rule[i].f2.toNat).map (deeper rule[i] x)).map tr) (w64 ((j : Int) + 1))) v) : ∀ (d m : Nat), m + d = min rule[i].f2.toNat o.length → Ev (fun k => windroseref07_Run.l212 k l rule g size hand (i : Int) out (j : Int) o ((base ++ (o.take m).map (deeper rule[i] x)).map tr) (m : Int)) v := by
  intro d
  induction d with
  | zero =>
    intro m hm
    have hj : Ev (fun k => windroseref07_Run.j220 k l rule g size hand (i : Int) out (j : Int) o ((base ++ (o.take m).map (deeper rule[i] x)).map tr) (m : Int) false) v := by
      refine .s (fun k => windroseref07_Run.j220_s k _ _ _ _ _ _ _ _ _ _ _ _) (.n (by decide) ?_)
      rw [List.take_eq_take_min, ← hm, Nat.add_zero] at hv
      exact hv
    refine .s (fun k => windroseref07_Run.l212_s k _ _ _ _ _ _ _ _ _ _ _) ?_
    rw [nth_get _ _ _ hi]
    refine .i (fun c => ?_) (fun _ => hj)
    rw [decide_eq_false (by omega)]
    exact hj
  | succ d ih =>
    intro m hm
    have h1 : m < o.length := by omega
    have ih := ih (m + 1) (by omega)
    have hlen : ((o.take m).map (deeper rule[i] x)).length ≤ 12 := by rw [List.length_map, List.length_take]; omega
    have e0 : (base ++ (o.take (m + 1)).map (deeper rule[i] x)).map tr = (base ++ (o.take m).map (deeper rule[i] x)).map tr ++ [tr (deeper rule[i] x o[m])] := by
      rw [← List.take_append_getElem h1]
      simp only [List.map_append, List.map_singleton, List.append_assoc]
    rw [e0] at ih
    have e : ∀ a b c : Int, (⟨a, b, c⟩ : Ar3_i64) = tr (deeper rule[i] x o[m]) → Ev (fun k => windroseref07_Run.j247 k l rule g size hand (i : Int) out (j : Int) o ((base ++ (o.take m).map (deeper rule[i] x)).map tr) (m : Int) a b c) v := by
      intro a b c e
      refine .s (fun k => windroseref07_Run.j247_s k _ _ _ _ _ _ _ _ _ _ _ _ _ _) (.t ?_ ?_)
      · rw [List.length_map, List.length_append]
        omega
      · rw [e, w64n m (by omega)]
        exact ih
    refine .s (fun k => windroseref07_Run.l212_s k _ _ _ _ _ _ _ _ _ _ _) (.t (by omega) (.s (fun k => windroseref07_Run.j220_s k _ _ _ _ _ _ _ _ _ _ _ _) ?_))
    rw [nth_get _ _ _ hi, nth_get _ _ _ h1, hx, w64_of (n := rule[i].f1 - 1) (by omega) (by omega)]
    refine .t (decide_eq_true (by omega)) (.t (by omega) ?_)
    unfold deeper at e
    refine .i (fun c => e _ _ _ ?_) (fun c => .i (fun c2 => e _ _ _ ?_) (fun c2 => .t (by omega) (e _ _ _ ?_)))
    · rw [if_pos (by omega)]
      rfl
    · rw [if_neg (by omega), if_pos (by omega)]
      rfl
    · rw [if_neg (by omega), if_neg (by omega)]
      rfl
theorem rrun_l104 (l : List T_api_Node) (rule : List T_api_Step) (g size : Int) (hand : List Ar3_i64) (out : List Int) (more : List Ar3_i64) (i j : Nat) (x : T_place_item) (hx : nth Ar3_i64.z hand (j : Int) = tr x) (ho : out.length ≤ 3) {v : List Int}
    (hv : Ev (fun k => windroseref07_Run.j123 k l rule g size hand (i : Int) out more (j : Int) (decide ((out.length : Int) < size ∧ ¬ x.f2 ∈ out))) v) : ∀ (d m : Nat), m + d = out.length → Ev (fun k => windroseref07_Run.l104 k l rule g size hand (i : Int) out more (j : Int) (decide (x.f2 ∈ out.take m)) (m : Int)) v := by
  intro d
  induction d with
  | zero =>
    intro m hm
    rw [List.take_of_length_le (by omega)]
    refine .s (fun k => windroseref07_Run.l104_s k _ _ _ _ _ _ _ _ _ _ _) (.n (by omega) (.i (fun c => ?_) (fun c => ?_)))
    · rw [decide_eq_false (fun e => e.2 (of_decide_eq_true c))] at hv
      exact hv
    · have e : decide ((out.length : Int) < size ∧ ¬ x.f2 ∈ out) = decide ((out.length : Int) < size) := by
        rw [decide_eq_decide]
        exact ⟨fun h => h.1, fun h => ⟨h, fun q => c (decide_eq_true q)⟩⟩
      rwa [e] at hv
  | succ d ih =>
    intro m hm
    have h1 : m < out.length := by omega
    have ih := ih (m + 1) (by omega)
    refine .s (fun k => windroseref07_Run.l104_s k _ _ _ _ _ _ _ _ _ _ _) (.t (by omega) ?_)
    rw [w64n m (by omega), nth_get _ _ _ h1, hx]
    refine .i (fun c => ?_) (fun c => .t (by omega) ?_)
    · have c := of_decide_eq_true c
      rw [decide_eq_true] at ih
      · exact ih
      · rw [← List.take_append_getElem h1]
        exact List.mem_append.2 (.inl c)
    · have c : ¬ x.f2 ∈ out.take m := fun e => c (decide_eq_true e)
      have e : decide (x.f2 ∈ out.take (m + 1)) = (out[m] == (tr x).f2) := by
        rw [← List.take_append_getElem h1, Bool.eq_iff_iff, decide_eq_true_eq, beq_iff_eq, List.mem_append, List.mem_singleton]
        exact ⟨fun h => (h.resolve_left c).symm, fun h => .inr h.symm⟩
      rw [e] at ih
      exact ih
theorem rrun_l24 {l : List T_api_Node} (h : Topo.Nodes l) (rule : List T_api_Step) (hr : rule.length ≤ 8) (g size : Int) (hz : size ≤ 3) : ∀ (d i : Nat) (hand : List T_place_item) (out : List Int) (a : Int), i + d = rule.length → hand.length ≤ 12 ^ i → (out.length : Int) ≤ size → Rule.goes a (rule.drop i) = true → (a = -1 → hand = []) → Ev (fun k => windroseref07_Run.l24 k l rule g size (hand.map tr) out (i : Int)) (((rule.drop i).foldl (stepL l g size) (hand, out)).2) := by
  intro d
  induction d with
  | zero =>
    intro i hand out a hi _ _ _ _
    refine .s (fun k => windroseref07_Run.l24_s k _ _ _ _ _ _ _) (.n (by omega) (.cv ?_))
    rw [List.drop_eq_nil_of_le (by omega)]
    rfl
  | succ d ih =>
    intro i hand out a hi hh ho hg ha
    have h1 : i < rule.length := by omega
    have hp : hand.length ≤ 429981696 := Nat.le_trans hh (Nat.le_trans (Nat.pow_le_pow_right (by omega) (show i ≤ 8 by omega)) (by decide))
    have h12 : 0 < 12 ^ i := Nat.pow_pos (by omega)
    rw [List.drop_eq_getElem_cons h1] at hg ⊢
    obtain ⟨b, hb, hc⟩ := step_is hg
    rw [List.foldl_cons]
    have hml : (hand.map tr).length = hand.length := List.length_map ..
    refine .s (fun k => windroseref07_Run.l24_s k _ _ _ _ _ _ _) (.t (by omega) (.t (by omega) ?_))
    rw [nth_get _ _ _ h1]
    rcases hc with ⟨c1, c2, c3⟩ | ⟨c1, c2, c3, c4, c5⟩ | ⟨c1, c2, c3⟩
    · have e := ha c2
      subst e
      refine .t c1 (.t (by decide) (.s (fun k => windroseref07_Run.j61_s k _ _ _ _ _ _ _ _) (.s (fun k => windroseref07_Run.l78_s k _ _ _ _ _ _ _ _ _) (.n (by decide) ?_))))
      rw [w64n i (by omega), stepL, if_pos c1]
      exact ih (i + 1) [⟨0, 0, 0⟩] _ b (by omega) (by rw [Nat.pow_succ, List.length_singleton]; omega) ho hb (fun e => by omega)
    · refine .n (by omega) (.s (fun k => windroseref07_Run.j61_s k _ _ _ _ _ _ _ _) ?_)
      rw [stepL, if_neg (by omega), if_pos c1]
      have ih := ih (i + 1) (hand.flatMap (chooseL l g rule[i])) out b (by omega) (by
        have := flat_len (chooseL l g rule[i]) (chooseL_len h g rule[i]) hand
        rw [Nat.pow_succ]
        omega) ho hb (fun e => by omega)
      have go : ∀ (d j : Nat), j + d = hand.length → Ev (fun k => windroseref07_Run.l78 k l rule g size (hand.map tr) (i : Int) out (((hand.take j).flatMap (chooseL l g rule[i])).map tr) (j : Int)) (((rule.drop (i + 1)).foldl (stepL l g size) (hand.flatMap (chooseL l g rule[i]), out)).2) := by
        intro d
        induction d with
        | zero =>
          intro j hj
          refine .s (fun k => windroseref07_Run.l78_s k _ _ _ _ _ _ _ _ _) (.n (by omega) ?_)
          rw [List.take_of_length_le (by omega), w64n i (by omega)]
          exact ih
        | succ d ih2 =>
          intro j hj
          have h2 : j < hand.length := by omega
          have h3 : j < (hand.map tr).length := by omega
          have ih2 := ih2 (j + 1) (by omega)
          rw [flat_take _ _ _ h2] at ih2
          have hlen := flat_len (chooseL l g rule[i]) (chooseL_len h g rule[i]) (hand.take j)
          rw [List.length_take] at hlen
          have hx : nth Ar3_i64.z (hand.map tr) (j : Int) = tr hand[j] := by rw [nth_get _ _ _ h3, List.getElem_map]
          have hk := kids_len h g rule[i] hand[j].f0 hand[j].f1
          have fin : ∀ c, Draw.Chs c → kids l g rule[i] hand[j].f0 hand[j].f1 = (Draw.ord (Mixn.fold (Draw.un g) [Draw.un rule[i].f1, Draw.un hand[j].f0, Draw.un hand[j].f1]) c).map (fun x => x.f0) → Ev (fun k => windroseref07_Run.j183 k l rule g size (hand.map tr) (i : Int) out (((hand.take j).flatMap (chooseL l g rule[i])).map tr) (j : Int) c) (((rule.drop (i + 1)).foldl (stepL l g size) (hand.flatMap (chooseL l g rule[i]), out)).2) := by
            intro c hc e
            refine .s (fun k => windroseref07_Run.j183_s k _ _ _ _ _ _ _ _ _ _) ?_
            rw [nth_get _ _ _ h1, hx]
            refine .b (rfold3 g rule[i].f1 hand[j].f0 hand[j].f1) (.b (Draw.reforder _ (fold_lt _ (Draw.un_eq g).2 _) c hc) ?_)
            rw [← e]
            unfold chooseL at ih2 ⊢
            have := rrun_l212 l rule g size (hand.map tr) out i h1 ⟨c2, c3.1⟩ j hand[j] hx (kids l g rule[i] hand[j].f0 hand[j].f1) hk ((hand.take j).flatMap (chooseL l g rule[i])) (by omega) (v := ((rule.drop (i + 1)).foldl (stepL l g size) (hand.flatMap (chooseL l g rule[i]), out)).2) (by rw [w64n j (by omega)]; exact ih2) (min rule[i].f2.toNat (kids l g rule[i] hand[j].f0 hand[j].f1).length) 0 (by omega)
            rw [List.take_zero, List.map_nil, List.append_nil] at this
            exact this
          refine .s (fun k => windroseref07_Run.l78_s k _ _ _ _ _ _ _ _ _) (.t (by omega) (.t (by omega) ?_))
          rw [nth_get _ _ _ h1, hx]
          have hz := zones_chs h
          have hr := racks_chs h hand[j].f0
          have hv := leaves_chs h hand[j].f0 hand[j].f1
          unfold kids at fin
          refine .n (by omega) (.b (Topo.rleaves h _ _) (.i (fun q => .b (Topo.rzones h) (.s (fun k => windroseref07_Run.j162_s k _ _ _ _ _ _ _ _ _ _) ?_)) (fun q => .s (fun k => windroseref07_Run.j162_s k _ _ _ _ _ _ _ _ _ _) ?_)))
          · rw [nth_get _ _ _ h1, hx]
            exact .n (by omega) (fin _ hz (by rw [if_pos q]))
          · rw [nth_get _ _ _ h1, hx]
            exact .i (fun q2 => .b (Topo.rracks h _) (fin _ hr (by rw [if_neg q, if_pos q2]; rfl))) (fun q2 => fin _ hv (by rw [if_neg q, if_neg q2]; rfl))
      exact go hand.length 0 (by omega)
    · refine .n (by omega) (.s (fun k => windroseref07_Run.j61_s k _ _ _ _ _ _ _ _) ?_)
      rw [stepL, if_neg (by omega), if_neg (by omega)]
      have ih := ih (i + 1) [] (hand.foldl (emit size) out) b (by omega) (Nat.zero_le _) (emit_len size hand out ho) hb (fun _ => rfl)
      have go : ∀ (d j : Nat), j + d = hand.length → Ev (fun k => windroseref07_Run.l78 k l rule g size (hand.map tr) (i : Int) ((hand.take j).foldl (emit size) out) [] (j : Int)) (((rule.drop (i + 1)).foldl (stepL l g size) ([], hand.foldl (emit size) out)).2) := by
        intro d
        induction d with
        | zero =>
          intro j hj
          refine .s (fun k => windroseref07_Run.l78_s k _ _ _ _ _ _ _ _ _) (.n (by omega) ?_)
          rw [List.take_of_length_le (by omega), w64n i (by omega)]
          exact ih
        | succ d ih2 =>
          intro j hj
          have h2 : j < hand.length := by omega
          have h3 : j < (hand.map tr).length := by omega
          have ih2 := ih2 (j + 1) (by omega)
          rw [foldl_take _ _ _ _ h2] at ih2
          have hlen := emit_len size (hand.take j) out ho
          have hx : nth Ar3_i64.z (hand.map tr) (j : Int) = tr hand[j] := by rw [nth_get _ _ _ h3, List.getElem_map]
          generalize (hand.take j).foldl (emit size) out = q at ih2 hlen ⊢
          refine .s (fun k => windroseref07_Run.l78_s k _ _ _ _ _ _ _ _ _) (.t (by omega) (.t (by omega) ?_))
          rw [nth_get _ _ _ h1]
          refine .t c1 ?_
          refine rrun_l104 l rule g size (hand.map tr) q [] i j hand[j] hx (by omega) ?_ q.length 0 (by omega)
          refine .s (fun k => windroseref07_Run.j123_s k _ _ _ _ _ _ _ _ _ _) ?_
          rw [hx, w64n j (by omega)]
          unfold emit at ih2
          refine .i (fun c => ?_) (fun c => ?_)
          · rw [if_pos (of_decide_eq_true c)] at ih2
            exact .t (by omega) ih2
          · rw [if_neg (fun e => c (decide_eq_true e))] at ih2
            exact ih2
      exact go hand.length 0 (by omega)
theorem rrun {l : List T_api_Node} {rule : List T_api_Step} {g size : Int} (h : mayRun l rule g size) : Ev (fun k => windroseref07_Run.f k l rule g size) (runL l rule g size) := by
  unfold windroseref07_Run.f
  exact rrun_l24 h.1 rule h.2.1.1.2 g size h.2.2.2.2 rule.length 0 [] [] (-1) (by omega) (Nat.zero_le _) (by have := h.2.2.2.1; show ((0 : Nat) : Int) ≤ size; omega) h.2.1.2 (fun _ => rfl)

end Place

namespace Topo
def apartR (l : List T_api_Node) : List Int → List Int → Bool
  | _, [] => true
  | met, id :: r => match l.find? (fun n => decide (n.f0 = id)) with
    | some n => !decide (n.f1 ∈ met) && apartR l (met ++ [n.f1]) r
    | none => false

/-! nodes of unlike zones -/
def apartT (l : List T_api_Node) : List Int → List Int → Bool
  | _, [] => true
  | met, id :: r => match l.find? (fun n => decide (n.f0 = id) && !decide (n.f1 ∈ met)) with
    | some n => apartT l (met ++ [n.f1]) r
    | none => false
theorem apart_l35 (l : List T_api_Node) (ids met : List Int) (i : Nat) (w : Bool) (hl : l.length < 4611686018427387904) (hm : met.length < 1000000000000) (hi : i < ids.length) (hil : ids.length < 4611686018427387904)
    (hs : ∀ n, l.find? (fun n => decide (n.f0 = ids[i]) && !decide (n.f1 ∈ met)) = some n → Ev (fun k => topo_Apart.l18 k l ids (met ++ [n.f1]) ((i + 1 : Nat) : Int)) w)
    (hn : l.find? (fun n => decide (n.f0 = ids[i]) && !decide (n.f1 ∈ met)) = none → w = false) :
    ∀ (d j : Nat), j + d = l.length → (l.take j).find? (fun n => decide (n.f0 = ids[i]) && !decide (n.f1 ∈ met)) = none → Ev (fun k => topo_Apart.l35 k l ids met (i : Int) (j : Int)) w := by
  intro d
  induction d with
  | zero =>
    intro j hj ht
    refine .s (fun k => topo_Apart.l35_s k _ _ _ _ _) (.n (by omega) (.cv ?_))
    rw [List.take_of_length_le (by omega)] at ht
    exact (hn ht).symm
  | succ d ih =>
    intro j hj ht
    have h1 : j < l.length := by omega
    refine .s (fun k => topo_Apart.l35_s k _ _ _ _ _) (.t (by omega) (.t (by omega) ?_))
    have hb : ∀ b : Bool, b = (decide (l[j].f0 = ids[i]) && !decide (l[j].f1 ∈ met)) → Ev (fun k => topo_Apart.j58 k l ids met (i : Int) (j : Int) b) w := by
      intro b hb
      refine .s (fun k => topo_Apart.j58_s k _ _ _ _ _ _) ?_
      cases b with
      | true =>
        refine .t rfl (.t (by omega) ?_)
        rw [nth_get _ _ _ h1, w64n i (by omega)]
        refine hs _ ?_
        have e := congrArg (List.find? (fun n => decide (n.f0 = ids[i]) && !decide (n.f1 ∈ met))) (List.take_append_drop j l)
        rw [← e, List.find?_append, ht, List.drop_eq_getElem_cons h1, List.find?_cons_of_pos (p := fun n : T_api_Node => decide (n.f0 = ids[i]) && !decide (n.f1 ∈ met)) hb.symm]
        rfl
      | false =>
        refine .n (by decide) ?_
        rw [w64n j (by omega)]
        refine ih (j + 1) (by omega) ?_
        rw [List.take_add_one, List.find?_append, ht, List.getElem?_eq_getElem h1]
        simp only [Option.toList_some, Option.none_or]
        rw [List.find?_cons_of_neg]
        · rfl
        · rw [← hb]; decide
    rw [nth_get _ _ _ h1, nth_get _ _ _ hi]
    by_cases h : l[j].f0 = ids[i]
    · refine .t h (.b (contains met _ (by omega)) (hb _ ?_))
      rw [decide_eq_true h]; rfl
    · refine .n h (hb _ ?_)
      rw [decide_eq_false h]; rfl
theorem apart_l18 (l : List T_api_Node) (ids : List Int) (hl : l.length < 4611686018427387904) (hil : ids.length < 500000000000) : ∀ (d i : Nat) (met : List Int), i + d = ids.length → met.length = i → Ev (fun k => topo_Apart.l18 k l ids met (i : Int)) (apartT l met (ids.drop i)) := by
  intro d
  induction d with
  | zero =>
    intro i met hi hm
    refine .s (fun k => topo_Apart.l18_s k _ _ _ _) (.n (by omega) (.cv ?_))
    rw [List.drop_eq_nil_of_le (by omega)]
    rfl
  | succ d ih =>
    intro i met hi hm
    have h1 : i < ids.length := by omega
    refine .s (fun k => topo_Apart.l18_s k _ _ _ _) (.t (by omega) (.t (by omega) ?_))
    refine apart_l35 l ids met i _ hl (by omega) h1 (by omega) ?_ ?_ l.length 0 (by omega) rfl
    · intro n hn
      refine (ih (i + 1) _ (by omega) (by simp [hm])).v ?_
      rw [List.drop_eq_getElem_cons h1, apartT, hn]
    · intro hn
      rw [List.drop_eq_getElem_cons h1, apartT, hn]
theorem rise_lt : ∀ (p : Int) (l : List T_api_Node), rise p l = true → ∀ n ∈ l, p < n.f0
  | _, [], _, _, h => nomatch h
  | p, m :: l, h, n, hn => by
    simp only [rise, Bool.and_eq_true, decide_eq_true_eq] at h
    rcases List.mem_cons.1 hn with rfl | hn
    · exact h.1.2
    · exact Int.lt_trans h.1.2 (rise_lt _ l h.2 n hn)
theorem find_met (id : Int) (met : List Int) : ∀ (p : Int) (l : List T_api_Node), rise p l = true → l.find? (fun n => decide (n.f0 = id) && !decide (n.f1 ∈ met)) = match l.find? (fun n => decide (n.f0 = id)) with
    | some n => if n.f1 ∈ met then none else some n
    | none => none
  | _, [], _ => rfl
  | p, m :: l, h => by
    simp only [rise, Bool.and_eq_true, decide_eq_true_eq] at h
    by_cases hm : m.f0 = id
    · rw [List.find?_cons_of_pos (a := m) (p := fun n : T_api_Node => decide (n.f0 = id)) (by simpa using hm)]
      by_cases hz : m.f1 ∈ met
      · simp only [hz, if_true]
        rw [List.find?_eq_none]
        intro n hn
        rcases List.mem_cons.1 hn with rfl | hn
        · simp [hz]
        · have := rise_lt _ _ h.2 n hn
          have : ¬ n.f0 = id := by omega
          simp [this]
      · rw [List.find?_cons_of_pos (by simp [hm, hz])]
        simp only [hz, if_false]
    · rw [List.find?_cons_of_neg (by simp [hm]), List.find?_cons_of_neg (by simpa using hm)]
      exact find_met id met _ l h.2
theorem apart_same (l : List T_api_Node) (h : rise 0 l = true) : ∀ (ids met : List Int), apartT l met ids = apartR l met ids
  | [], _ => rfl
  | id :: r, met => by
    rw [apartT, apartR, find_met id met 0 l h]
    cases l.find? (fun n => decide (n.f0 = id)) with
    | none => rfl
    | some n =>
      by_cases hz : n.f1 ∈ met
      · simp [hz]
      · simp only [hz, if_false, decide_false, Bool.not_false, Bool.true_and]
        exact apart_same l h r _
theorem apart (l : List T_api_Node) (ids : List Int) (hl : l.length < 4611686018427387904) (hil : ids.length < 500000000000) : Ev (fun k => topo_Apart.f k l ids) (decide (Nodes l) && apartR l [] ids) := by
  unfold topo_Apart.f
  refine .b (check l hl) ?_
  by_cases h : Nodes l
  · rw [decide_eq_true h]
    refine .t rfl ((apart_l18 l ids hl hil ids.length 0 [] (by omega) rfl).v ?_)
    rw [List.drop_zero, apart_same l h.2, Bool.true_and]
  · rw [decide_eq_false h]
    exact .n (by decide) (.c _)

/-- A node by its number. -/
def find (l : List T_api_Node) (id : Int) : T_api_Node × Bool := match l.find? (fun n => decide (n.f0 = id)) with
  | some n => (n, true)
  | none => (⟨0, 0, 0, 0, false, false⟩, false)
theorem find_l7 (l : List T_api_Node) (id : Int) (hl : l.length < 4611686018427387904) : ∀ (d i : Nat), i + d = l.length → Ev (fun k => windroseref06_Find.l7 k l id (i : Int)) (find (l.drop i) id) := by
  intro d
  induction d with
  | zero =>
    intro i hi
    refine .s (fun k => windroseref06_Find.l7_s k _ _ _) (.n (by omega) (.cv ?_))
    rw [List.drop_eq_nil_of_le (by omega)]
    rfl
  | succ d ih =>
    intro i hi
    have h1 : i < l.length := by omega
    refine .s (fun k => windroseref06_Find.l7_s k _ _ _) (.t (by omega) (.t (by omega) ?_))
    rw [List.drop_eq_getElem_cons h1, nth_get _ _ _ h1]
    by_cases h : l[i].f0 = id
    · refine .t h (.cv ?_)
      rw [find, List.find?_cons_of_pos (by simpa using h)]
    · refine .n h ?_
      rw [w64n i (by omega)]
      refine (ih (i + 1) (by omega)).v ?_
      rw [find, find, List.find?_cons_of_neg (by simpa using h)]
theorem reffind (l : List T_api_Node) (id : Int) (hl : l.length < 4611686018427387904) : Ev (fun k => windroseref06_Find.f k l id) (find l id) := by
  unfold windroseref06_Find.f
  exact find_l7 l id hl l.length 0 (by omega)
def zn (l : List T_api_Node) (id : Int) : Int := (find l id).1.f1

theorem apart_l31 (l : List T_api_Node) (ids : List Int) (i : Nat) (t : T_api_Node × Bool) (w : Bool) (hl : l.length < 4611686018427387904) (hi : i < ids.length) (hil : ids.length < 4611686018427387904) : ∀ (d j : Nat), j + d = i →
    (t.1.f1 ∈ ((ids.take i).drop j).map (zn l) → w = false) → (¬ t.1.f1 ∈ ((ids.take i).drop j).map (zn l) → Ev (fun k => windroseref06_Apart.l5 k l ids ((i + 1 : Nat) : Int)) w) →
    Ev (fun k => windroseref06_Apart.l31 k l ids (i : Int) t (j : Int)) w := by
  intro d
  induction d with
  | zero =>
    intro j hj _ hn
    refine .s (fun k => windroseref06_Apart.l31_s k _ _ _ _ _) (.n (by omega) ?_)
    rw [w64n i (by omega)]
    refine hn ?_
    rw [List.drop_eq_nil_of_le (by simp; omega)]
    simp
  | succ d ih =>
    intro j hj hy hn
    have h1 : j < ids.length := by omega
    have h2 : j < (ids.take i).length := by simp; omega
    rw [List.drop_eq_getElem_cons h2, List.getElem_take, List.map_cons, List.mem_cons] at hy hn
    refine .s (fun k => windroseref06_Apart.l31_s k _ _ _ _ _) (.t (by omega) (.t (by omega) ?_))
    rw [nth_get _ _ _ h1]
    refine .b (reffind l _ hl) ?_
    by_cases h : t.1.f1 = zn l ids[j]
    · exact .t h (.cv (hy (.inl h)).symm)
    · refine .n h ?_
      rw [w64n j (by omega)]
      exact ih (j + 1) (by omega) (fun m => hy (.inr m)) (fun m => hn (fun o => o.elim h m))
theorem apart_l5 (l : List T_api_Node) (ids : List Int) (hl : l.length < 4611686018427387904) (hil : ids.length < 500000000000) : ∀ (d i : Nat), i + d = ids.length → Ev (fun k => windroseref06_Apart.l5 k l ids (i : Int)) (apartR l ((ids.take i).map (zn l)) (ids.drop i)) := by
  intro d
  induction d with
  | zero =>
    intro i hi
    refine .s (fun k => windroseref06_Apart.l5_s k _ _ _) (.n (by omega) (.cv ?_))
    rw [List.drop_eq_nil_of_le (by omega)]
    rfl
  | succ d ih =>
    intro i hi
    have h1 : i < ids.length := by omega
    refine .s (fun k => windroseref06_Apart.l5_s k _ _ _) (.t (by omega) (.t (by omega) ?_))
    rw [nth_get _ _ _ h1, List.drop_eq_getElem_cons h1, apartR]
    have ih := ih (i + 1) (by omega)
    rw [List.take_add_one, List.getElem?_eq_getElem h1, Option.toList_some, List.map_append, List.map_singleton] at ih
    refine .b (reffind l _ hl) ?_
    have e : zn l ids[i] = (find l ids[i]).1.f1 := rfl
    unfold find at e ⊢
    cases hf : l.find? (fun n => decide (n.f0 = ids[i])) with
    | none => exact .n (by decide) (.c _)
    | some n =>
      rw [hf] at e
      rw [e] at ih
      refine .t rfl ?_
      refine apart_l31 l ids i (n, true) _ hl h1 (by omega) i 0 (by omega) ?_ ?_
      · intro h
        rw [List.drop_zero] at h
        show (!decide (n.f1 ∈ _) && _) = false
        rw [decide_eq_true h]
        rfl
      · intro h
        rw [List.drop_zero] at h
        refine ih.v ?_
        show _ = (!decide (n.f1 ∈ _) && _)
        rw [decide_eq_false h]
        rfl
theorem refapart (l : List T_api_Node) (ids : List Int) (hl : l.length < 4611686018427387904) (hil : ids.length < 500000000000) : Ev (fun k => windroseref06_Apart.f k l ids) (apartR l [] ids) := by
  unfold windroseref06_Apart.f
  exact apart_l5 l ids hl hil ids.length 0 (by omega)


end Topo
namespace Place
/-! the common rule -/
theorem wSum_pos {is : T_api_Node → Bool} {of : T_api_Node → Int} {l : List T_api_Node} {id : Int} (h : ∀ n ∈ l, Topo.okW n) : 0 < Topo.wSum is of l id ↔ ∃ n ∈ l, is n = true ∧ of n = id ∧ 0 < Topo.weight n := by
  induction l with
  | nil => exact ⟨fun h => absurd h (Int.lt_irrefl 0), fun h => by obtain ⟨_, h, _⟩ := h; cases h⟩
  | cons n l ih =>
    have hl : ∀ m ∈ l, Topo.okW m := fun m hm => h m (List.mem_cons_of_mem _ hm)
    have ih := ih hl
    have h0 := (Topo.wSum_ge is of l id hl).1
    have hw := (Topo.weight_ok (h n List.mem_cons_self)).1
    have e : Topo.wSum is of (n :: l) id = Topo.wSum is of l id + if is n = true ∧ of n = id then Topo.weight n else 0 := by
      unfold Topo.wSum
      rw [List.filter_cons]
      by_cases c : is n = true ∧ of n = id
      · rw [if_pos (by simp [c]), if_pos c, List.map_cons, List.sum_cons]
        omega
      · rw [if_neg (by simpa using c), if_neg c]
        omega
    rw [e]
    constructor
    · intro hp
      by_cases c : is n = true ∧ of n = id
      · rw [if_pos c] at hp
        by_cases hw0 : 0 < Topo.weight n
        · exact ⟨n, List.mem_cons_self, c.1, c.2, hw0⟩
        · obtain ⟨m, hm, q⟩ := ih.1 (by omega)
          exact ⟨m, List.mem_cons_of_mem _ hm, q⟩
      · rw [if_neg c] at hp
        obtain ⟨m, hm, q⟩ := ih.1 (by omega)
        exact ⟨m, List.mem_cons_of_mem _ hm, q⟩
    · rintro ⟨m, hm, q1, q2, q3⟩
      rcases List.mem_cons.1 hm with rfl | hm
      · rw [if_pos ⟨q1, q2⟩]
        omega
      · have := ih.2 ⟨m, hm, q1, q2, q3⟩
        split <;> omega
theorem ord_mem {key : Nat} {c : List T_api_Choice} {x : T_api_Choice} : x ∈ Draw.ord key c ↔ x ∈ c ∧ x.f1 ≠ 0 := by
  unfold Draw.ord Draw.heavy
  rw [sortL_mem, List.mem_filter]
  simp
theorem kid_mem {l : List T_api_Node} (h : Topo.Nodes l) (is : T_api_Node → Bool) (of : T_api_Node → Int) (key : Nat) (id : Int) : id ∈ (Draw.ord key (Topo.wL is of l)).map (fun x => x.f0) ↔ ∃ n ∈ l, is n = true ∧ of n = id ∧ 0 < Topo.weight n := by
  have hW := (Topo.wL_full is of h).1
  have h0 := (Topo.wSum_ge is of l id h.okW).1
  rw [← wSum_pos h.okW, List.mem_map]
  have hc : ∀ x : Int, 0 ≤ x → (Topo.cap x ≠ 0 ↔ 0 < x) := by
    intro x hx
    unfold Topo.cap
    split <;> omega
  constructor
  · rintro ⟨c, hc1, rfl⟩
    obtain ⟨h1, h2⟩ := ord_mem.1 hc1
    rw [((hW.mem c).1 h1).2] at h2
    exact (hc _ h0).1 h2
  · intro hp
    refine ⟨⟨id, Topo.cap (Topo.wSum is of l id)⟩, ord_mem.2 ⟨(hW.mem _).2 ⟨?_, rfl⟩, (hc _ h0).2 hp⟩, rfl⟩
    obtain ⟨n, hn, q1, q2, _⟩ := (wSum_pos h.okW).1 hp
    exact ⟨n, hn, q1, q2⟩
def st2 (size : Int) : T_api_Step := ⟨2, 1, size⟩
def st3 : T_api_Step := ⟨2, 2, 1⟩
def st4 : T_api_Step := ⟨2, 3, 1⟩
def commonL (size : Int) : List T_api_Step := [⟨1, 0, 0⟩, st2 size, st3, st4, ⟨3, 0, 0⟩]
def zonesOf (l : List T_api_Node) (g : Int) : List Int := (Draw.ord (Mixn.fold (Draw.un g) [Draw.un 1, Draw.un 0, Draw.un 0]) (Topo.wL Topo.isZ Topo.ofZ l)).map (fun x => x.f0)
def pick (l : List T_api_Node) (g : Int) (z : Int) : List T_place_item := (chooseL l g st3 ⟨z, 0, 0⟩).flatMap (chooseL l g st4)
/-- The node that is told for a zone. -/
def pk (l : List T_api_Node) (g : Int) (z : Int) : Int := ((pick l g z).headD ⟨0, 0, 0⟩).f2
theorem pick_one {l : List T_api_Node} (h : Topo.Nodes l) (g : Int) {z : Int} (hz : 1 ≤ z) (hn : ∃ n ∈ l, n.f1 = z ∧ 0 < Topo.weight n) : ∃ n ∈ l, n.f1 = z ∧ 0 < Topo.weight n ∧ ∃ r, pick l g z = [⟨z, r, n.f0⟩] := by
  obtain ⟨n, hn, h1, h2⟩ := hn
  have k3 : kids l g st3 z 0 = (Draw.ord (Mixn.fold (Draw.un g) [Draw.un 2, Draw.un z, Draw.un 0]) (Topo.wL (Topo.isR z) Topo.ofR l)).map (fun x => x.f0) := rfl
  have m3 := kid_mem h (Topo.isR z) Topo.ofR (Mixn.fold (Draw.un g) [Draw.un 2, Draw.un z, Draw.un 0])
  rw [← k3] at m3
  have hr := (m3 n.f2).2 ⟨n, hn, by unfold Topo.isR; simpa using h1, rfl, h2⟩
  generalize hk : kids l g st3 z 0 = k at hr m3
  cases k with
  | nil => cases hr
  | cons r rs =>
    obtain ⟨n2, hn2, i2, o2, w2⟩ := (m3 r).1 List.mem_cons_self
    have e3 : chooseL l g st3 ⟨z, 0, 0⟩ = [⟨z, r, 0⟩] := by
      unfold chooseL
      rw [show kids l g st3 (⟨z, 0, 0⟩ : T_place_item).f0 (⟨z, 0, 0⟩ : T_place_item).f1 = r :: rs from hk]
      rfl
    have k4 : kids l g st4 z r = (Draw.ord (Mixn.fold (Draw.un g) [Draw.un 3, Draw.un z, Draw.un r]) (Topo.wL (Topo.isL z r) Topo.ofL l)).map (fun x => x.f0) := rfl
    have m4 := kid_mem h (Topo.isL z r) Topo.ofL (Mixn.fold (Draw.un g) [Draw.un 3, Draw.un z, Draw.un r])
    rw [← k4] at m4
    have i2 : n2.f1 = z := by unfold Topo.isR at i2; simpa using i2
    have hf := (m4 n2.f0).2 ⟨n2, hn2, by unfold Topo.isL; have : n2.f2 = r := o2; simp [i2, this], rfl, w2⟩
    generalize hk4 : kids l g st4 z r = k4' at hf m4
    cases k4' with
    | nil => cases hf
    | cons q qs =>
      obtain ⟨n3, hn3, i3, o3, w3⟩ := (m4 q).1 List.mem_cons_self
      have o3 : n3.f0 = q := o3
      have i3 : n3.f1 = z := by
        unfold Topo.isL at i3
        rw [Bool.and_eq_true, Bool.or_eq_true, beq_iff_eq, beq_iff_eq] at i3
        rcases i3.1 with c | c
        · omega
        · exact c
      refine ⟨n3, hn3, i3, w3, r, ?_⟩
      unfold pick
      rw [e3, List.flatMap_cons, List.flatMap_nil, List.append_nil]
      unfold chooseL
      rw [show kids l g st4 (⟨z, r, 0⟩ : T_place_item).f0 (⟨z, r, 0⟩ : T_place_item).f1 = q :: qs from hk4, o3]
      rfl
theorem emit_all (size : Int) : ∀ (hand : List T_place_item) (out : List Int), ((out.length + hand.length : Nat) : Int) ≤ size → (hand.map (fun x => x.f2)).Nodup → (∀ x ∈ hand, ¬ x.f2 ∈ out) → hand.foldl (emit size) out = out ++ hand.map (fun x => x.f2)
  | [], out, _, _, _ => (List.append_nil _).symm
  | x :: r, out, hl, hn, ho => by
    rw [List.map_cons] at hn ⊢
    obtain ⟨h1, h2⟩ := List.nodup_cons.1 hn
    rw [List.length_cons] at hl
    rw [List.foldl_cons, emit, if_pos ⟨by omega, ho x List.mem_cons_self⟩, emit_all size r (out ++ [x.f2]) (by rw [List.length_append, List.length_singleton]; omega) h2, List.append_assoc]
    · rfl
    · intro y hy hm
      rcases List.mem_append.1 hm with hm | hm
      · exact ho y (List.mem_cons_of_mem _ hy) hm
      · exact h1 (List.mem_map.2 ⟨y, hy, List.mem_singleton.1 hm⟩)
theorem zone_mem {l : List T_api_Node} (h : Topo.Nodes l) (g : Int) (z : Int) : z ∈ zonesOf l g ↔ ∃ n ∈ l, n.f1 = z ∧ 0 < Topo.weight n := by
  unfold zonesOf
  rw [kid_mem h]
  exact ⟨fun ⟨n, hn, _, q1, q2⟩ => ⟨n, hn, q1, q2⟩, fun ⟨n, hn, q1, q2⟩ => ⟨n, hn, rfl, q1, q2⟩⟩
theorem zone_pk {l : List T_api_Node} (h : Topo.Nodes l) (g : Int) {z : Int} (hz : z ∈ zonesOf l g) : ∃ n ∈ l, n.f1 = z ∧ 0 < Topo.weight n ∧ pk l g z = n.f0 ∧ ∃ r, pick l g z = [⟨z, r, pk l g z⟩] := by
  have hz' := (zone_mem h g z).1 hz
  have h1 : 1 ≤ z := by
    obtain ⟨n, hn, q, _⟩ := hz'
    have := h.ok n hn
    unfold Topo.okN at this
    omega
  obtain ⟨n, hn, q1, q2, r, e⟩ := pick_one h g h1 hz'
  have e2 : pk l g z = n.f0 := by unfold pk; rw [e]; rfl
  exact ⟨n, hn, q1, q2, e2, r, e2 ▸ e⟩
theorem ord_nodup {key : Nat} {c : List T_api_Choice} (h : Draw.Chs c) : ((Draw.ord key c).map (fun x => x.f0)).Nodup := by
  have hp : ((Draw.heavy c).map (fun x => x.f0)).Nodup := by
    unfold List.Nodup
    rw [List.pairwise_map]
    exact (Draw.heavy_up h).imp (fun {a b} hab e => by omega)
  exact ((sortL_perm _ _).map (fun x : T_api_Choice => x.f0)).nodup_iff.2 hp
theorem zones_nodup {l : List T_api_Node} (h : Topo.Nodes l) (g : Int) : (zonesOf l g).Nodup := ord_nodup (zones_chs h)
theorem node_uniq {l : List T_api_Node} (h : Topo.Nodes l) {a b : T_api_Node} (ha : a ∈ l) (hb : b ∈ l) (e : a.f0 = b.f0) : a = b := by
  obtain ⟨i, hi, rfl⟩ := List.getElem_of_mem ha
  obtain ⟨j, hj, rfl⟩ := List.getElem_of_mem hb
  have hup := List.pairwise_iff_getElem.1 h.up
  rcases Nat.lt_trichotomy i j with c | c | c
  · have := hup i j hi hj c; omega
  · subst c; rfl
  · have := hup j i hj hi c; omega
theorem flatMap_congr' {α β : Type} {f g : α → List β} : ∀ {l : List α}, (∀ x ∈ l, f x = g x) → l.flatMap f = l.flatMap g
  | [], _ => rfl
  | x :: l, h => by
    rw [List.flatMap_cons, List.flatMap_cons, h x List.mem_cons_self, flatMap_congr' (fun y hy => h y (List.mem_cons_of_mem _ hy))]
theorem flatMap_one {α β : Type} (f : α → β) (l : List α) : l.flatMap (fun x => [f x]) = l.map f := by
  induction l with
  | nil => rfl
  | cons x l ih => rw [List.flatMap_cons, ih]; rfl
/-- By the common rule: the nodes of the first zones. -/
theorem run_common {l : List T_api_Node} (h : Topo.Nodes l) (g size : Int) (hs : 1 ≤ size ∧ size ≤ 3) : runL l (commonL size) g size = ((zonesOf l g).take size.toNat).map (pk l g) := by
  have e : runL l (commonL size) g size = ((((zonesOf l g).take size.toNat).map (fun z => (⟨z, 0, 0⟩ : T_place_item))).flatMap (chooseL l g st3) |>.flatMap (chooseL l g st4)).foldl (emit size) [] := by
    have e2 : chooseL l g (st2 size) ⟨0, 0, 0⟩ = ((zonesOf l g).take size.toNat).map (fun z => (⟨z, 0, 0⟩ : T_place_item)) := rfl
    have e1 : runL l (commonL size) g size = ((([⟨0, 0, 0⟩] : List T_place_item).flatMap (chooseL l g (st2 size))).flatMap (chooseL l g st3) |>.flatMap (chooseL l g st4)).foldl (emit size) [] := rfl
    rw [e1, List.flatMap_cons, List.flatMap_nil, List.append_nil, e2]
  have hmem : ∀ z ∈ (zonesOf l g).take size.toNat, z ∈ zonesOf l g := fun z hz => List.mem_of_mem_take hz
  have e3 : ((((zonesOf l g).take size.toNat).map (fun z => (⟨z, 0, 0⟩ : T_place_item))).flatMap (chooseL l g st3)).flatMap (chooseL l g st4) = ((zonesOf l g).take size.toNat).map (fun z => (pick l g z).headD ⟨0, 0, 0⟩) := by
    rw [List.flatMap_assoc, List.flatMap_map, ← flatMap_one]
    refine flatMap_congr' (fun z hz => ?_)
    obtain ⟨n, _, _, _, _, r, e⟩ := zone_pk h g (hmem z hz)
    show pick l g z = [(pick l g z).headD ⟨0, 0, 0⟩]
    rw [e]
    rfl
  have hmap : ∀ L : List Int, (L.map (fun z => (pick l g z).headD ⟨0, 0, 0⟩)).map (fun x => x.f2) = L.map (pk l g) := fun L => by rw [List.map_map]; rfl
  rw [e, e3, emit_all, List.nil_append, hmap]
  · rw [List.length_map, List.length_take, List.length_nil]
    omega
  · rw [hmap]
    have hnd : ((zonesOf l g).take size.toNat).Nodup := (zones_nodup h g).sublist (List.take_sublist _ _)
    unfold List.Nodup
    rw [List.pairwise_map]
    refine List.Pairwise.imp_of_mem ?_ hnd
    intro a b ha hb hab e
    obtain ⟨n, hn, q1, _, q2, _⟩ := zone_pk h g (hmem a ha)
    obtain ⟨n', hn', q1', _, q2', _⟩ := zone_pk h g (hmem b hb)
    have : n = n' := node_uniq h hn hn' (by omega)
    subst this
    exact hab (by omega)
  · intro x _ hx
    cases hx
theorem common_may {size : Int} (hs : 1 ≤ size ∧ size ≤ 3) : Rule.May (commonL size) := by
  have : size = 1 ∨ size = 2 ∨ size = 3 := by omega
  rcases this with rfl | rfl | rfl <;> decide
/-- The nodes that the common rule tells. -/
def ofCommon (l : List T_api_Node) (g size : Int) : List Int := if Topo.Nodes l ∧ (0 ≤ g ∧ g < 8) ∧ 1 ≤ size ∧ size ≤ 3 then ((zonesOf l g).take size.toNat).map (pk l g) else []
theorem of_ (l : List T_api_Node) (g size : Int) : Ev (fun k => place_Of.f k l g size) (ofCommon l g size) := by
  unfold place_Of.f
  have hc : Ev (fun k => place_Common.f k size) (if 1 ≤ size ∧ size ≤ 3 then commonL size else []) := ⟨1, fun k hk => by
    obtain ⟨k, rfl⟩ : ∃ m, k = m + 1 := ⟨k - 1, by omega⟩
    exact Rule.common k size⟩
  refine .b hc (.b (run l _ g size) (.cv ?_))
  unfold ofCommon
  by_cases c : Topo.Nodes l ∧ (0 ≤ g ∧ g < 8) ∧ 1 ≤ size ∧ size ≤ 3
  · rw [if_pos c, if_pos c.2.2, if_pos ⟨c.1, common_may c.2.2, c.2.1, c.2.2⟩]
    exact run_common c.1 g size c.2.2
  · rw [if_neg c, if_neg]
    · exact fun m => c ⟨m.1, m.2.2.1, m.2.2.2⟩

theorem rof (l : List T_api_Node) (g size : Int) (hl : l.length < 4611686018427387904) : Ev (fun k => windroseref07_Of.f k l g size) (ofCommon l g size) := by
  have hn : ¬ (Topo.Nodes l ∧ (0 ≤ g ∧ g < 8) ∧ 1 ≤ size ∧ size ≤ 3) → Ev (fun k => windroseref07_Of.j12 k l g size true) (ofCommon l g size) := by
    intro c
    unfold ofCommon
    rw [if_neg c]
    exact .s (fun k => windroseref07_Of.j12_s k _ _ _ _) (.t rfl (.c _))
  unfold windroseref07_Of.f
  refine .b (Topo.may l hl) ?_
  by_cases h : Topo.Nodes l
  · rw [decide_eq_true h]
    refine .t rfl (.i (fun c => hn (fun e => by have := e.2.1; omega)) (fun c => .i (fun c => hn (fun e => by have := e.2.1; omega)) (fun c2 => .i (fun c => hn (fun e => by have := e.2.2; omega)) (fun c3 => ?_))))
    by_cases c4 : size > 3
    · rw [decide_eq_true c4]
      exact hn (fun e => by have := e.2.2; omega)
    · rw [decide_eq_false c4]
      have hs : 1 ≤ size ∧ size ≤ 3 := ⟨by omega, by omega⟩
      have hc : windroseref07_Common.f size = some (commonL size) := rfl
      refine .s (fun k => windroseref07_Of.j12_s k _ _ _ _) (.n (by decide) (.b0 hc (.b (rrun ⟨h, common_may hs, ⟨by omega, by omega⟩, hs⟩) (.cv ?_))))
      unfold ofCommon
      rw [if_pos ⟨h, ⟨by omega, by omega⟩, hs⟩]
      exact run_common h g size hs
  · rw [decide_eq_false h]
    exact .n (by decide) (hn (fun e => h e.1))
theorem find_node {l : List T_api_Node} (h : Topo.Nodes l) {n : T_api_Node} (hn : n ∈ l) : l.find? (fun m => decide (m.f0 = n.f0)) = some n := by
  cases hf : l.find? (fun m => decide (m.f0 = n.f0)) with
  | none =>
    have := List.find?_eq_none.1 hf n hn
    simp at this
  | some m =>
    have h1 := List.find?_some hf
    have h2 := List.mem_of_find?_eq_some hf
    rw [node_uniq h h2 hn (of_decide_eq_true h1)]


end Place
namespace Maps
/-! maps that may be -/
theorem min' (x a b : Int) : maps_in.f x a b = some (decide (a ≤ x ∧ x ≤ b)) := by
  unfold maps_in.f
  by_cases h : x ≥ a
  · rw [if_pos h]
    congr 1
    simp only [decide_eq_decide]
    omega
  · rw [if_neg h, decide_eq_false (by omega)]
def temps (m : T_api_Map) : Int → List T_api_Temp → Bool
  | _, [] => true
  | p, t :: l => (decide ((0 ≤ t.f0 ∧ t.f0 < m.f3) ∧ p < t.f0 ∧ 1 ≤ (t.f1.length : Int) ∧ (t.f1.length : Int) ≤ m.f1) && Topo.apartR m.f4 [] t.f1) && temps m t.f0 l
def riseI : Int → List Int → Bool
  | _, [] => true
  | p, n :: l => decide ((1 ≤ n ∧ n ≤ 999) ∧ p < n) && riseI n l
def past (m : T_api_Map) (since : Int) : Int → List T_api_Span → List T_api_Span → Bool
  | _, _, [] => true
  | p, seen, s :: l => (decide ((0 ≤ s.f0 ∧ s.f0 < since) ∧ p < s.f0 ∧ m.f2 ≤ (s.f1.length : Int) ∧ (s.f1.length : Int) ≤ m.f1) && riseI 0 s.f1 && !decide (∃ x ∈ seen, x.f1 = s.f1)) && past m since s.f0 (seen ++ [s]) l
def trails (m : T_api_Map) : List T_api_Trail → Bool
  | [] => true
  | t :: l => (decide (0 ≤ t.f0 ∧ t.f0 ≤ m.f0) && past m t.f0 (-1) [] t.f1) && trails m l
def Flat (m : T_api_Map) : Prop := (0 ≤ m.f0 ∧ m.f0 ≤ 2147483647) ∧ (1 ≤ m.f1 ∧ m.f1 ≤ 3) ∧ (1 ≤ m.f2 ∧ m.f2 ≤ m.f1) ∧ (1 ≤ m.f3 ∧ m.f3 ≤ 8) ∧ Topo.Nodes m.f4
instance (m : T_api_Map) : Decidable (Flat m) := inferInstanceAs (Decidable (_ ∧ _))
def May (m : T_api_Map) : Prop := Flat m ∧ temps m (-1) m.f5 = true ∧ (m.f6.length : Int) = m.f3 ∧ trails m m.f6 = true
instance (m : T_api_Map) : Decidable (May m) := inferInstanceAs (Decidable (_ ∧ _))
/-- Rows of a length that the counts can tell. -/
structure Small (m : T_api_Map) : Prop where
  h4 : m.f4.length < 4611686018427387904
  h5 : m.f5.length < 4611686018427387904
  h6 : m.f6.length < 4611686018427387904
  hp : ∀ t ∈ m.f6, t.f1.length < 4611686018427387904
  hs : ∀ t ∈ m.f6, ∀ s ∈ t.f1, s.f1.length < 4611686018427387904
theorem small_i {m : T_api_Map} (h : Small m) : True := trivial
def preT (l : List T_api_Temp) (i : Nat) : Int := if i = 0 then -1 else (nth T_api_Temp.z l (w64 ((i : Int) - 1))).f0
theorem preT_succ (l : List T_api_Temp) (i : Nat) (h : i < l.length) (hl : l.length < 4611686018427387904) : preT l (i + 1) = l[i].f0 := by
  unfold preT
  rw [if_neg (by omega), w64p (i + 1) (by omega) (by omega), show i + 1 - 1 = i by omega, nth_get _ _ _ h]
def preS (l : List T_api_Span) (i : Nat) : Int := if i = 0 then -1 else (nth T_api_Span.z l (w64 ((i : Int) - 1))).f0
theorem preS_succ (l : List T_api_Span) (i : Nat) (h : i < l.length) (hl : l.length < 4611686018427387904) : preS l (i + 1) = l[i].f0 := by
  unfold preS
  rw [if_neg (by omega), w64p (i + 1) (by omega) (by omega), show i + 1 - 1 = i by omega, nth_get _ _ _ h]
def preI (l : List Int) (i : Nat) : Int := if i = 0 then 0 else nth 0 l (w64 ((i : Int) - 1))
theorem preI_succ (l : List Int) (i : Nat) (h : i < l.length) (hl : l.length < 4611686018427387904) : preI l (i + 1) = l[i] := by
  unfold preI
  rw [if_neg (by omega), w64p (i + 1) (by omega) (by omega), show i + 1 - 1 = i by omega, nth_get _ _ _ h]
/-! rows of numbers alike -/
theorem drop_eq {α : Type} (a b : List α) (i : Nat) (ha : i < a.length) (hb : i < b.length) : (a.drop i = b.drop i) ↔ (a[i] = b[i] ∧ a.drop (i + 1) = b.drop (i + 1)) := by
  rw [List.drop_eq_getElem_cons ha, List.drop_eq_getElem_cons hb, List.cons.injEq]
theorem equal_l9 (a b : List Int) (hab : a.length = b.length) (hl : a.length < 4611686018427387904) : ∀ (d i : Nat), i + d = a.length → Ev (fun k => slices_Equal__int_int.l9 k a b (i : Int)) (decide (a.drop i = b.drop i)) := by
  intro d
  induction d with
  | zero =>
    intro i hi
    refine .s (fun k => slices_Equal__int_int.l9_s k _ _ _) (.n (by omega) (.cv ?_))
    rw [List.drop_eq_nil_of_le (by omega), List.drop_eq_nil_of_le (by omega)]
    rfl
  | succ d ih =>
    intro i hi
    have h1 : i < a.length := by omega
    have h2 : i < b.length := by omega
    refine .s (fun k => slices_Equal__int_int.l9_s k _ _ _) (.t (by omega) (.t (by omega) (.t (by omega) ?_)))
    rw [nth_get _ _ _ h1, nth_get _ _ _ h2, w64n i (by omega)]
    refine .i (fun h => (ih (i + 1) (by omega)).v ?_) (fun h => .cv ?_)
    · simp only [drop_eq a b i h1 h2, h, true_and]
    · simp only [drop_eq a b i h1 h2, h, false_and, decide_false]
theorem equal (a b : List Int) (hl : a.length < 4611686018427387904) : Ev (fun k => slices_Equal__int_int.f k a b) (decide (a = b)) := by
  unfold slices_Equal__int_int.f
  refine .i (fun h => equal_l9 a b (by omega) hl a.length 0 (by omega)) (fun h => .cv ?_)
  exact (decide_eq_false (fun e => h (by rw [e]))).symm
theorem ints_l9 (a b : List Int) (hab : a.length = b.length) (hl : a.length < 4611686018427387904) : ∀ (d i : Nat), i + d = a.length → Ev (fun k => windroseref02_Ints.l9 k a b (i : Int)) (decide (a.drop i = b.drop i)) := by
  intro d
  induction d with
  | zero =>
    intro i hi
    refine .s (fun k => windroseref02_Ints.l9_s k _ _ _) (.n (by omega) (.cv ?_))
    rw [List.drop_eq_nil_of_le (by omega), List.drop_eq_nil_of_le (by omega)]
    rfl
  | succ d ih =>
    intro i hi
    have h1 : i < a.length := by omega
    have h2 : i < b.length := by omega
    refine .s (fun k => windroseref02_Ints.l9_s k _ _ _) (.t (by omega) (.t (by omega) (.t (by omega) ?_)))
    rw [nth_get _ _ _ h1, nth_get _ _ _ h2, w64n i (by omega)]
    refine .i (fun h => (ih (i + 1) (by omega)).v ?_) (fun h => .cv ?_)
    · simp only [drop_eq a b i h1 h2, h, true_and]
    · simp only [drop_eq a b i h1 h2, h, false_and, decide_false]
theorem ints (a b : List Int) (hl : a.length < 4611686018427387904) : Ev (fun k => windroseref02_Ints.f k a b) (decide (a = b)) := by
  unfold windroseref02_Ints.f
  refine .i (fun h => ints_l9 a b (by omega) hl a.length 0 (by omega)) (fun h => .cv ?_)
  exact (decide_eq_false (fun e => h (by rw [e]))).symm
/-! the past, as the program looks at it -/
theorem seen_l5 (l : List T_api_Span) (s : T_api_Span) (hl : l.length < 4611686018427387904) (hs : ∀ x ∈ l, x.f1.length < 4611686018427387904) : ∀ (d i : Nat), i + d = l.length → ∃ x, Ev (fun k => slices_IndexFunc__api_Span_api_Span_of_maps_past_1.l5 k l s (i : Int)) x ∧ (0 ≤ x ↔ ∃ y ∈ l.drop i, y.f1 = s.f1) := by
  intro d
  induction d with
  | zero =>
    intro i hi
    refine ⟨-1, .s (fun k => slices_IndexFunc__api_Span_api_Span_of_maps_past_1.l5_s k _ _ _) (.n (by omega) (.c _)), ?_⟩
    rw [List.drop_eq_nil_of_le (by omega)]
    simp
  | succ d ih =>
    intro i hi
    have h1 : i < l.length := by omega
    obtain ⟨x, hx, hm⟩ := ih (i + 1) (by omega)
    have hq : Ev (fun k => maps_past_1.f k l[i] s) (decide (l[i].f1 = s.f1)) := by
      unfold maps_past_1.f
      exact .b (equal _ _ (hs _ (List.getElem_mem h1))) (.c _)
    by_cases h : l[i].f1 = s.f1
    · refine ⟨i, .s (fun k => slices_IndexFunc__api_Span_api_Span_of_maps_past_1.l5_s k _ _ _) (.t (by omega) (.t (by omega) ?_)), ?_⟩
      · rw [nth_get _ _ _ h1]
        exact .b hq (.t (decide_eq_true h) (.c _))
      · rw [List.drop_eq_getElem_cons h1]
        exact ⟨fun _ => ⟨_, List.mem_cons_self, h⟩, fun _ => by omega⟩
    · refine ⟨x, .s (fun k => slices_IndexFunc__api_Span_api_Span_of_maps_past_1.l5_s k _ _ _) (.t (by omega) (.t (by omega) ?_)), ?_⟩
      · rw [nth_get _ _ _ h1, w64n i (by omega)]
        exact .b hq (.n (by simpa using h) hx)
      · rw [List.drop_eq_getElem_cons h1, hm]
        exact ⟨fun ⟨y, m, e⟩ => ⟨y, List.mem_cons.2 (.inr m), e⟩, fun ⟨y, m, e⟩ => ⟨y, (List.mem_cons.1 m).resolve_left (fun q => h (q ▸ e)), e⟩⟩
theorem seen (l : List T_api_Span) (s : T_api_Span) (hl : l.length < 4611686018427387904) (hs : ∀ x ∈ l, x.f1.length < 4611686018427387904) : Ev (fun k => slices_ContainsFunc__api_Span_api_Span_of_maps_past_1.f k l s) (decide (∃ y ∈ l, y.f1 = s.f1)) := by
  obtain ⟨x, hx, hm⟩ := seen_l5 l s hl hs l.length 0 (by omega)
  unfold slices_ContainsFunc__api_Span_api_Span_of_maps_past_1.f slices_IndexFunc__api_Span_api_Span_of_maps_past_1.f
  refine .b hx (.cv ?_)
  rw [decide_eq_decide]
  exact hm
theorem past_l61 (m : T_api_Map) (t : T_api_Trail) (i : Nat) (hl : t.f1.length < 4611686018427387904) (hs : ∀ s ∈ t.f1, s.f1.length < 4611686018427387904) (hi : i < t.f1.length) (w : Bool)
    (hc : riseI 0 t.f1[i].f1 = true → (∃ y ∈ t.f1.take i, y.f1 = t.f1[i].f1) → w = false)
    (hn : riseI 0 t.f1[i].f1 = true → (¬ ∃ y ∈ t.f1.take i, y.f1 = t.f1[i].f1) → Ev (fun k => maps_past.l9 k m t ((i + 1 : Nat) : Int)) w)
    (hr : ¬ riseI 0 t.f1[i].f1 = true → w = false) : ∀ (d j : Nat), j + d = t.f1[i].f1.length → (riseI 0 t.f1[i].f1 = riseI (preI t.f1[i].f1 j) (t.f1[i].f1.drop j)) → Ev (fun k => maps_past.l61 k m t (i : Int) (j : Int)) w := by
  have hz := nth_get T_api_Span.z _ _ hi
  have hsl := hs _ (List.getElem_mem hi)
  intro d
  induction d with
  | zero =>
    intro j hj he
    refine .s (fun k => maps_past.l61_s k _ _ _ _) ?_
    rw [hz]
    rw [List.drop_eq_nil_of_le (by omega)] at he
    refine .n (by omega) (.t (by omega) ?_)
    rw [show cutl t.f1 0 (i : Int) = t.f1.take i by simp [cutl], w64n i (by omega)]
    refine .b (seen _ _ (by simp; omega) (fun x m => hs x (List.mem_of_mem_take m))) ?_
    refine .i (fun h => .cv (hc he ?_).symm) (fun h => hn he ?_)
    · simpa using h
    · simpa using h
  | succ d ih =>
    intro j hj he
    have h1 : j < t.f1[i].f1.length := by omega
    refine .s (fun k => maps_past.l61_s k _ _ _ _) ?_
    rw [hz]
    refine .t (by omega) (.t (by omega) ?_)
    rw [List.drop_eq_getElem_cons h1] at he
    simp only [riseI] at he
    have hb : ∀ b : Bool, (b = true ↔ ¬ ((1 ≤ t.f1[i].f1[j] ∧ t.f1[i].f1[j] ≤ 999) ∧ preI t.f1[i].f1 j < t.f1[i].f1[j])) → Ev (fun k => maps_past.j86 k m t (i : Int) (j : Int) b) w := by
      intro b hb
      refine .s (fun k => maps_past.j86_s k _ _ _ _ _) ?_
      by_cases h : (1 ≤ t.f1[i].f1[j] ∧ t.f1[i].f1[j] ≤ 999) ∧ preI t.f1[i].f1 j < t.f1[i].f1[j]
      · refine .n (fun e => (hb.1 e) h) ?_
        rw [w64n j (by omega)]
        refine ih (j + 1) (by omega) ?_
        rw [he, preI_succ _ j h1 hsl, decide_eq_true h, Bool.true_and]
      · refine .t (hb.2 h) (.cv (hr ?_).symm)
        rw [he, decide_eq_false h]
        simp
    clear he ih hr hn hc
    rw [nth_get _ _ _ h1]
    have hp0 : j = 0 → preI t.f1[i].f1 j = 0 := fun e => if_pos e
    have hp1 : j ≠ 0 → nth 0 t.f1[i].f1 (w64 ((j : Int) - 1)) = preI t.f1[i].f1 j := fun e => (if_neg e).symm
    have hw : j ≠ 0 → w64 ((j : Int) - 1) = ((j - 1 : Nat) : Int) := fun e => w64p j (by omega) (by omega)
    generalize preI t.f1[i].f1 j = p at *
    generalize nth 0 t.f1[i].f1 (w64 ((j : Int) - 1)) = q at *
    generalize t.f1[i].f1[j] = n at *
    repeat' (first | refine Ev.b0 (min' _ _ _) ?_ | refine Ev.i (fun _ => ?_) (fun _ => ?_))
    all_goals simp only [decide_eq_true_eq] at *
    all_goals first
      | exact hb _ (by simp only [decide_eq_true_eq, Bool.false_eq_true, true_iff, false_iff]; omega)
      | (exfalso; omega)
theorem past_l9 (m : T_api_Map) (t : T_api_Trail) (hl : t.f1.length < 4611686018427387904) (hs : ∀ s ∈ t.f1, s.f1.length < 4611686018427387904) (ht : 0 ≤ t.f0 ∧ t.f0 ≤ 2147483647) : ∀ (d i : Nat), i + d = t.f1.length → Ev (fun k => maps_past.l9 k m t (i : Int)) (past m t.f0 (preS t.f1 i) (t.f1.take i) (t.f1.drop i)) := by
  intro d
  induction d with
  | zero =>
    intro i hi
    refine .s (fun k => maps_past.l9_s k _ _ _) (.n (by omega) (.cv ?_))
    rw [List.drop_eq_nil_of_le (by omega)]
    rfl
  | succ d ih =>
    intro i hi
    have h1 : i < t.f1.length := by omega
    refine .s (fun k => maps_past.l9_s k _ _ _) (.t (by omega) (.t (by omega) ?_))
    have ih := ih (i + 1) (by omega)
    rw [preS_succ _ i h1 hl, List.take_add_one, List.getElem?_eq_getElem h1, Option.toList_some] at ih
    rw [nth_get _ _ _ h1, List.drop_eq_getElem_cons h1]
    simp only [past]
    have hj : ∀ b : Bool, (b = true ↔ ¬ ((0 ≤ t.f1[i].f0 ∧ t.f1[i].f0 < t.f0) ∧ preS t.f1 i < t.f1[i].f0 ∧ m.f2 ≤ (t.f1[i].f1.length : Int) ∧ (t.f1[i].f1.length : Int) ≤ m.f1)) → Ev (fun k => maps_past.j51 k m t (i : Int) b) (decide ((0 ≤ t.f1[i].f0 ∧ t.f1[i].f0 < t.f0) ∧ preS t.f1 i < t.f1[i].f0 ∧ m.f2 ≤ (t.f1[i].f1.length : Int) ∧ (t.f1[i].f1.length : Int) ≤ m.f1) && riseI 0 t.f1[i].f1 && !decide (∃ x ∈ t.f1.take i, x.f1 = t.f1[i].f1) && past m t.f0 t.f1[i].f0 (t.f1.take i ++ [t.f1[i]]) (t.f1.drop (i + 1))) := by
      intro b hb
      refine .s (fun k => maps_past.j51_s k _ _ _ _) ?_
      by_cases h : (0 ≤ t.f1[i].f0 ∧ t.f1[i].f0 < t.f0) ∧ preS t.f1 i < t.f1[i].f0 ∧ m.f2 ≤ (t.f1[i].f1.length : Int) ∧ (t.f1[i].f1.length : Int) ≤ m.f1
      · refine .n (fun e => (hb.1 e) h) ?_
        rw [decide_eq_true h, Bool.true_and]
        refine past_l61 m t i hl hs h1 _ ?_ ?_ ?_ t.f1[i].f1.length 0 (by omega) (by rw [List.drop_zero]; rfl)
        · intro h2 h3
          rw [h2, decide_eq_true h3]
          simp
        · intro h2 h3
          refine ih.v ?_
          rw [h2, decide_eq_false h3]
          simp
        · intro h2
          simp [h2]
      · refine .t (hb.2 h) (.cv ?_)
        rw [decide_eq_false h]
        simp
    clear ih
    have hp0 : i = 0 → preS t.f1 i = -1 := fun e => if_pos e
    have hp1 : i ≠ 0 → (nth T_api_Span.z t.f1 (w64 ((i : Int) - 1))).f0 = preS t.f1 i := fun e => (if_neg e).symm
    have hw : i ≠ 0 → w64 ((i : Int) - 1) = ((i - 1 : Nat) : Int) := fun e => w64p i (by omega) (by omega)
    have hw2 : w64 (t.f0 - 1) = t.f0 - 1 := w64_of (by omega) (by omega)
    rw [hw2]
    generalize hv : (decide ((0 ≤ t.f1[i].f0 ∧ t.f1[i].f0 < t.f0) ∧ preS t.f1 i < t.f1[i].f0 ∧ m.f2 ≤ (t.f1[i].f1.length : Int) ∧ (t.f1[i].f1.length : Int) ≤ m.f1) && riseI 0 t.f1[i].f1 && !decide (∃ x ∈ t.f1.take i, x.f1 = t.f1[i].f1) && past m t.f0 t.f1[i].f0 (t.f1.take i ++ [t.f1[i]]) (t.f1.drop (i + 1))) = v at hj ⊢
    clear hv
    generalize preS t.f1 i = p at *
    generalize (nth T_api_Span.z t.f1 (w64 ((i : Int) - 1))).f0 = q at *
    generalize t.f1[i] = n at *
    repeat' (first | refine Ev.b0 (min' _ _ _) ?_ | refine Ev.i (fun _ => ?_) (fun _ => ?_))
    all_goals simp only [decide_eq_true_eq] at *
    all_goals first
      | exact hj _ (by simp only [decide_eq_true_eq, Bool.false_eq_true, true_iff, false_iff, Bool.not_eq_true', decide_eq_false_iff_not]; omega)
      | (exfalso; omega)
theorem pastf (m : T_api_Map) (t : T_api_Trail) (hl : t.f1.length < 4611686018427387904) (hs : ∀ s ∈ t.f1, s.f1.length < 4611686018427387904) (ht : 0 ≤ t.f0 ∧ t.f0 ≤ 2147483647) : Ev (fun k => maps_past.f k m t) (past m t.f0 (-1) [] t.f1) := by
  unfold maps_past.f
  exact past_l9 m t hl hs ht t.f1.length 0 (by omega)
theorem trails_l11 (m : T_api_Map) (hm : Small m) (h0 : m.f0 ≤ 2147483647) : ∀ (d i : Nat), i + d = m.f6.length → Ev (fun k => maps_trails.l11 k m (i : Int)) (eno (trails m (m.f6.drop i))) := by
  have h6 := hm.h6
  intro d
  induction d with
  | zero =>
    intro i hi
    refine .s (fun k => maps_trails.l11_s k _ _) (.n (by omega) (.cv ?_))
    rw [List.drop_eq_nil_of_le (by omega)]
    rfl
  | succ d ih =>
    intro i hi
    have h1 : i < m.f6.length := by omega
    refine .s (fun k => maps_trails.l11_s k _ _) (.t (by omega) (.t (by omega) ?_))
    have ih := ih (i + 1) (by omega)
    rw [nth_get _ _ _ h1, List.drop_eq_getElem_cons h1, trails]
    refine .b0 (min' _ _ _) (.i (fun h => ?_) (fun h => ?_))
    · have h := of_decide_eq_true h
      refine .b (pastf m m.f6[i] (hm.hp _ (List.getElem_mem h1)) (hm.hs _ (List.getElem_mem h1)) (by omega)) (.s (fun k => maps_trails.j40_s k _ _ _) ?_)
      rw [decide_eq_true h, Bool.true_and, w64n i (by omega)]
      cases past m m.f6[i].f0 (-1) [] m.f6[i].f1 with
      | true => exact .n (by decide) ih
      | false => exact .t rfl (.c _)
    · refine .s (fun k => maps_trails.j40_s k _ _ _) (.t rfl (.cv ?_))
      have h : ¬ (0 ≤ m.f6[i].f0 ∧ m.f6[i].f0 ≤ m.f0) := fun e => h (decide_eq_true e)
      rw [decide_eq_false h]
      rfl
theorem trailsf (m : T_api_Map) (hm : Small m) (h0 : m.f0 ≤ 2147483647) : Ev (fun k => maps_trails.f k m) (eno (decide ((m.f6.length : Int) = m.f3 ∧ trails m m.f6 = true))) := by
  unfold maps_trails.f
  refine .i (fun h => (trails_l11 m hm h0 m.f6.length 0 (by omega)).v ?_) (fun h => .cv ?_)
  · rw [List.drop_zero]
    congr 1
    simp [h]
  · rw [decide_eq_false (fun e => h e.1)]
    rfl
theorem check_l36 (m : T_api_Map) (hm : Small m) (hf : Flat m) : ∀ (d i : Nat), i + d = m.f5.length → Ev (fun k => maps_Check.l36 k m (i : Int)) (eno (temps m (preT m.f5 i) (m.f5.drop i) && decide ((m.f6.length : Int) = m.f3 ∧ trails m m.f6 = true))) := by
  have h5 := hm.h5
  have hg := hf.2.2.2.1
  intro d
  induction d with
  | zero =>
    intro i hi
    refine .s (fun k => maps_Check.l36_s k _ _) (.n (by omega) (.b (trailsf m hm hf.1.2) (.cv ?_)))
    rw [List.drop_eq_nil_of_le (by omega)]
    rfl
  | succ d ih =>
    intro i hi
    have h1 : i < m.f5.length := by omega
    refine .s (fun k => maps_Check.l36_s k _ _) (.t (by omega) (.t (by omega) ?_))
    have ih := ih (i + 1) (by omega)
    rw [preT_succ _ i h1 h5] at ih
    rw [nth_get _ _ _ h1, List.drop_eq_getElem_cons h1, temps]
    have hj : ∀ b : Bool, (b = !(decide ((0 ≤ m.f5[i].f0 ∧ m.f5[i].f0 < m.f3) ∧ preT m.f5 i < m.f5[i].f0 ∧ 1 ≤ (m.f5[i].f1.length : Int) ∧ (m.f5[i].f1.length : Int) ≤ m.f1) && Topo.apartR m.f4 [] m.f5[i].f1)) → Ev (fun k => maps_Check.j85 k m (i : Int) b) (eno (((decide ((0 ≤ m.f5[i].f0 ∧ m.f5[i].f0 < m.f3) ∧ preT m.f5 i < m.f5[i].f0 ∧ 1 ≤ (m.f5[i].f1.length : Int) ∧ (m.f5[i].f1.length : Int) ≤ m.f1) && Topo.apartR m.f4 [] m.f5[i].f1) && temps m m.f5[i].f0 (m.f5.drop (i + 1))) && decide ((m.f6.length : Int) = m.f3 ∧ trails m m.f6 = true))) := by
      intro b hb
      refine .s (fun k => maps_Check.j85_s k _ _ _) ?_
      rw [w64n i (by omega)]
      generalize (decide ((0 ≤ m.f5[i].f0 ∧ m.f5[i].f0 < m.f3) ∧ preT m.f5 i < m.f5[i].f0 ∧ 1 ≤ (m.f5[i].f1.length : Int) ∧ (m.f5[i].f1.length : Int) ≤ m.f1) && Topo.apartR m.f4 [] m.f5[i].f1) = c at hb ⊢
      subst hb
      cases c with
      | true => exact .n (by decide) ih
      | false => exact .t rfl (.c _)
    clear ih
    have hj1 : ¬ ((0 ≤ m.f5[i].f0 ∧ m.f5[i].f0 < m.f3) ∧ preT m.f5 i < m.f5[i].f0 ∧ 1 ≤ (m.f5[i].f1.length : Int) ∧ (m.f5[i].f1.length : Int) ≤ m.f1) → Ev (fun k => maps_Check.j85 k m (i : Int) true) _ := fun h => hj true (by rw [decide_eq_false h]; rfl)
    have hj2 : ((0 ≤ m.f5[i].f0 ∧ m.f5[i].f0 < m.f3) ∧ preT m.f5 i < m.f5[i].f0 ∧ 1 ≤ (m.f5[i].f1.length : Int) ∧ (m.f5[i].f1.length : Int) ≤ m.f1) → Ev (fun k => (topo_Apart.f k m.f4 m.f5[i].f1).bind fun t75 => maps_Check.j85 k m (i : Int) (!t75)) _ := fun h => .b (Topo.apart m.f4 m.f5[i].f1 hm.h4 (by have := hf.2.1; omega)) (hj _ (by rw [decide_eq_true h, decide_eq_true hf.2.2.2.2]))
    have hp0 : i = 0 → preT m.f5 i = -1 := fun e => if_pos e
    have hp1 : i ≠ 0 → (nth T_api_Temp.z m.f5 (w64 ((i : Int) - 1))).f0 = preT m.f5 i := fun e => (if_neg e).symm
    have hw : i ≠ 0 → w64 ((i : Int) - 1) = ((i - 1 : Nat) : Int) := fun e => w64p i (by omega) (by omega)
    have hw2 : w64 (m.f3 - 1) = m.f3 - 1 := w64_of (by omega) (by omega)
    rw [hw2]
    clear hj
    generalize (eno (((decide ((0 ≤ m.f5[i].f0 ∧ m.f5[i].f0 < m.f3) ∧ preT m.f5 i < m.f5[i].f0 ∧ 1 ≤ (m.f5[i].f1.length : Int) ∧ (m.f5[i].f1.length : Int) ≤ m.f1) && Topo.apartR m.f4 [] m.f5[i].f1) && temps m m.f5[i].f0 (m.f5.drop (i + 1))) && decide ((m.f6.length : Int) = m.f3 ∧ trails m m.f6 = true))) = v at hj1 hj2 ⊢
    generalize preT m.f5 i = p at *
    generalize (nth T_api_Temp.z m.f5 (w64 ((i : Int) - 1))).f0 = q at *
    generalize m.f5[i] = n at *
    repeat' (first | refine Ev.b0 (min' _ _ _) ?_ | refine Ev.i (fun _ => ?_) (fun _ => ?_))
    all_goals simp only [decide_eq_true_eq] at *
    all_goals first
      | exact hj1 (by omega)
      | exact hj2 (by omega)
      | (exfalso; omega)
theorem check (m : T_api_Map) (hm : Small m) : Ev (fun k => maps_Check.f k m) (eno (decide (May m))) := by
  have hj1 : ¬ Flat m → Ev (fun k => maps_Check.j26 k m true) (eno (decide (May m))) := fun h => .s (fun k => maps_Check.j26_s k _ _) (.t rfl (.cv (by rw [decide_eq_false (fun e : May m => h e.1)]; rfl)))
  have hj2 : Flat m → Ev (fun k => maps_Check.j26 k m false) (eno (decide (May m))) := fun h => .s (fun k => maps_Check.j26_s k _ _) (.n (by decide) ((check_l36 m hm h m.f5.length 0 (by omega)).v (by
    rw [List.drop_zero]
    congr 1
    rw [Bool.eq_iff_iff, Bool.and_eq_true, decide_eq_true_eq, decide_eq_true_eq]
    exact ⟨fun e => ⟨h, e⟩, fun e => e.2⟩)))
  unfold maps_Check.f
  generalize eno (decide (May m)) = v at *
  unfold Flat at hj1 hj2
  refine .b0 (min' _ _ _) (.i (fun h => .b0 (min' _ _ _) (.i (fun h => .b0 (min' _ _ _) (.i (fun h => .b0 (min' _ _ _) (.i (fun h => .b (Topo.check m.f4 hm.h4) ?_) (fun h => ?_))) (fun h => ?_))) (fun h => ?_))) (fun h => ?_))
  all_goals simp only [decide_eq_true_eq] at *
  · by_cases hN : Topo.Nodes m.f4
    · rw [decide_eq_true hN]
      refine hj2 ⟨?_, ?_, ?_, ?_, hN⟩ <;> omega
    · rw [decide_eq_false hN]
      exact hj1 (fun e => hN e.2.2.2.2)
  all_goals refine hj1 (fun e => ?_)
  all_goals have := e.1
  all_goals have := e.2.1
  all_goals have := e.2.2.1
  all_goals have := e.2.2.2.1
  all_goals omega
/-! the same, as the document tells it -/
/-- A span's past so far, as the document looks at it: all ahead of it. -/
def ahead (s : T_api_Span) (seen : List T_api_Span) : Bool := decide (∀ x ∈ seen, x.f0 < s.f0 ∧ x.f1 ≠ s.f1)
def pastR (m : T_api_Map) (since : Int) : List T_api_Span → List T_api_Span → Bool
  | _, [] => true
  | seen, s :: l => (decide ((0 ≤ s.f0 ∧ s.f0 < since) ∧ m.f2 ≤ (s.f1.length : Int) ∧ (s.f1.length : Int) ≤ m.f1) && riseI 0 s.f1 && ahead s seen) && pastR m since (seen ++ [s]) l
theorem past_same (m : T_api_Map) (since : Int) : ∀ (l seen : List T_api_Span) (p : Int), (∀ x ∈ seen, x.f0 ≤ p) → (p = -1 ∨ ∃ x ∈ seen, x.f0 = p) → past m since p seen l = pastR m since seen l
  | [], _, _, _, _ => rfl
  | s :: l, seen, p, h1, h2 => by
    rw [past, pastR]
    by_cases h : (0 ≤ s.f0 ∧ s.f0 < since) ∧ p < s.f0 ∧ m.f2 ≤ (s.f1.length : Int) ∧ (s.f1.length : Int) ≤ m.f1
    · have h' : (0 ≤ s.f0 ∧ s.f0 < since) ∧ m.f2 ≤ (s.f1.length : Int) ∧ (s.f1.length : Int) ≤ m.f1 := ⟨h.1, h.2.2⟩
      have ha : (!decide (∃ x ∈ seen, x.f1 = s.f1)) = ahead s seen := by
        unfold ahead
        rw [Bool.eq_iff_iff, Bool.not_eq_true', decide_eq_false_iff_not, decide_eq_true_eq]
        exact ⟨fun e x hx => ⟨Int.lt_of_le_of_lt (h1 x hx) h.2.1, fun q => e ⟨x, hx, q⟩⟩, fun e ⟨x, hx, q⟩ => (e x hx).2 q⟩
      rw [decide_eq_true h, decide_eq_true h', ha, past_same m since l (seen ++ [s]) s.f0 ?_ (.inr ⟨s, by simp, rfl⟩)]
      · intro x hx
        rcases List.mem_append.1 hx with hx | hx
        · have := h1 x hx
          omega
        · simp only [List.mem_cons, List.not_mem_nil, or_false] at hx
          rw [hx]
          exact Int.le_refl _
    · rw [decide_eq_false h]
      simp only [Bool.false_and]
      by_cases h3 : (0 ≤ s.f0 ∧ s.f0 < since) ∧ m.f2 ≤ (s.f1.length : Int) ∧ (s.f1.length : Int) ≤ m.f1
      · have : ahead s seen = false := by
          unfold ahead
          rw [decide_eq_false_iff_not]
          intro e
          rcases h2 with rfl | ⟨x, hx, rfl⟩
          · exact h ⟨h3.1, by omega, h3.2⟩
          · exact h ⟨h3.1, (e x hx).1, h3.2⟩
        rw [this]
        simp
      · rw [decide_eq_false h3]
        simp
def trailsR (m : T_api_Map) : List T_api_Trail → Bool
  | [] => true
  | t :: l => (decide (0 ≤ t.f0 ∧ t.f0 ≤ m.f0) && pastR m t.f0 [] t.f1) && trailsR m l
theorem trails_same (m : T_api_Map) : ∀ l : List T_api_Trail, trails m l = trailsR m l
  | [] => rfl
  | t :: l => by
    rw [trails, trailsR, trails_same m l, past_same m t.f0 t.f1 [] (-1) (fun _ h => nomatch h) (.inl rfl)]
/-- What is to come behind a span of a trail. -/
def restR (m : T_api_Map) (i x : Nat) (t : T_api_Trail) : Bool := pastR m t.f0 (t.f1.take x) (t.f1.drop x) && trailsR m (m.f6.drop (i + 1)) && decide ((m.f6.length : Int) = m.f3)
theorem pasts_l113 (m : T_api_Map) (hm : Small m) (i x : Nat) (hi : i < m.f6.length) (hx : x < m.f6[i].f1.length) (w : Bool)
    (hy : ahead m.f6[i].f1[x] (m.f6[i].f1.take x) = false → w = false)
    (hn : ahead m.f6[i].f1[x] (m.f6[i].f1.take x) = true → Ev (fun k => windroseref08_pasts.l40 k m (i : Int) ((x + 1 : Nat) : Int)) w) :
    ∀ (d j : Nat), j + d = x → (∀ y ∈ m.f6[i].f1.take j, y.f0 < m.f6[i].f1[x].f0 ∧ y.f1 ≠ m.f6[i].f1[x].f1) → Ev (fun k => windroseref08_pasts.l113 k m (i : Int) (x : Int) (j : Int)) w := by
  have hz := nth_get T_api_Trail.z _ _ hi
  have hz2 := nth_get T_api_Span.z _ _ hx
  have hp := hm.hp _ (List.getElem_mem hi)
  have hs := hm.hs _ (List.getElem_mem hi)
  intro d
  induction d with
  | zero =>
    intro j hj h
    refine .s (fun k => windroseref08_pasts.l113_s k _ _ _ _) (.n (by omega) ?_)
    obtain rfl : j = x := by omega
    rw [w64n j (by omega)]
    exact hn (decide_eq_true h)
  | succ d ih =>
    intro j hj h
    have h1 : j < m.f6[i].f1.length := by omega
    refine .s (fun k => windroseref08_pasts.l113_s k _ _ _ _) ?_
    rw [hz, hz2, nth_get _ _ _ h1]
    refine .t (by omega) (.t (by omega) ?_)
    have hin : m.f6[i].f1[j] ∈ m.f6[i].f1.take x := List.mem_take_iff_getElem.2 ⟨j, by omega, rfl⟩
    refine .i (fun h2 => ?_) (fun h2 => .b (ints _ _ (hs _ (List.getElem_mem h1))) ?_)
    · refine .s (fun k => windroseref08_pasts.j137_s k _ _ _ _ _) (.t rfl (.cv (hy ?_).symm))
      exact decide_eq_false (fun e => by have := (e _ hin).1; omega)
    · refine .s (fun k => windroseref08_pasts.j137_s k _ _ _ _ _) (.i (fun h3 => .cv (hy ?_).symm) (fun h3 => ?_))
      · exact decide_eq_false (fun e => (e _ hin).2 (of_decide_eq_true h3))
      · rw [w64n j (by omega)]
        refine ih (j + 1) (by omega) ?_
        intro y hy
        rw [List.take_add_one, List.getElem?_eq_getElem h1, Option.toList_some] at hy
        rcases List.mem_append.1 hy with hy | hy
        · exact h y hy
        · simp only [List.mem_cons, List.not_mem_nil, or_false] at hy
          rw [hy]
          exact ⟨by omega, fun e => h3 (decide_eq_true e)⟩
theorem pasts_l76 (m : T_api_Map) (hm : Small m) (i x : Nat) (hi : i < m.f6.length) (hx : x < m.f6[i].f1.length) (w : Bool)
    (hc : riseI 0 m.f6[i].f1[x].f1 = true → Ev (fun k => windroseref08_pasts.l113 k m (i : Int) (x : Int) 0) w)
    (hr : riseI 0 m.f6[i].f1[x].f1 = false → w = false) : ∀ (d j : Nat), j + d = m.f6[i].f1[x].f1.length → (riseI 0 m.f6[i].f1[x].f1 = riseI (preI m.f6[i].f1[x].f1 j) (m.f6[i].f1[x].f1.drop j)) → Ev (fun k => windroseref08_pasts.l76 k m (i : Int) (x : Int) (j : Int)) w := by
  have hz := nth_get T_api_Trail.z _ _ hi
  have hz2 := nth_get T_api_Span.z _ _ hx
  have hsl := hm.hs _ (List.getElem_mem hi) _ (List.getElem_mem hx)
  generalize hs : m.f6[i].f1[x] = s at *
  intro d
  induction d with
  | zero =>
    intro j hj he
    refine .s (fun k => windroseref08_pasts.l76_s k _ _ _ _) ?_
    rw [hz, hz2]
    rw [List.drop_eq_nil_of_le (by omega)] at he
    exact .n (by omega) (hc he)
  | succ d ih =>
    intro j hj he
    have h1 : j < s.f1.length := by omega
    refine .s (fun k => windroseref08_pasts.l76_s k _ _ _ _) ?_
    rw [hz, hz2]
    refine .t (by omega) (.t (by omega) ?_)
    rw [List.drop_eq_getElem_cons h1] at he
    simp only [riseI] at he
    have hb : ∀ b : Bool, (b = true ↔ ¬ ((1 ≤ s.f1[j] ∧ s.f1[j] ≤ 999) ∧ preI s.f1 j < s.f1[j])) → Ev (fun k => windroseref08_pasts.j104 k m (i : Int) (x : Int) (j : Int) b) w := by
      intro b hb
      refine .s (fun k => windroseref08_pasts.j104_s k _ _ _ _ _) ?_
      by_cases h : (1 ≤ s.f1[j] ∧ s.f1[j] ≤ 999) ∧ preI s.f1 j < s.f1[j]
      · refine .n (fun e => (hb.1 e) h) ?_
        rw [w64n j (by omega)]
        refine ih (j + 1) (by omega) ?_
        rw [he, preI_succ _ j h1 hsl, decide_eq_true h, Bool.true_and]
      · refine .t (hb.2 h) (.cv (hr ?_).symm)
        rw [he, decide_eq_false h]
        simp
    clear he ih hr hc
    rw [nth_get _ _ _ h1]
    have hp0 : j = 0 → preI s.f1 j = 0 := fun e => if_pos e
    have hp1 : j ≠ 0 → nth 0 s.f1 (w64 ((j : Int) - 1)) = preI s.f1 j := fun e => (if_neg e).symm
    have hw : j ≠ 0 → w64 ((j : Int) - 1) = ((j - 1 : Nat) : Int) := fun e => w64p j (by omega) (by omega)
    generalize preI s.f1 j = p at *
    generalize nth 0 s.f1 (w64 ((j : Int) - 1)) = q at *
    generalize s.f1[j] = n at *
    clear hs hz hz2
    repeat' (first | refine Ev.i (fun _ => ?_) (fun _ => ?_))
    all_goals first
      | exact hb _ (by simp only [decide_eq_true_eq, Bool.false_eq_true, true_iff, false_iff]; omega)
      | (exfalso; omega)
theorem pasts_l40 (m : T_api_Map) (hm : Small m) (i : Nat) (hi : i < m.f6.length) (w : Bool → Bool)
    (hn : Ev (fun k => windroseref08_pasts.l7 k m ((i + 1 : Nat) : Int)) (w true)) (hw : w false = false) :
    ∀ (d j : Nat), j + d = m.f6[i].f1.length → Ev (fun k => windroseref08_pasts.l40 k m (i : Int) (j : Int)) (w (pastR m m.f6[i].f0 (m.f6[i].f1.take j) (m.f6[i].f1.drop j))) := by
  have hz := nth_get T_api_Trail.z _ _ hi
  have hp := hm.hp _ (List.getElem_mem hi)
  have h6 := hm.h6
  intro d
  induction d with
  | zero =>
    intro j hj
    refine .s (fun k => windroseref08_pasts.l40_s k _ _ _) ?_
    rw [hz]
    refine .n (by omega) ?_
    rw [List.drop_eq_nil_of_le (by omega), w64n i (by omega)]
    exact hn
  | succ d ih =>
    intro j hj
    have h1 : j < m.f6[i].f1.length := by omega
    refine .s (fun k => windroseref08_pasts.l40_s k _ _ _) ?_
    rw [hz]
    refine .t (by omega) (.t (by omega) ?_)
    have ih := ih (j + 1) (by omega)
    rw [List.take_add_one, List.getElem?_eq_getElem h1, Option.toList_some] at ih
    rw [nth_get _ _ _ h1, List.drop_eq_getElem_cons h1]
    simp only [pastR]
    have hb : ∀ b : Bool, (b = true ↔ ¬ ((0 ≤ m.f6[i].f1[j].f0 ∧ m.f6[i].f1[j].f0 < m.f6[i].f0) ∧ m.f2 ≤ (m.f6[i].f1[j].f1.length : Int) ∧ (m.f6[i].f1[j].f1.length : Int) ≤ m.f1)) → Ev (fun k => windroseref08_pasts.j66 k m (i : Int) (j : Int) b) (w ((decide ((0 ≤ m.f6[i].f1[j].f0 ∧ m.f6[i].f1[j].f0 < m.f6[i].f0) ∧ m.f2 ≤ (m.f6[i].f1[j].f1.length : Int) ∧ (m.f6[i].f1[j].f1.length : Int) ≤ m.f1) && riseI 0 m.f6[i].f1[j].f1 && ahead m.f6[i].f1[j] (m.f6[i].f1.take j)) && pastR m m.f6[i].f0 (m.f6[i].f1.take j ++ [m.f6[i].f1[j]]) (m.f6[i].f1.drop (j + 1)))) := by
      intro b hb
      refine .s (fun k => windroseref08_pasts.j66_s k _ _ _ _) ?_
      by_cases h : (0 ≤ m.f6[i].f1[j].f0 ∧ m.f6[i].f1[j].f0 < m.f6[i].f0) ∧ m.f2 ≤ (m.f6[i].f1[j].f1.length : Int) ∧ (m.f6[i].f1[j].f1.length : Int) ≤ m.f1
      · refine .n (fun e => (hb.1 e) h) ?_
        rw [decide_eq_true h, Bool.true_and]
        refine pasts_l76 m hm i j hi h1 _ ?_ ?_ m.f6[i].f1[j].f1.length 0 (by omega) (by rw [List.drop_zero]; rfl)
        · intro h2
          refine pasts_l113 m hm i j hi h1 _ ?_ ?_ j 0 (by omega) (fun _ hy => by rw [List.take_zero] at hy; cases hy)
          · intro h3
            rw [h3, Bool.and_false, Bool.false_and]
            exact hw
          · intro h3
            refine ih.v ?_
            rw [h2, h3]
            rfl
        · intro h2
          rw [h2]
          exact hw
      · refine .t (hb.2 h) (.cv ?_)
        rw [decide_eq_false h]
        exact hw.symm
    clear ih hn
    generalize (w ((decide ((0 ≤ m.f6[i].f1[j].f0 ∧ m.f6[i].f1[j].f0 < m.f6[i].f0) ∧ m.f2 ≤ (m.f6[i].f1[j].f1.length : Int) ∧ (m.f6[i].f1[j].f1.length : Int) ≤ m.f1) && riseI 0 m.f6[i].f1[j].f1 && ahead m.f6[i].f1[j] (m.f6[i].f1.take j)) && pastR m m.f6[i].f0 (m.f6[i].f1.take j ++ [m.f6[i].f1[j]]) (m.f6[i].f1.drop (j + 1)))) = v at hb ⊢
    generalize m.f6[i].f1[j] = n at *
    generalize m.f6[i].f0 = q at *
    clear hz
    repeat' (first | refine Ev.i (fun _ => ?_) (fun _ => ?_))
    all_goals first
      | exact hb _ (by simp only [decide_eq_true_eq, Bool.false_eq_true, true_iff, false_iff]; omega)
      | (exfalso; omega)
theorem pasts_l7 (m : T_api_Map) (hm : Small m) : ∀ (d i : Nat), i + d = m.f6.length → Ev (fun k => windroseref08_pasts.l7 k m (i : Int)) (trailsR m (m.f6.drop i) && decide ((m.f6.length : Int) = m.f3)) := by
  have h6 := hm.h6
  intro d
  induction d with
  | zero =>
    intro i hi
    refine .s (fun k => windroseref08_pasts.l7_s k _ _) (.n (by omega) (.cv ?_))
    rw [List.drop_eq_nil_of_le (by omega), trailsR, Bool.true_and]
    rw [Bool.eq_iff_iff, decide_eq_true_eq, beq_iff_eq]
  | succ d ih =>
    intro i hi
    have h1 : i < m.f6.length := by omega
    refine .s (fun k => windroseref08_pasts.l7_s k _ _) (.t (by omega) (.t (by omega) ?_))
    have ih := ih (i + 1) (by omega)
    rw [nth_get _ _ _ h1, List.drop_eq_getElem_cons h1, trailsR]
    have hj : ∀ b : Bool, (b = true ↔ ¬ (0 ≤ m.f6[i].f0 ∧ m.f6[i].f0 ≤ m.f0)) → Ev (fun k => windroseref08_pasts.j31 k m (i : Int) b) (decide (0 ≤ m.f6[i].f0 ∧ m.f6[i].f0 ≤ m.f0) && pastR m m.f6[i].f0 [] m.f6[i].f1 && trailsR m (m.f6.drop (i + 1)) && decide ((m.f6.length : Int) = m.f3)) := by
      intro b hb
      refine .s (fun k => windroseref08_pasts.j31_s k _ _ _) ?_
      by_cases h : 0 ≤ m.f6[i].f0 ∧ m.f6[i].f0 ≤ m.f0
      · refine .n (fun e => (hb.1 e) h) ?_
        rw [decide_eq_true h, Bool.true_and]
        have := pasts_l40 m hm i h1 (fun b => b && trailsR m (m.f6.drop (i + 1)) && decide ((m.f6.length : Int) = m.f3)) ih rfl m.f6[i].f1.length 0 (by omega)
        rw [List.take_zero, List.drop_zero] at this
        exact this
      · refine .t (hb.2 h) (.cv ?_)
        rw [decide_eq_false h]
        simp
    refine .i (fun h => hj _ ?_) (fun h => hj _ ?_)
    · simp only [true_iff]; omega
    · simp only [decide_eq_true_eq]; omega
theorem pasts (m : T_api_Map) (hm : Small m) : Ev (fun k => windroseref08_pasts.f k m) (decide ((m.f6.length : Int) = m.f3 ∧ trails m m.f6 = true)) := by
  unfold windroseref08_pasts.f
  refine (pasts_l7 m hm m.f6.length 0 (by omega)).v ?_
  rw [List.drop_zero, ← trails_same, Bool.eq_iff_iff, Bool.and_eq_true, decide_eq_true_eq, decide_eq_true_eq]
  exact And.comm
theorem may_l28 (m : T_api_Map) (hm : Small m) (hf : Flat m) : ∀ (d i : Nat), i + d = m.f5.length → Ev (fun k => windroseref08_May.l28 k m (i : Int)) (temps m (preT m.f5 i) (m.f5.drop i) && decide ((m.f6.length : Int) = m.f3 ∧ trails m m.f6 = true)) := by
  have h5 := hm.h5
  have hg := hf.2.2.2.1
  intro d
  induction d with
  | zero =>
    intro i hi
    refine .s (fun k => windroseref08_May.l28_s k _ _) (.n (by omega) (.b (pasts m hm) (.cv ?_)))
    rw [List.drop_eq_nil_of_le (by omega)]
    rfl
  | succ d ih =>
    intro i hi
    have h1 : i < m.f5.length := by omega
    refine .s (fun k => windroseref08_May.l28_s k _ _) (.t (by omega) (.t (by omega) ?_))
    have ih := ih (i + 1) (by omega)
    rw [preT_succ _ i h1 h5] at ih
    rw [nth_get _ _ _ h1, List.drop_eq_getElem_cons h1, temps]
    have hj : ∀ b : Bool, (b = !(decide ((0 ≤ m.f5[i].f0 ∧ m.f5[i].f0 < m.f3) ∧ preT m.f5 i < m.f5[i].f0 ∧ 1 ≤ (m.f5[i].f1.length : Int) ∧ (m.f5[i].f1.length : Int) ≤ m.f1) && Topo.apartR m.f4 [] m.f5[i].f1)) → Ev (fun k => windroseref08_May.j71 k m (i : Int) b) (((decide ((0 ≤ m.f5[i].f0 ∧ m.f5[i].f0 < m.f3) ∧ preT m.f5 i < m.f5[i].f0 ∧ 1 ≤ (m.f5[i].f1.length : Int) ∧ (m.f5[i].f1.length : Int) ≤ m.f1) && Topo.apartR m.f4 [] m.f5[i].f1) && temps m m.f5[i].f0 (m.f5.drop (i + 1))) && decide ((m.f6.length : Int) = m.f3 ∧ trails m m.f6 = true)) := by
      intro b hb
      refine .s (fun k => windroseref08_May.j71_s k _ _ _) ?_
      rw [w64n i (by omega)]
      generalize (decide ((0 ≤ m.f5[i].f0 ∧ m.f5[i].f0 < m.f3) ∧ preT m.f5 i < m.f5[i].f0 ∧ 1 ≤ (m.f5[i].f1.length : Int) ∧ (m.f5[i].f1.length : Int) ≤ m.f1) && Topo.apartR m.f4 [] m.f5[i].f1) = c at hb ⊢
      subst hb
      cases c with
      | true => exact .n (by decide) ih
      | false => exact .t rfl (.c _)
    clear ih
    have hj1 : ¬ ((0 ≤ m.f5[i].f0 ∧ m.f5[i].f0 < m.f3) ∧ preT m.f5 i < m.f5[i].f0 ∧ 1 ≤ (m.f5[i].f1.length : Int) ∧ (m.f5[i].f1.length : Int) ≤ m.f1) → Ev (fun k => windroseref08_May.j71 k m (i : Int) true) _ := fun h => hj true (by rw [decide_eq_false h]; rfl)
    have hj2 : ((0 ≤ m.f5[i].f0 ∧ m.f5[i].f0 < m.f3) ∧ preT m.f5 i < m.f5[i].f0 ∧ 1 ≤ (m.f5[i].f1.length : Int) ∧ (m.f5[i].f1.length : Int) ≤ m.f1) → Ev (fun k => (windroseref06_Apart.f k m.f4 m.f5[i].f1).bind fun t75 => windroseref08_May.j71 k m (i : Int) (!t75)) _ := fun h => .b (Topo.refapart m.f4 m.f5[i].f1 hm.h4 (by have := hf.2.1; omega)) (hj _ (by rw [decide_eq_true h]; rfl))
    have hp0 : i = 0 → preT m.f5 i = -1 := fun e => if_pos e
    have hp1 : i ≠ 0 → (nth T_api_Temp.z m.f5 (w64 ((i : Int) - 1))).f0 = preT m.f5 i := fun e => (if_neg e).symm
    have hw : i ≠ 0 → w64 ((i : Int) - 1) = ((i - 1 : Nat) : Int) := fun e => w64p i (by omega) (by omega)
    clear hj
    generalize (((decide ((0 ≤ m.f5[i].f0 ∧ m.f5[i].f0 < m.f3) ∧ preT m.f5 i < m.f5[i].f0 ∧ 1 ≤ (m.f5[i].f1.length : Int) ∧ (m.f5[i].f1.length : Int) ≤ m.f1) && Topo.apartR m.f4 [] m.f5[i].f1) && temps m m.f5[i].f0 (m.f5.drop (i + 1))) && decide ((m.f6.length : Int) = m.f3 ∧ trails m m.f6 = true)) = v at hj1 hj2 ⊢
    generalize preT m.f5 i = p at *
    generalize (nth T_api_Temp.z m.f5 (w64 ((i : Int) - 1))).f0 = q at *
    generalize m.f5[i] = n at *
    repeat' (first | refine Ev.i (fun _ => ?_) (fun _ => ?_))
    all_goals first
      | exact hj1 (by omega)
      | exact hj2 (by omega)
      | (exfalso; omega)
theorem may (m : T_api_Map) (hm : Small m) : Ev (fun k => windroseref08_May.f k m) (decide (May m)) := by
  have hj1 : ¬ Flat m → Ev (fun k => windroseref08_May.j18 k m true) (decide (May m)) := fun h => .s (fun k => windroseref08_May.j18_s k _ _) (.t rfl (.cv (decide_eq_false (fun e : May m => h e.1)).symm))
  have hj2 : Flat m → Ev (fun k => windroseref08_May.j18 k m false) (decide (May m)) := fun h => .s (fun k => windroseref08_May.j18_s k _ _) (.n (by decide) ((may_l28 m hm h m.f5.length 0 (by omega)).v (by
    rw [List.drop_zero, Bool.eq_iff_iff, Bool.and_eq_true, decide_eq_true_eq, decide_eq_true_eq]
    exact ⟨fun e => ⟨h, e⟩, fun e => e.2⟩)))
  have hj3 : (0 ≤ m.f0 ∧ m.f0 ≤ 2147483647) ∧ (1 ≤ m.f1 ∧ m.f1 ≤ 3) ∧ (1 ≤ m.f2 ∧ m.f2 ≤ m.f1) ∧ (1 ≤ m.f3 ∧ m.f3 ≤ 8) → Ev (fun k => (windroseref06_May.f k m.f4).bind fun t15 => windroseref08_May.j18 k m (!t15)) (decide (May m)) := by
    intro h
    refine .b (Topo.may m.f4 hm.h4) ?_
    by_cases hN : Topo.Nodes m.f4
    · rw [decide_eq_true hN]
      exact hj2 ⟨h.1, h.2.1, h.2.2.1, h.2.2.2, hN⟩
    · rw [decide_eq_false hN]
      exact hj1 (fun e => hN e.2.2.2.2)
  unfold windroseref08_May.f
  generalize decide (May m) = v at *
  have hj4 : ¬ ((0 ≤ m.f0 ∧ m.f0 ≤ 2147483647) ∧ (1 ≤ m.f1 ∧ m.f1 ≤ 3) ∧ (1 ≤ m.f2 ∧ m.f2 ≤ m.f1) ∧ (1 ≤ m.f3 ∧ m.f3 ≤ 8)) → Ev (fun k => windroseref08_May.j18 k m true) v := fun h => hj1 (fun e => h ⟨e.1, e.2.1, e.2.2.1, e.2.2.2.1⟩)
  clear hj1 hj2
  repeat' (first | refine Ev.i (fun _ => ?_) (fun _ => ?_))
  all_goals first
    | exact hj4 (by omega)
    | exact hj3 (by omega)

/-! a search among what rises -/
def posG {α : Type} (key : α → Int) (x : Int) : List α → Nat
  | [] => 0
  | c :: r => if key c < x then posG key x r + 1 else 0
theorem posG_le {α : Type} (key : α → Int) (x : Int) : ∀ l : List α, posG key x l ≤ l.length
  | [] => Nat.le_refl _
  | c :: r => by
    unfold posG
    have := posG_le key x r
    rw [List.length_cons]
    split <;> omega
theorem posG_lt {α : Type} (key : α → Int) (x : Int) : ∀ (l : List α) (i : Nat) (h : i < l.length), i < posG key x l → key l[i] < x
  | [], _, h, _ => nomatch h
  | c :: r, i, h, hi => by
    unfold posG at hi
    split at hi
    · cases i with
      | zero => assumption
      | succ i => exact posG_lt key x r i (by simpa using h) (by omega)
    · omega
theorem posG_ge {α : Type} (key : α → Int) (x : Int) : ∀ (l : List α), l.Pairwise (fun a b => key a < key b) → ∀ (i : Nat) (h : i < l.length), posG key x l ≤ i → x ≤ key l[i]
  | [], _, _, h, _ => nomatch h
  | c :: r, hp, i, h, hi => by
    obtain ⟨h1, h2⟩ := List.pairwise_cons.1 hp
    unfold posG at hi
    split at hi
    · cases i with
      | zero => omega
      | succ i => exact posG_ge key x r h2 i (by simpa using h) (by omega)
    · cases i with
      | zero => rename_i hc; exact Int.not_lt.1 hc
      | succ i =>
        rename_i hc
        have hr : i < r.length := by simpa using h
        have := h1 _ (List.getElem_mem hr)
        show x ≤ key r[i]
        omega
theorem cmpG (a b : Int) : cmp_Compare_int.f a b = some (if a < b then -1 else if a > b then 1 else 0) := by
  unfold cmp_Compare_int.f cmp_isNaN_int.f
  simp only [beq_self_eq_true, Bool.not_true, Option.bind_some, Bool.false_eq_true, if_false]
  by_cases h : a < b
  · rw [if_pos h, if_pos h]
  · rw [if_neg h, if_neg h]
    by_cases h2 : a > b
    · rw [if_pos h2, if_pos h2]
    · rw [if_neg h2, if_neg h2]
theorem midG (a b : Nat) (h : a + b < 4611686018427387904) : w64 ((IntKind.u64.wrap (w64 ((a : Int) + b))).fdiv 2) = ((a + b) / 2 : Nat) := by
  have e : w64 ((a : Int) + b) = ((a + b : Nat) : Int) := by rw [w64_of (by omega) (by omega)]; omega
  have e2 : IntKind.u64.wrap ((a + b : Nat) : Int) = ((a + b : Nat) : Int) := by rw [IntKind.wrap_u64]; omega
  rw [e, e2, Int.fdiv_eq_ediv_of_nonneg _ (by omega), w64_of (by omega) (by omega)]
  omega
/-- What a search finds. -/
def foundG {α : Type} (key : α → Int) (x : Int) (l : List α) : Int × Bool := ((posG key x l : Int), match l[posG key x l]? with
  | some c => key c == x
  | none => false)
theorem searchG {α : Type} (z : α) (key : α → Int) (x : Int) (cmpO : α → Int → Option Int) (hcmp : ∀ a, cmpO a x = some (if key a < x then -1 else if key a > x then 1 else 0)) (l : List α) (L : Nat → Int → Int → Option (Int × Bool))
    (hL : ∀ k a b, L (k + 1) a b = (if a < b then (if 0 ≤ (w64 ((IntKind.u64.wrap (w64 (a + b))).fdiv 2)) ∧ (w64 ((IntKind.u64.wrap (w64 (a + b))).fdiv 2)) < (l.length : Int) then ((cmpO (nth z l (w64 ((IntKind.u64.wrap (w64 (a + b))).fdiv 2))) x).bind fun t22 => (if t22 < 0 then (L k (w64 ((w64 ((IntKind.u64.wrap (w64 (a + b))).fdiv 2)) + 1)) b) else (L k a (w64 ((IntKind.u64.wrap (w64 (a + b))).fdiv 2))))) else (none)) else (if a < (l.length : Int) then (if 0 ≤ a ∧ a < (l.length : Int) then ((cmpO (nth z l a) x).bind fun t33 => (some (a, (t33 == 0)))) else (none)) else (some (a, false)))))
    (hl : l.length < 1000000) (hp : l.Pairwise (fun a b => key a < key b)) : ∀ (d a b : Nat), b - a ≤ d → a ≤ posG key x l → posG key x l ≤ b → b ≤ l.length → Ev (fun k => L k (a : Int) (b : Int)) (foundG key x l) := by
  intro d
  induction d with
  | zero =>
    intro a b hd h1 h2 h3
    obtain rfl : a = b := by omega
    obtain rfl : a = posG key x l := by omega
    unfold foundG
    refine .s (fun k => hL k _ _) (.n (by omega) ?_)
    by_cases h4 : posG key x l < l.length
    · refine .t (by omega) (.t (by omega) ?_)
      rw [nth_get _ _ _ h4, List.getElem?_eq_getElem h4]
      refine .b0 (hcmp _) (.cv ?_)
      have := posG_ge key x l hp _ h4 (Nat.le_refl _)
      by_cases h5 : key l[posG key x l] = x
      · simp [h5]
      · rw [if_neg (by omega), if_pos (by omega)]
        simp [h5]
    · rw [List.getElem?_eq_none (by omega)]
      exact .n (by omega) (.c _)
  | succ d ih =>
    intro a b hd h1 h2 h3
    by_cases hab : a < b
    · refine .s (fun k => hL k _ _) (.t (by omega) ?_)
      rw [midG a b (by omega)]
      have h4 : (a + b) / 2 < l.length := by omega
      refine .t (by omega) ?_
      rw [nth_get _ _ _ h4]
      refine .b0 (hcmp _) ?_
      by_cases h5 : key l[(a + b) / 2] < x
      · rw [if_pos h5, w64n _ (by omega)]
        refine .t (by decide) (ih _ _ (by omega) ?_ h2 h3)
        rcases Nat.lt_or_ge ((a + b) / 2) (posG key x l) with c | c
        · omega
        · have := posG_ge key x l hp _ h4 c
          omega
      · rw [if_neg h5]
        refine .n (by split <;> decide) (ih _ _ (by omega) h1 ?_ (by omega))
        rcases Nat.lt_or_ge ((a + b) / 2) (posG key x l) with c | c
        · exact absurd (posG_lt key x l _ h4 c) h5
        · exact c
    · exact ih a b (by omega) h1 h2 h3
/-- A search finds what stands there. -/
theorem found_find {α : Type} (key : α → Int) (x : Int) : ∀ (l : List α), l.Pairwise (fun a b => key a < key b) → ((∃ h : posG key x l < l.length, key l[posG key x l] = x ∧ (foundG key x l).2 = true ∧ l.find? (fun c => decide (key c = x)) = some l[posG key x l]) ∨ ((foundG key x l).2 = false ∧ l.find? (fun c => decide (key c = x)) = none))
  | [], _ => .inr ⟨rfl, rfl⟩
  | c :: r, hp => by
    obtain ⟨h1, h2⟩ := List.pairwise_cons.1 hp
    by_cases hc : key c < x
    · have e : posG key x (c :: r) = posG key x r + 1 := by rw [posG, if_pos hc]
      have ef : (foundG key x (c :: r)).2 = (foundG key x r).2 := by unfold foundG; rw [e]; rfl
      have en : (c :: r).find? (fun c => decide (key c = x)) = r.find? (fun c => decide (key c = x)) := List.find?_cons_of_neg (by simp; omega)
      rw [ef, en]
      rcases found_find key x r h2 with ⟨h, q1, q2, q3⟩ | q
      · refine .inl ⟨by rw [e, List.length_cons]; omega, ?_⟩
        simp only [e, List.getElem_cons_succ]
        exact ⟨q1, q2, q3⟩
      · exact .inr q
    · have e : posG key x (c :: r) = 0 := by rw [posG, if_neg hc]
      by_cases hx : key c = x
      · refine .inl ⟨by rw [e]; simp, ?_⟩
        simp only [e, List.getElem_cons_zero]
        refine ⟨hx, ?_, List.find?_cons_of_pos (by simpa using hx)⟩
        unfold foundG
        rw [e]
        simpa using hx
      · refine .inr ⟨?_, List.find?_eq_none.2 (fun y hy => ?_)⟩
        · unfold foundG
          rw [e]
          simpa using hx
        · rcases List.mem_cons.1 hy with rfl | hy
          · simpa using hx
          · have := h1 y hy
            simp
            omega

/-! maps, one behind the other, plainly -/
def tempOf (m : T_api_Map) (g : Int) : List Int := match m.f5.find? (fun t => decide (t.f0 = g)) with
  | some t => t.f1
  | none => []
def rawL (m : T_api_Map) (g : Int) : List Int := if tempOf m g = [] then Place.ofCommon m.f4 g m.f1 else tempOf m g
def upN (l : List T_api_Node) (id : Int) : Bool := (Topo.find l id).1.f4
def actL (m : T_api_Map) (g : Int) : List Int := (rawL m g).filter (upN m.f4)
def rising (l : List Int) : List Int := sortL (fun a b => decide (a < b)) l
def followT (t : T_api_Trail) (was now : List Int) (least epoch : Int) : T_api_Trail :=
  if was = now then t else ⟨epoch, if least ≤ (was.length : Int) then t.f1.filter (fun s => !decide (s.f1 = rising was)) ++ [⟨t.f0, rising was⟩] else t.f1⟩
def putN (n : T_api_Node) : List T_api_Node → List T_api_Node
  | [] => [n]
  | x :: r => if x.f0 < n.f0 then x :: putN n r else if x.f0 = n.f0 then n :: r else n :: x :: r
def dropN (id : Int) (l : List T_api_Node) : List T_api_Node := l.filter (fun x => !decide (x.f0 = id))
def pinT (g : Int) (ns : List Int) : List T_api_Temp → List T_api_Temp
  | [] => if ns = [] then [] else [⟨g, ns⟩]
  | t :: r => if t.f0 < g then t :: pinT g ns r else (if ns = [] then [] else [(⟨g, ns⟩ : T_api_Temp)]) ++ (if t.f0 = g then r else t :: r)
def withN (m : T_api_Map) (l : List T_api_Node) : T_api_Map := ⟨m.f0, m.f1, m.f2, m.f3, l, m.f5, m.f6⟩
def withT (m : T_api_Map) (l : List T_api_Temp) : T_api_Map := ⟨m.f0, m.f1, m.f2, m.f3, m.f4, l, m.f6⟩
def withP (m : T_api_Map) (l : List T_api_Trail) : T_api_Map := ⟨m.f0, m.f1, m.f2, m.f3, m.f4, m.f5, l⟩
/-- Is a node pinned, or of a span? -/
def held (m : T_api_Map) (id : Int) : Bool := m.f5.any (fun t => decide (id ∈ t.f1)) || m.f6.any (fun t => t.f1.any (fun s => decide (id ∈ s.f1)))
def nodeL (m : T_api_Map) (n : T_api_Node) (d : T_api_Delta) : T_api_Map × Int :=
  if d.f0 = 2 then (if 0 ≤ d.f4 ∧ d.f4 ≤ 65536 then (if n.f3 = d.f4 then (m, 7) else (withN m (putN ⟨n.f0, n.f1, n.f2, d.f4, n.f4, n.f5⟩ m.f4), 0)) else (m, 1))
  else if d.f0 = 3 ∨ d.f0 = 4 then (if n.f4 = decide (d.f0 = 3) then (m, 7) else (withN m (putN ⟨n.f0, n.f1, n.f2, n.f3, decide (d.f0 = 3), n.f5⟩ m.f4), 0))
  else if d.f0 = 5 ∨ d.f0 = 6 then (if n.f5 = decide (d.f0 = 6) then (m, 7) else (withN m (putN ⟨n.f0, n.f1, n.f2, n.f3, n.f4, decide (d.f0 = 6)⟩ m.f4), 0))
  else if n.f4 = true ∨ (n.f5 = true ∧ n.f3 > 0) ∨ held m d.f1 = true then (m, 11) else (withN m (dropN d.f1 m.f4), 0)
def addN (d : T_api_Delta) : T_api_Node := ⟨d.f1, d.f2, d.f3, d.f4, false, true⟩
def addL (m : T_api_Map) (d : T_api_Delta) : T_api_Map × Int :=
  if (Topo.find m.f4 d.f1).2 = true then (m, 7) else if m.f4.length = 12 then (m, 6) else if Topo.Nodes (putN (addN d) m.f4) then (withN m (putN (addN d) m.f4), 0) else (m, 1)
def pinL (m : T_api_Map) (d : T_api_Delta) : T_api_Map × Int :=
  if 0 ≤ d.f5 ∧ d.f5 < m.f3 ∧ (d.f6.length : Int) ≤ m.f1 then (if tempOf m d.f5 = d.f6 then (m, 7) else if Topo.apartR m.f4 [] d.f6 = true then (withT m (pinT d.f5 d.f6 m.f5), 0) else (m, 12)) else (m, 1)
def cleanL (m : T_api_Map) (d : T_api_Delta) : T_api_Map × Int :=
  if 0 ≤ d.f5 ∧ d.f5 < m.f3 then (if (nth T_api_Trail.z m.f6 d.f5).f0 ≠ d.f4 then (m, 5) else if (nth T_api_Trail.z m.f6 d.f5).f1 = [] then (m, 7) else (withP m (m.f6.set d.f5.toNat ⟨(nth T_api_Trail.z m.f6 d.f5).f0, []⟩), 0)) else (m, 1)
def turnedL (m : T_api_Map) (d : T_api_Delta) : T_api_Map × Int :=
  if d.f0 = 1 then addL m d else if d.f0 = 8 then pinL m d else if d.f0 = 9 then (m, 0) else if d.f0 = 10 then cleanL m d
  else match m.f4.find? (fun n => decide (n.f0 = d.f1)) with
    | some n => nodeL m n d
    | none => (m, 5)
def bareD (d : T_api_Delta) : Prop :=
  if d.f0 = 1 then d.f5 = 0 ∧ d.f6 = []
  else if d.f0 = 2 then d.f2 = 0 ∧ d.f3 = 0 ∧ d.f5 = 0 ∧ d.f6 = []
  else if d.f0 = 10 then d.f1 = 0 ∧ d.f2 = 0 ∧ d.f3 = 0 ∧ d.f6 = []
  else if d.f0 = 8 then d.f1 = 0 ∧ d.f2 = 0 ∧ d.f3 = 0 ∧ d.f4 = 0
  else (d.f2 = 0 ∧ d.f3 = 0 ∧ d.f4 = 0 ∧ d.f5 = 0 ∧ d.f6 = []) ∧ (d.f0 = 9 → d.f1 = 0)
instance (d : T_api_Delta) : Decidable (bareD d) := by unfold bareD; infer_instance
def followL (m x : T_api_Map) : List T_api_Trail := x.f6.mapIdx (fun g t => followT t (actL m g) (actL x g) m.f2 (m.f0 + 1))
def applyL (m : T_api_Map) (d : T_api_Delta) : T_api_Map × Int :=
  if (1 ≤ d.f0 ∧ d.f0 ≤ 10) ∧ bareD d then (if m.f0 = 2147483647 then (m, 6) else if (turnedL m d).2 = 0 then (⟨m.f0 + 1, m.f1, m.f2, m.f3, (turnedL m d).1.f4, (turnedL m d).1.f5, followL m (turnedL m d).1⟩, 0) else (m, (turnedL m d).2)) else (m, 1)
def nextL (m : T_api_Map) (d : T_api_Delta) : T_api_Map := if (applyL m d).2 ≠ 0 ∧ m.f0 < 2147483647 then ⟨m.f0 + 1, m.f1, m.f2, m.f3, m.f4, m.f5, m.f6⟩ else (applyL m d).1

/-! what may be behind what may be -/
theorem rise_of : ∀ (p : Int) (l : List T_api_Node), (∀ n ∈ l, Topo.okN n) → l.Pairwise (fun x y => x.f0 < y.f0) → (∀ n ∈ l, p < n.f0) → Topo.rise p l = true
  | _, [], _, _, _ => rfl
  | p, n :: l, h1, h2, h3 => by
    obtain ⟨q1, q2⟩ := List.pairwise_cons.1 h2
    rw [Topo.rise, decide_eq_true ⟨h1 n List.mem_cons_self, h3 n List.mem_cons_self⟩, Bool.true_and]
    exact rise_of n.f0 l (fun m hm => h1 m (List.mem_cons_of_mem _ hm)) q2 q1
theorem nodes_of {l : List T_api_Node} (h0 : l.length ≤ 12) (h1 : ∀ n ∈ l, Topo.okN n) (h2 : l.Pairwise (fun x y => x.f0 < y.f0)) : Topo.Nodes l :=
  ⟨h0, rise_of 0 l h1 h2 (fun n hn => by have := h1 n hn; unfold Topo.okN at this; omega)⟩
theorem drop_nodes {l : List T_api_Node} (h : Topo.Nodes l) (id : Int) : Topo.Nodes (dropN id l) :=
  nodes_of (Nat.le_trans (List.length_filter_le _ _) h.1) (fun n hn => h.ok n (List.mem_filter.1 hn).1) (h.up.filter _)
theorem put_mem (n : T_api_Node) : ∀ (l : List T_api_Node) (x : T_api_Node), x ∈ putN n l → x = n ∨ x ∈ l
  | [], x, h => .inl (List.mem_singleton.1 h)
  | y :: r, x, h => by
    unfold putN at h
    split at h
    · rcases List.mem_cons.1 h with rfl | h
      · exact .inr List.mem_cons_self
      · rcases put_mem n r x h with e | e
        · exact .inl e
        · exact .inr (List.mem_cons_of_mem _ e)
    · split at h
      · rcases List.mem_cons.1 h with rfl | h
        · exact .inl rfl
        · exact .inr (List.mem_cons_of_mem _ h)
      · rcases List.mem_cons.1 h with rfl | h
        · exact .inl rfl
        · exact .inr h
theorem put_up (n : T_api_Node) : ∀ (l : List T_api_Node), l.Pairwise (fun x y => x.f0 < y.f0) → (putN n l).Pairwise (fun x y => x.f0 < y.f0)
  | [], _ => List.pairwise_singleton _ _
  | y :: r, h => by
    obtain ⟨h1, h2⟩ := List.pairwise_cons.1 h
    unfold putN
    by_cases c : y.f0 < n.f0
    · rw [if_pos c]
      refine List.pairwise_cons.2 ⟨fun x hx => ?_, put_up n r h2⟩
      rcases put_mem n r x hx with rfl | hx
      · exact c
      · exact h1 x hx
    · rw [if_neg c]
      by_cases c2 : y.f0 = n.f0
      · rw [if_pos c2]
        exact List.pairwise_cons.2 ⟨fun x hx => by have := h1 x hx; omega, h2⟩
      · rw [if_neg c2]
        refine List.pairwise_cons.2 ⟨fun x hx => ?_, h⟩
        rcases List.mem_cons.1 hx with rfl | hx
        · omega
        · have := h1 x hx; omega
theorem put_len (n : T_api_Node) : ∀ (l : List T_api_Node), (∃ x ∈ l, x.f0 = n.f0) → l.Pairwise (fun x y => x.f0 < y.f0) → (putN n l).length = l.length
  | [], h, _ => by obtain ⟨_, h, _⟩ := h; cases h
  | y :: r, h, hp => by
    obtain ⟨h1, h2⟩ := List.pairwise_cons.1 hp
    unfold putN
    by_cases c : y.f0 < n.f0
    · rw [if_pos c, List.length_cons, List.length_cons, put_len n r ?_ h2]
      obtain ⟨x, hx, e⟩ := h
      rcases List.mem_cons.1 hx with rfl | hx
      · omega
      · exact ⟨x, hx, e⟩
    · rw [if_neg c]
      obtain ⟨x, hx, e⟩ := h
      rcases List.mem_cons.1 hx with rfl | hx
      · rw [if_pos e, List.length_cons, List.length_cons]
      · have := h1 x hx; omega
theorem put_nodes {l : List T_api_Node} (h : Topo.Nodes l) {n : T_api_Node} (hn : Topo.okN n) (he : ∃ x ∈ l, x.f0 = n.f0) : Topo.Nodes (putN n l) :=
  nodes_of (by rw [put_len n l he h.up]; exact h.1) (fun x hx => by
    rcases put_mem n l x hx with rfl | hx
    · exact hn
    · exact h.ok x hx) (put_up n l h.up)
theorem put_find (n : T_api_Node) (id : Int) : ∀ (l : List T_api_Node), l.Pairwise (fun x y => x.f0 < y.f0) → (putN n l).find? (fun x => decide (x.f0 = id)) = if n.f0 = id then some n else l.find? (fun x => decide (x.f0 = id))
  | [], _ => by
    unfold putN
    rw [List.find?_cons]
    by_cases c : n.f0 = id
    · simp [c]
    · simp [c]
  | y :: r, hp => by
    obtain ⟨h1, h2⟩ := List.pairwise_cons.1 hp
    unfold putN
    by_cases c : y.f0 < n.f0
    · rw [if_pos c, List.find?_cons, List.find?_cons, put_find n id r h2]
      by_cases d : n.f0 = id
      · have : ¬ y.f0 = id := by omega
        simp [d, this]
      · simp [d]
    · rw [if_neg c]
      by_cases c2 : y.f0 = n.f0
      · rw [if_pos c2, List.find?_cons, List.find?_cons]
        by_cases d : n.f0 = id
        · simp [d]
        · have : ¬ y.f0 = id := by omega
          simp [d, this]
      · rw [if_neg c2, List.find?_cons]
        by_cases d : n.f0 = id
        · simp [d]
        · simp [d]
theorem drop_find (i id : Int) (l : List T_api_Node) (h : id ≠ i) : (dropN i l).find? (fun x => decide (x.f0 = id)) = l.find? (fun x => decide (x.f0 = id)) := by
  unfold dropN
  rw [List.find?_filter]
  congr 1
  funext x
  by_cases c : x.f0 = id
  · simp [c, h]
  · simp [c]
theorem apart_congr {l l' : List T_api_Node} : ∀ (ids met : List Int), (∀ id ∈ ids, ∀ n, l.find? (fun x => decide (x.f0 = id)) = some n → ∃ n', l'.find? (fun x => decide (x.f0 = id)) = some n' ∧ n'.f1 = n.f1) → Topo.apartR l met ids = true → Topo.apartR l' met ids = true
  | [], _, _, _ => rfl
  | id :: r, met, h, ha => by
    rw [Topo.apartR] at ha ⊢
    cases hf : l.find? (fun x => decide (x.f0 = id)) with
    | none => rw [hf] at ha; cases ha
    | some n =>
      rw [hf] at ha
      obtain ⟨n', e1, e2⟩ := h id List.mem_cons_self n hf
      rw [e1]
      dsimp only at ha ⊢
      rw [Bool.and_eq_true] at ha ⊢
      rw [e2]
      exact ⟨ha.1, apart_congr r _ (fun i hi => h i (List.mem_cons_of_mem _ hi)) ha.2⟩
/-- What temps there may be. -/
theorem temps_iff (m : T_api_Map) : ∀ (l : List T_api_Temp) (p : Int), temps m p l = true ↔ (∀ t ∈ l, ((0 ≤ t.f0 ∧ t.f0 < m.f3) ∧ (1 ≤ (t.f1.length : Int) ∧ (t.f1.length : Int) ≤ m.f1)) ∧ Topo.apartR m.f4 [] t.f1 = true) ∧ l.Pairwise (fun x y => x.f0 < y.f0) ∧ ∀ t ∈ l, p < t.f0
  | [], p => ⟨fun _ => ⟨(fun _ h => nomatch h), List.Pairwise.nil, (fun _ h => nomatch h)⟩, fun _ => rfl⟩
  | t :: l, p => by
    rw [temps, Bool.and_eq_true, Bool.and_eq_true, decide_eq_true_eq, temps_iff m l t.f0, List.pairwise_cons]
    constructor
    · rintro ⟨⟨h1, h2⟩, h3, h4, h5⟩
      refine ⟨fun x hx => ?_, ⟨h5, h4⟩, fun x hx => ?_⟩
      · rcases List.mem_cons.1 hx with rfl | hx
        · exact ⟨⟨h1.1, h1.2.2⟩, h2⟩
        · exact h3 x hx
      · rcases List.mem_cons.1 hx with rfl | hx
        · exact h1.2.1
        · have := h5 x hx; have := h1.2.1; omega
    · rintro ⟨h1, ⟨h2, h3⟩, h4⟩
      have h0 := h1 t List.mem_cons_self
      exact ⟨⟨⟨h0.1.1, h4 t List.mem_cons_self, h0.1.2⟩, h0.2⟩, fun x hx => h1 x (List.mem_cons_of_mem _ hx), h3, h2⟩
theorem pin_mem (g : Int) (ns : List Int) : ∀ (l : List T_api_Temp) (x : T_api_Temp), x ∈ pinT g ns l → (x = ⟨g, ns⟩ ∧ ns ≠ []) ∨ x ∈ l
  | [], x, h => by
    unfold pinT at h
    split at h
    · cases h
    · exact .inl ⟨List.mem_singleton.1 h, by assumption⟩
  | t :: r, x, h => by
    unfold pinT at h
    split at h
    · rcases List.mem_cons.1 h with rfl | h
      · exact .inr List.mem_cons_self
      · rcases pin_mem g ns r x h with e | e
        · exact .inl e
        · exact .inr (List.mem_cons_of_mem _ e)
    · rcases List.mem_append.1 h with h | h
      · split at h
        · cases h
        · exact .inl ⟨List.mem_singleton.1 h, by assumption⟩
      · split at h
        · exact .inr (List.mem_cons_of_mem _ h)
        · exact .inr h
theorem pin_up (g : Int) (ns : List Int) : ∀ (l : List T_api_Temp), l.Pairwise (fun x y => x.f0 < y.f0) → (pinT g ns l).Pairwise (fun x y => x.f0 < y.f0)
  | [], _ => by
    unfold pinT
    split
    · exact List.Pairwise.nil
    · exact List.pairwise_singleton _ _
  | t :: r, hp => by
    obtain ⟨h1, h2⟩ := List.pairwise_cons.1 hp
    unfold pinT
    by_cases c : t.f0 < g
    · rw [if_pos c]
      refine List.pairwise_cons.2 ⟨fun x hx => ?_, pin_up g ns r h2⟩
      rcases pin_mem g ns r x hx with ⟨rfl, _⟩ | hx
      · exact c
      · exact h1 x hx
    · rw [if_neg c]
      have hr : (if t.f0 = g then r else t :: r).Pairwise (fun x y => x.f0 < y.f0) := by split <;> assumption
      have hg : ∀ x ∈ (if t.f0 = g then r else t :: r), g < x.f0 := by
        intro x hx
        split at hx
        · have := h1 x hx; omega
        · rcases List.mem_cons.1 hx with rfl | hx
          · omega
          · have := h1 x hx; omega
      split
      · exact hr
      · exact List.pairwise_cons.2 ⟨hg, hr⟩
theorem past_iff (m : T_api_Map) (since : Int) : ∀ (l seen : List T_api_Span) (p : Int), past m since p seen l = true ↔ (∀ s ∈ l, ((0 ≤ s.f0 ∧ s.f0 < since) ∧ m.f2 ≤ (s.f1.length : Int) ∧ (s.f1.length : Int) ≤ m.f1) ∧ riseI 0 s.f1 = true) ∧ (l.Pairwise (fun x y => x.f0 < y.f0 ∧ x.f1 ≠ y.f1) ∧ ∀ s ∈ l, p < s.f0) ∧ ∀ s ∈ l, ∀ x ∈ seen, x.f1 ≠ s.f1
  | [], seen, p => ⟨fun _ => ⟨(fun _ h => nomatch h), ⟨List.Pairwise.nil, (fun _ h => nomatch h)⟩, (fun _ h => nomatch h)⟩, fun _ => rfl⟩
  | s :: l, seen, p => by
    rw [past, Bool.and_eq_true, Bool.and_eq_true, Bool.and_eq_true, decide_eq_true_eq, Bool.not_eq_true', decide_eq_false_iff_not, past_iff m since l (seen ++ [s]) s.f0, List.pairwise_cons]
    constructor
    · rintro ⟨⟨⟨h1, h2⟩, h3⟩, h4, ⟨h5, h6⟩, h7⟩
      refine ⟨fun x hx => ?_, ⟨⟨fun x hx => ⟨h6 x hx, h7 x hx s (by simp)⟩, h5⟩, fun x hx => ?_⟩, fun x hx y hy => ?_⟩
      · rcases List.mem_cons.1 hx with rfl | hx
        · exact ⟨⟨h1.1, h1.2.2⟩, h2⟩
        · exact h4 x hx
      · rcases List.mem_cons.1 hx with rfl | hx
        · exact h1.2.1
        · have := h6 x hx; have := h1.2.1; omega
      · rcases List.mem_cons.1 hx with rfl | hx
        · exact fun e => h3 ⟨y, hy, e⟩
        · exact h7 x hx y (List.mem_append.2 (.inl hy))
    · rintro ⟨h1, ⟨⟨h2, h3⟩, h4⟩, h5⟩
      have h0 := h1 s List.mem_cons_self
      refine ⟨⟨⟨⟨h0.1.1, h4 s List.mem_cons_self, h0.1.2⟩, h0.2⟩, fun ⟨x, hx, e⟩ => h5 s List.mem_cons_self x hx e⟩, fun x hx => h1 x (List.mem_cons_of_mem _ hx), ⟨h3, fun x hx => (h2 x hx).1⟩, fun x hx y hy => ?_⟩
      rcases List.mem_append.1 hy with hy | hy
      · exact h5 x (List.mem_cons_of_mem _ hx) y hy
      · rw [List.mem_singleton.1 hy]
        exact (h2 x hx).2
theorem trails_iff (m : T_api_Map) : ∀ l : List T_api_Trail, trails m l = true ↔ ∀ t ∈ l, (0 ≤ t.f0 ∧ t.f0 ≤ m.f0) ∧ past m t.f0 (-1) [] t.f1 = true
  | [] => ⟨fun _ _ h => (nomatch h), fun _ => rfl⟩
  | t :: l => by
    rw [trails, Bool.and_eq_true, Bool.and_eq_true, decide_eq_true_eq, trails_iff m l]
    simp only [List.mem_cons, forall_eq_or_imp]
/-- Maps that differ in what neither asks. -/
theorem temps_map {m m' : T_api_Map} (h1 : m'.f1 = m.f1) (h3 : m'.f3 = m.f3) (l : List T_api_Temp) (p : Int) (h4 : ∀ t ∈ l, Topo.apartR m.f4 [] t.f1 = true → Topo.apartR m'.f4 [] t.f1 = true) (h : temps m p l = true) : temps m' p l = true := by
  rw [temps_iff] at h ⊢
  rw [h1, h3]
  exact ⟨fun t ht => ⟨(h.1 t ht).1, h4 t ht (h.1 t ht).2⟩, h.2⟩
theorem past_map {m m' : T_api_Map} (h1 : m'.f1 = m.f1) (h2 : m'.f2 = m.f2) (since : Int) (l seen : List T_api_Span) (p : Int) : past m' since p seen l = past m since p seen l := by
  rw [Bool.eq_iff_iff, past_iff, past_iff, h1, h2]
theorem trails_map {m m' : T_api_Map} (h0 : m'.f0 = m.f0) (h1 : m'.f1 = m.f1) (h2 : m'.f2 = m.f2) (l : List T_api_Trail) : trails m' l = trails m l := by
  rw [Bool.eq_iff_iff, trails_iff, trails_iff, h0]
  simp only [past_map h1 h2]
theorem withN_may {m : T_api_Map} (h : May m) {l : List T_api_Node} (hl : Topo.Nodes l) (ht : ∀ t ∈ m.f5, Topo.apartR m.f4 [] t.f1 = true → Topo.apartR l [] t.f1 = true) : May (withN m l) :=
  ⟨⟨h.1.1, h.1.2.1, h.1.2.2.1, h.1.2.2.2.1, hl⟩, temps_map (m := m) (m' := withN m l) rfl rfl _ _ ht h.2.1, h.2.2.1, (trails_map (m := m) (m' := withN m l) rfl rfl rfl _).trans h.2.2.2⟩
theorem find_some {l : List T_api_Node} {id : Int} {n : T_api_Node} (h : l.find? (fun x => decide (x.f0 = id)) = some n) : n ∈ l ∧ n.f0 = id := ⟨List.mem_of_find?_eq_some h, of_decide_eq_true (List.find?_some (p := fun x : T_api_Node => decide (x.f0 = id)) h)⟩
theorem put_may {m : T_api_Map} (h : May m) {n n' : T_api_Node} (hn : n ∈ m.f4) (h0 : n'.f0 = n.f0) (h1 : n'.f1 = n.f1) (hok : Topo.okN n') : May (withN m (putN n' m.f4)) := by
  have hN := h.1.2.2.2.2
  refine withN_may h (put_nodes hN hok ⟨n, hn, h0.symm⟩) (fun t _ ha => apart_congr _ _ (fun id _ x hx => ?_) ha)
  rw [put_find _ _ _ hN.up]
  obtain ⟨q1, q2⟩ := find_some hx
  by_cases c : n'.f0 = id
  · rw [if_pos c]
    refine ⟨n', rfl, ?_⟩
    rw [h1, Place.node_uniq hN hn q1 (by omega)]
  · rw [if_neg c]
    exact ⟨x, hx, rfl⟩
theorem apart_mem {l : List T_api_Node} : ∀ (ids met : List Int), Topo.apartR l met ids = true → ∀ id ∈ ids, ∃ n, l.find? (fun x => decide (x.f0 = id)) = some n
  | [], _, _, _, h => nomatch h
  | i :: r, met, h, id, hi => by
    rw [Topo.apartR] at h
    cases hf : l.find? (fun x => decide (x.f0 = i)) with
    | none => rw [hf] at h; cases h
    | some n =>
      rw [hf] at h
      dsimp only at h
      rw [Bool.and_eq_true] at h
      rcases List.mem_cons.1 hi with rfl | hi
      · exact ⟨n, hf⟩
      · exact apart_mem r _ h.2 id hi
theorem node_may {m : T_api_Map} (h : May m) {n : T_api_Node} (hn : n ∈ m.f4) {d : T_api_Delta} (hd : d.f1 = n.f0) (he : (nodeL m n d).2 = 0) : May (nodeL m n d).1 := by
  have hok := h.1.2.2.2.2.ok n hn
  unfold nodeL at he ⊢
  split at he
  · rename_i c2
    rw [if_pos c2]
    split at he
    · rename_i cw
      rw [if_pos cw]
      split at he
      · cases he
      · rename_i cn
        rw [if_neg cn]
        refine put_may h hn rfl rfl ?_
        unfold Topo.okN at hok ⊢
        exact ⟨hok.1, hok.2.1, hok.2.2.1, cw⟩
    · cases he
  · rename_i c2
    rw [if_neg c2]
    split at he
    · rename_i c3
      rw [if_pos c3]
      split at he
      · cases he
      · rename_i cn
        rw [if_neg cn]
        exact put_may h hn rfl rfl hok
    · rename_i c3
      rw [if_neg c3]
      split at he
      · rename_i c4
        rw [if_pos c4]
        split at he
        · cases he
        · rename_i cn
          rw [if_neg cn]
          exact put_may h hn rfl rfl hok
      · rename_i c4
        rw [if_neg c4]
        split at he
        · cases he
        · rename_i c5
          rw [if_neg c5]
          refine withN_may h (drop_nodes h.1.2.2.2.2 _) (fun t ht ha => apart_congr _ _ (fun id hid x hx => ⟨x, ?_, rfl⟩) ha)
          rw [drop_find]
          · exact hx
          · rintro rfl
            refine c5 (.inr (.inr ?_))
            unfold held
            rw [Bool.or_eq_true, List.any_eq_true]
            exact .inl ⟨t, ht, decide_eq_true hid⟩
theorem add_may {m : T_api_Map} (h : May m) {d : T_api_Delta} (he : (addL m d).2 = 0) : May (addL m d).1 := by
  unfold addL at he ⊢
  split at he
  · cases he
  · rename_i c1
    rw [if_neg c1]
    split at he
    · cases he
    · rename_i c2
      rw [if_neg c2]
      split at he
      · rename_i c3
        rw [if_pos c3]
        refine withN_may h c3 (fun t _ ha => apart_congr _ _ (fun id _ x hx => ⟨x, ?_, rfl⟩) ha)
        rw [put_find _ _ _ h.1.2.2.2.2.up, if_neg]
        · exact hx
        · intro e
          refine c1 ?_
          unfold Topo.find
          rw [show d.f1 = id from e, hx]
      · cases he
theorem withT_may {m : T_api_Map} (h : May m) {l : List T_api_Temp} (hl : temps m (-1) l = true) : May (withT m l) :=
  ⟨h.1, temps_map (m := m) (m' := withT m l) rfl rfl _ _ (fun _ _ q => q) hl, h.2.2.1, (trails_map (m := m) (m' := withT m l) rfl rfl rfl _).trans h.2.2.2⟩
theorem pin_may {m : T_api_Map} (h : May m) {d : T_api_Delta} (he : (pinL m d).2 = 0) : May (pinL m d).1 := by
  unfold pinL at he ⊢
  split at he
  · rename_i c1
    rw [if_pos c1]
    split at he
    · cases he
    · rename_i c2
      rw [if_neg c2]
      split at he
      · rename_i c3
        rw [if_pos c3]
        have ht := (temps_iff m _ _).1 h.2.1
        refine withT_may h ((temps_iff m _ _).2 ⟨fun t hm => ?_, pin_up _ _ _ ht.2.1, fun t hm => ?_⟩)
        · rcases pin_mem _ _ _ _ hm with ⟨rfl, q⟩ | hm
          · have := List.length_pos_iff.2 q
            exact ⟨⟨⟨c1.1, c1.2.1⟩, by show 1 ≤ (d.f6.length : Int); omega, c1.2.2⟩, c3⟩
          · exact ht.1 t hm
        · rcases pin_mem _ _ _ _ hm with ⟨rfl, q⟩ | hm
          · show -1 < d.f5
            have := c1.1
            omega
          · exact ht.2.2 t hm
      · cases he
  · cases he
theorem withP_may {m : T_api_Map} (h : May m) {l : List T_api_Trail} (h1 : l.length = m.f6.length) (h2 : trails m l = true) : May (withP m l) :=
  ⟨h.1, temps_map (m := m) (m' := withP m l) rfl rfl _ _ (fun _ _ q => q) h.2.1, by show (l.length : Int) = m.f3; rw [h1]; exact h.2.2.1, (trails_map (m := m) (m' := withP m l) rfl rfl rfl _).trans h2⟩
theorem clean_may {m : T_api_Map} (h : May m) {d : T_api_Delta} (he : (cleanL m d).2 = 0) : May (cleanL m d).1 := by
  unfold cleanL at he ⊢
  split at he
  · rename_i c1
    rw [if_pos c1]
    split at he
    · cases he
    · rename_i c2
      rw [if_neg c2]
      split at he
      · cases he
      · rename_i c3
        rw [if_neg c3]
        have hlen := h.2.2.1
        have hi : d.f5.toNat < m.f6.length := by omega
        have ht := (trails_iff m _).1 h.2.2.2
        refine withP_may h (List.length_set ..) ((trails_iff m _).2 (fun t hm => ?_))
        rcases List.mem_or_eq_of_mem_set hm with hm | rfl
        · exact ht t hm
        · have := (ht _ (List.getElem_mem hi)).1
          have e : nth T_api_Trail.z m.f6 d.f5 = m.f6[d.f5.toNat] := by
            unfold nth
            rw [List.getD_eq_getElem?_getD, List.getElem?_eq_getElem hi]
            rfl
          rw [e]
          exact ⟨this, rfl⟩
  · cases he
theorem turned_may {m : T_api_Map} (h : May m) {d : T_api_Delta} (he : (turnedL m d).2 = 0) : May (turnedL m d).1 := by
  unfold turnedL at he ⊢
  split at he
  · rename_i c
    rw [if_pos c]
    exact add_may h he
  · rename_i c
    rw [if_neg c]
    split at he
    · rename_i c
      rw [if_pos c]
      exact pin_may h he
    · rename_i c
      rw [if_neg c]
      split at he
      · rename_i c
        rw [if_pos c]
        exact h
      · rename_i c
        rw [if_neg c]
        split at he
        · rename_i c
          rw [if_pos c]
          exact clean_may h he
        · rename_i c
          rw [if_neg c]
          cases hf : m.f4.find? (fun n => decide (n.f0 = d.f1)) with
          | none => rw [hf] at he; cases he
          | some n =>
            rw [hf] at he
            exact node_may h (find_some hf).1 (find_some hf).2.symm he
theorem temp_of {m : T_api_Map} (h : May m) (g : Int) : tempOf m g = [] ∨ ((tempOf m g).length : Int) ≤ m.f1 ∧ Topo.apartR m.f4 [] (tempOf m g) = true := by
  unfold tempOf
  cases hf : m.f5.find? (fun t => decide (t.f0 = g)) with
  | none => exact .inl rfl
  | some t =>
    have ht := ((temps_iff m _ _).1 h.2.1).1 t (List.mem_of_find?_eq_some hf)
    exact .inr ⟨ht.1.2.2, ht.2⟩
theorem apart_nodup {l : List T_api_Node} : ∀ (ids met : List Int), Topo.apartR l met ids = true → ids.Nodup ∧ ∀ id ∈ ids, ∃ n, l.find? (fun x => decide (x.f0 = id)) = some n ∧ ¬ n.f1 ∈ met
  | [], _, _ => ⟨List.nodup_nil, (fun _ h => nomatch h)⟩
  | i :: r, met, h => by
    rw [Topo.apartR] at h
    cases hf : l.find? (fun x => decide (x.f0 = i)) with
    | none => rw [hf] at h; cases h
    | some n =>
      rw [hf] at h
      dsimp only at h
      rw [Bool.and_eq_true, Bool.not_eq_true', decide_eq_false_iff_not] at h
      obtain ⟨h1, h2⟩ := apart_nodup r _ h.2
      refine ⟨List.nodup_cons.2 ⟨fun hm => ?_, h1⟩, fun id hid => ?_⟩
      · obtain ⟨n', e1, e2⟩ := h2 i hm
        rw [hf] at e1
        cases e1
        exact e2 (by simp)
      · rcases List.mem_cons.1 hid with rfl | hid
        · exact ⟨n, hf, h.1⟩
        · obtain ⟨n', e1, e2⟩ := h2 id hid
          exact ⟨n', e1, fun c => e2 (List.mem_append.2 (.inl c))⟩
theorem raw_ok {m : T_api_Map} (h : May m) (g : Int) : (rawL m g).Nodup ∧ ((rawL m g).length : Int) ≤ m.f1 ∧ ∀ id ∈ rawL m g, ∃ n ∈ m.f4, n.f0 = id := by
  have h1 := h.1.2.1
  unfold rawL
  split
  · unfold Place.ofCommon
    split
    · rename_i hc
      refine ⟨?_, ?_, ?_⟩
      · unfold List.Nodup
        rw [List.pairwise_map]
        refine List.Pairwise.imp_of_mem ?_ ((Place.zones_nodup hc.1 g).sublist (List.take_sublist m.f1.toNat _))
        intro a b ha hb hab e
        obtain ⟨n, hn, q1, _, q2, _⟩ := Place.zone_pk hc.1 g (List.mem_of_mem_take ha)
        obtain ⟨n', hn', q1', _, q2', _⟩ := Place.zone_pk hc.1 g (List.mem_of_mem_take hb)
        have : n = n' := Place.node_uniq hc.1 hn hn' (by omega)
        subst this
        exact hab (by omega)
      · rw [List.length_map, List.length_take]
        omega
      · intro id hid
        obtain ⟨z, hz, rfl⟩ := List.mem_map.1 hid
        obtain ⟨n, hn, _, _, q2, _⟩ := Place.zone_pk hc.1 g (List.mem_of_mem_take hz)
        exact ⟨n, hn, q2.symm⟩
    · exact ⟨List.nodup_nil, by simp; omega, (fun _ h => nomatch h)⟩
  · rename_i c
    obtain ⟨q1, q2⟩ := (temp_of h g).resolve_left c
    refine ⟨(apart_nodup _ _ q2).1, q1, fun id hid => ?_⟩
    obtain ⟨n, e, _⟩ := (apart_nodup _ _ q2).2 id hid
    exact ⟨n, find_some e⟩
theorem act_ok {m : T_api_Map} (h : May m) (g : Int) : (actL m g).Nodup ∧ ((actL m g).length : Int) ≤ m.f1 ∧ ∀ id ∈ actL m g, ∃ n ∈ m.f4, n.f0 = id := by
  obtain ⟨h1, h2, h3⟩ := raw_ok h g
  refine ⟨h1.sublist (List.filter_sublist ..), ?_, fun id hid => h3 id (List.mem_filter.1 hid).1⟩
  have := List.length_filter_le (upN m.f4) (rawL m g)
  unfold actL
  omega
theorem rise_rising (l : List Int) (hn : l.Nodup) (hk : ∀ x ∈ l, 1 ≤ x ∧ x ≤ 999) : riseI 0 (rising l) = true := by
  have hs : (rising l).Pairwise (fun a b => decide (b < a) = false) := sortL_sorted (ok := fun _ => True) (lt := fun a b : Int => decide (a < b)) ⟨fun x _ => by simp, fun x y z _ _ _ a b => by simp at a b ⊢; omega, fun x y z _ _ _ a b => by simp at a b ⊢; omega⟩ l (fun _ _ => trivial)
  have hd : (rising l).Nodup := (sortL_perm _ l).nodup_iff.2 hn
  have hm : ∀ x ∈ rising l, 1 ≤ x ∧ x ≤ 999 := fun x hx => hk x ((sortL_mem _ l).1 hx)
  generalize rising l = r at hs hd hm
  have go : ∀ (r : List Int) (p : Int), r.Pairwise (fun a b => decide (b < a) = false) → r.Nodup → (∀ x ∈ r, 1 ≤ x ∧ x ≤ 999) → (∀ x ∈ r, p < x) → riseI p r = true := by
    intro r
    induction r with
    | nil => exact fun _ _ _ _ _ => rfl
    | cons x r ih =>
      intro p h1 h2 h3 h4
      obtain ⟨a1, a2⟩ := List.pairwise_cons.1 h1
      obtain ⟨b1, b2⟩ := List.nodup_cons.1 h2
      rw [riseI, decide_eq_true ⟨h3 x List.mem_cons_self, h4 x List.mem_cons_self⟩, Bool.true_and]
      refine ih x a2 b2 (fun y hy => h3 y (List.mem_cons_of_mem _ hy)) (fun y hy => ?_)
      have := of_decide_eq_false (a1 y hy)
      have hne : x ≠ y := fun e => b1 (e ▸ hy)
      omega
  exact go r 0 hs hd hm (fun x hx => by have := hm x hx; omega)
theorem follow_past {m m' : T_api_Map} (h1 : m'.f1 = m.f1) (h2 : m'.f2 = m.f2) (h : May m) {t : T_api_Trail} (ht : (0 ≤ t.f0 ∧ t.f0 ≤ m.f0) ∧ past m t.f0 (-1) [] t.f1 = true) (g : Int) (now : List Int) (h0 : m'.f0 = m.f0 + 1) : (0 ≤ (followT t (actL m g) now m.f2 (m.f0 + 1)).f0 ∧ (followT t (actL m g) now m.f2 (m.f0 + 1)).f0 ≤ m'.f0) ∧ past m' (followT t (actL m g) now m.f2 (m.f0 + 1)).f0 (-1) [] (followT t (actL m g) now m.f2 (m.f0 + 1)).f1 = true := by
  have hm0 := h.1.1
  obtain ⟨a1, a2, a3⟩ := act_ok h g
  unfold followT
  by_cases c : actL m g = now
  · rw [if_pos c, past_map h1 h2]
    exact ⟨by omega, ht.2⟩
  · rw [if_neg c, past_map h1 h2]
    refine ⟨by show 0 ≤ m.f0 + 1 ∧ m.f0 + 1 ≤ m'.f0; omega, ?_⟩
    obtain ⟨p1, ⟨p2, p3⟩, p4⟩ := (past_iff m _ _ _ _).1 ht.2
    have hw : ∀ s ∈ t.f1, (0 ≤ s.f0 ∧ s.f0 < m.f0 + 1) := fun s hs => by have := (p1 s hs).1.1; omega
    show past m (m.f0 + 1) (-1) [] (if m.f2 ≤ ((actL m g).length : Int) then t.f1.filter (fun s => !decide (s.f1 = rising (actL m g))) ++ [⟨t.f0, rising (actL m g)⟩] else t.f1) = true
    by_cases c2 : m.f2 ≤ ((actL m g).length : Int)
    · rw [if_pos c2]
      have hrl : (rising (actL m g)).length = (actL m g).length := sortL_length _ _
      refine (past_iff m _ _ _ _).2 ⟨fun s hs => ?_, ⟨?_, fun s hs => ?_⟩, (fun _ _ _ hx => nomatch hx)⟩
      · rcases List.mem_append.1 hs with hs | hs
        · have hs := (List.mem_filter.1 hs).1
          exact ⟨⟨hw s hs, (p1 s hs).1.2⟩, (p1 s hs).2⟩
        · rw [List.mem_singleton.1 hs]
          refine ⟨⟨⟨ht.1.1, by show t.f0 < m.f0 + 1; omega⟩, ?_⟩, rise_rising _ a1 (fun x hx => ?_)⟩
          · show m.f2 ≤ ((rising (actL m g)).length : Int) ∧ ((rising (actL m g)).length : Int) ≤ m.f1
            rw [hrl]
            exact ⟨c2, a2⟩
          · obtain ⟨n, hn, e⟩ := a3 x hx
            have := h.1.2.2.2.2.ok n hn
            unfold Topo.okN at this
            omega
      · refine List.pairwise_append.2 ⟨p2.filter _, List.pairwise_singleton _ _, fun x hx y hy => ?_⟩
        rw [List.mem_singleton.1 hy]
        obtain ⟨q1, q2⟩ := List.mem_filter.1 hx
        refine ⟨(p1 x q1).1.1.2, ?_⟩
        simpa using q2
      · rcases List.mem_append.1 hs with hs | hs
        · exact p3 s (List.mem_filter.1 hs).1
        · rw [List.mem_singleton.1 hs]
          show -1 < t.f0
          omega
    · rw [if_neg c2]
      exact (past_iff m _ _ _ _).2 ⟨fun s hs => ⟨⟨hw s hs, (p1 s hs).1.2⟩, (p1 s hs).2⟩, ⟨p2, p3⟩, p4⟩
theorem turned_same {m : T_api_Map} {d : T_api_Delta} : (turnedL m d).1.f0 = m.f0 ∧ (turnedL m d).1.f1 = m.f1 ∧ (turnedL m d).1.f2 = m.f2 ∧ (turnedL m d).1.f3 = m.f3 := by
  unfold turnedL addL pinL cleanL nodeL withN withT withP
  repeat' split
  all_goals exact ⟨rfl, rfl, rfl, rfl⟩
theorem apply_may {m : T_api_Map} (h : May m) (d : T_api_Delta) : May (applyL m d).1 := by
  unfold applyL
  split
  · split
    · exact h
    · rename_i c0
      split
      · rename_i c1
        have hx := turned_may h c1
        obtain ⟨e0, e1, e2, e3⟩ := turned_same (m := m) (d := d)
        have hm0 := h.1.1
        generalize (turnedL m d).1 = x at hx e0 e1 e2 e3
        refine ⟨⟨by show 0 ≤ m.f0 + 1 ∧ m.f0 + 1 ≤ 2147483647; omega, h.1.2.1, h.1.2.2.1, h.1.2.2.2.1, hx.1.2.2.2.2⟩, ?_, ?_, ?_⟩
        · exact temps_map (m := x) (m' := ⟨m.f0 + 1, m.f1, m.f2, m.f3, x.f4, x.f5, followL m x⟩) e1.symm e3.symm _ _ (fun _ _ q => q) hx.2.1
        · show ((followL m x).length : Int) = m.f3
          unfold followL
          rw [List.length_mapIdx]
          have := hx.2.2.1
          omega
        · refine (trails_iff _ _).2 (fun t ht => ?_)
          unfold followL at ht
          obtain ⟨i, hi, rfl⟩ := List.mem_mapIdx.1 ht
          have hxt := (trails_iff x _).1 hx.2.2.2 _ (List.getElem_mem hi)
          rw [e0, past_map e1 e2] at hxt
          exact follow_past (m := m) (m' := ⟨m.f0 + 1, m.f1, m.f2, m.f3, x.f4, x.f5, followL m x⟩) rfl rfl h hxt i _ rfl
      · exact h
  · exact h
theorem next_may {m : T_api_Map} (h : May m) (d : T_api_Delta) : May (nextL m d) := by
  unfold nextL
  split
  · rename_i c
    have hm0 := h.1.1
    refine ⟨⟨by show 0 ≤ m.f0 + 1 ∧ m.f0 + 1 ≤ 2147483647; omega, h.1.2⟩, h.2.1 ▸ temps_map (m := m) (m' := ⟨m.f0 + 1, m.f1, m.f2, m.f3, m.f4, m.f5, m.f6⟩) rfl rfl _ _ (fun _ _ q => q) h.2.1, h.2.2.1, (trails_iff _ _).2 (fun t ht => ?_)⟩
    have := (trails_iff m _).1 h.2.2.2 t ht
    rw [past_map (m := m) (m' := ⟨m.f0 + 1, m.f1, m.f2, m.f3, m.f4, m.f5, m.f6⟩) rfl rfl]
    exact ⟨⟨this.1.1, by show t.f0 ≤ m.f0 + 1; omega⟩, this.2⟩
  · exact apply_may h d

/-! where groups stand and act -/
theorem tfind {l : List T_api_Node} (h : Topo.Nodes l) (id : Int) : Ev (fun k => topo_Find.f k l id) (Topo.find l id) := by
  have hl := h.1
  have hs : Ev (fun k => slices_BinarySearchFunc__api_Node_api_Node_int_of_topo_Find_1.f k l id) (foundG (fun n : T_api_Node => n.f0) id l) := by
    unfold slices_BinarySearchFunc__api_Node_api_Node_int_of_topo_Find_1.f
    exact searchG T_api_Node.z (fun n => n.f0) id topo_Find_1.f (fun a => by unfold topo_Find_1.f; rw [cmpG]; rfl) l _ (fun k a b => slices_BinarySearchFunc__api_Node_api_Node_int_of_topo_Find_1.l7_s k l id a b) (by omega) h.up l.length 0 l.length (by omega) (by omega) (posG_le _ _ _) (Nat.le_refl _)
  unfold topo_Find.f
  refine .b hs ?_
  unfold Topo.find
  rcases found_find (fun n : T_api_Node => n.f0) id l h.up with ⟨h1, q1, q2, q3⟩ | ⟨q2, q3⟩
  · rw [q3]
    refine .t q2 (.b (Topo.chk h) (.s (fun k => topo_Find.j15_s k _ _ _) (.n (by decide) (.t ?_ (.cv ?_)))))
    · show 0 ≤ ((posG (fun n : T_api_Node => n.f0) id l : Nat) : Int) ∧ ((posG (fun n : T_api_Node => n.f0) id l : Nat) : Int) < _
      omega
    · have q : nth T_api_Node.z l (foundG (fun n : T_api_Node => n.f0) id l).1 = _ := nth_get T_api_Node.z l _ h1
      rw [q]
  · rw [q3]
    exact .n (by rw [q2]; decide) (.s (fun k => topo_Find.j15_s k _ _ _) (.t rfl (.c _)))
/-! what is let go of numbers -/
theorem indexG (z : Int) (l : List Int) (p : Int → Bool) (pO : Nat → Int → Option Bool) (hp : ∀ x ∈ l, Ev (fun k => pO k x) (p x)) (hl : l.length < 1000000) (L : Nat → Int → Option Int)
    (hL : ∀ k x, L (k + 1) x = (if x < (l.length : Int) then (if 0 ≤ x ∧ x < (l.length : Int) then ((pO k (nth z l x)).bind fun t21 => (if t21 = true then (some x) else (L k (w64 (x + 1))))) else (none)) else (some (-1)))) :
    ∀ (d i : Nat), i + d = l.length → (l.take i).filter (fun x => !p x) = l.take i → (l.filter (fun x => !p x) = l ∧ Ev (fun k => L k (i : Int)) (-1)) ∨ ∃ n : Nat, n < l.length ∧ (l.take n).filter (fun x => !p x) = l.take n ∧ (∀ h : n < l.length, p l[n] = true) ∧ Ev (fun k => L k (i : Int)) (n : Int) := by
  intro d
  induction d with
  | zero =>
    intro i hi ht
    rw [List.take_of_length_le (by omega)] at ht
    exact .inl ⟨ht, .s (fun k => hL k _) (.n (by omega) (.c _))⟩
  | succ d ih =>
    intro i hi ht
    have h1 : i < l.length := by omega
    have hx := hp _ (List.getElem_mem h1)
    have go : ∀ v, (∀ w, p l[i] = w → (w = true → v = (i : Int)) ∧ (w = false → Ev (fun k => L k ((i + 1 : Nat) : Int)) v)) → Ev (fun k => L k (i : Int)) v := by
      intro v hv
      refine .s (fun k => hL k _) (.t (by omega) (.t (by omega) ?_))
      rw [nth_get _ _ _ h1, w64n i (by omega)]
      refine .b hx (.i (fun c => .cv ((hv _ rfl).1 c).symm) (fun c => (hv _ rfl).2 (eq_false_of_ne_true c)))
    by_cases h0 : p l[i] = true
    · exact .inr ⟨i, h1, ht, fun _ => h0, go _ (fun w hw => ⟨fun _ => rfl, fun e => absurd (hw.trans e) (by rw [h0]; decide)⟩)⟩
    · have ht' : (l.take (i + 1)).filter (fun x => !p x) = l.take (i + 1) := by
        rw [← List.take_append_getElem h1, List.filter_append, ht]
        simp [h0]
      rcases ih (i + 1) (by omega) ht' with ⟨a, b⟩ | ⟨n, a, b, c, e⟩
      · exact .inl ⟨a, go _ (fun w hw => ⟨fun q => absurd (hw.trans q) h0, fun _ => b⟩)⟩
      · exact .inr ⟨n, a, b, c, go _ (fun w hw => ⟨fun q => absurd (hw.trans q) h0, fun _ => e⟩)⟩
theorem deleteG (z : Int) (l : List Int) (p : Int → Bool) (pO : Nat → Int → Option Bool) (hp : ∀ x ∈ l, Ev (fun k => pO k x) (p x)) (hl : l.length < 1000000) (L : Nat → List Int → Int → Int → Option (List Int))
    (hL : ∀ k q n x, L (k + 1) q n x = (if x < (l.length : Int) then (if 0 ≤ x ∧ x < (l.length : Int) then ((pO k (nth z q x)).bind fun t33 => (if t33 = true then (L k q n (w64 (x + 1))) else (if 0 ≤ n ∧ n < (l.length : Int) then (L k (q.set (n).toNat (nth z q x)) (w64 (n + 1)) (w64 (x + 1))) else (none)))) else (none)) else (if 0 ≤ n ∧ n ≤ (l.length : Int) then (some (cutl (q.take (n).toNat ++ List.replicate (l.length - (n).toNat) z) 0 n)) else (none)))) :
    ∀ (d i n : Nat) (q : List Int), i + d = l.length → n < i → q.length = l.length → q.take n = (l.take i).filter (fun x => !p x) → q.drop i = l.drop i → Ev (fun k => L k q (n : Int) (i : Int)) (l.filter (fun x => !p x)) := by
  intro d
  induction d with
  | zero =>
    intro i n q hi hn hq ht hd
    refine .s (fun k => hL k _ _ _) (.n (by omega) (.t (by omega) (.cv ?_)))
    rw [List.take_of_length_le (by omega : l.length ≤ i)] at ht
    rw [← ht]
    have hlen : (q.take n).length = n := by rw [List.length_take]; omega
    simp only [cutl, Int.toNat_natCast, Int.toNat_zero, List.drop_zero]
    rw [List.take_append_of_le_length (by omega), List.take_of_length_le (by omega)]
  | succ d ih =>
    intro i n q hi hn hq ht hd
    have h1 : i < l.length := by omega
    have h2 : i < q.length := by omega
    have hx := hp _ (List.getElem_mem h1)
    have hd2 : q[i] = l[i] ∧ q.drop (i + 1) = l.drop (i + 1) := by
      rw [List.drop_eq_getElem_cons h1, List.drop_eq_getElem_cons h2] at hd
      exact ⟨(List.cons.inj hd).1, (List.cons.inj hd).2⟩
    refine .s (fun k => hL k _ _ _) (.t (by omega) (.t (by omega) ?_))
    rw [nth_get _ _ _ h2, hd2.1, w64n i (by omega), w64n n (by omega)]
    refine .b hx (.i (fun c => ih (i + 1) n q (by omega) (by omega) hq ?_ hd2.2) (fun c => .t (by omega) (ih (i + 1) (n + 1) _ (by omega) (by omega) (by rw [List.length_set]; exact hq) ?_ ?_)))
    · rw [← List.take_append_getElem h1, List.filter_append, ht]
      simp [c]
    · rw [← List.take_append_getElem h1, List.filter_append, ← ht, Int.toNat_natCast, List.take_add_one, List.take_set_of_le (by omega), List.getElem?_set_self (by omega)]
      simp [c]
    · rw [Int.toNat_natCast, List.drop_set_of_lt (by omega)]
      exact hd2.2
theorem up {m : T_api_Map} (h : Topo.Nodes m.f4) (l : List Int) (hl : l.length < 1000000) : Ev (fun k => maps_up.f k m l) (l.filter (upN m.f4)) := by
  have hp : ∀ x ∈ l, Ev (fun k => maps_up_1.f k x m) (!upN m.f4 x) := by
    intro x _
    unfold maps_up_1.f
    exact .b (tfind h x) (.c _)
  have e : l.filter (upN m.f4) = l.filter (fun x => !(!upN m.f4 x)) := by
    congr 1
    funext x
    rw [Bool.not_not]
  unfold maps_up.f slices_DeleteFunc__int_int_of_maps_up_1.f slices_IndexFunc__int_int_of_maps_up_1.f
  rw [e]
  refine .b ?_ (.c _)
  rcases indexG 0 l (fun x => !upN m.f4 x) (fun k x => maps_up_1.f k x m) hp hl (fun k x => slices_IndexFunc__int_int_of_maps_up_1.l5 k l m x) (fun k x => slices_IndexFunc__int_int_of_maps_up_1.l5_s k l m x) l.length 0 (by omega) rfl with ⟨a, b⟩ | ⟨n, a, b, c, e⟩
  · exact .b b (.t rfl (.cv a.symm))
  · refine .b e (.n (by omega) ?_)
    rw [w64n n (by omega)]
    refine deleteG 0 l (fun x => !upN m.f4 x) (fun k x => maps_up_1.f k x m) hp hl (fun k q n x => slices_DeleteFunc__int_int_of_maps_up_1.l15 k l m q n x) (fun k q n x => slices_DeleteFunc__int_int_of_maps_up_1.l15_s k l m q n x) (l.length - (n + 1)) (n + 1) n l (by omega) (by omega) rfl ?_ rfl
    rw [← List.take_append_getElem a, List.filter_append, b]
    have ca : upN m.f4 l[n] = false := by
      have := c a
      revert this
      cases upN m.f4 l[n] <;> decide
    simp [ca]
theorem temps_len {m : T_api_Map} (h : May m) : m.f5.length ≤ 8 := by
  have ht := (temps_iff m _ _).1 h.2.1
  have h3 := h.1.2.2.2.1
  have go : ∀ (l : List T_api_Temp) (p : Int), l.Pairwise (fun x y => x.f0 < y.f0) → (∀ t ∈ l, p < t.f0 ∧ t.f0 < m.f3) → p < m.f3 → (l.length : Int) ≤ m.f3 - 1 - p := by
    intro l
    induction l with
    | nil => intro p _ _ hp; simp; omega
    | cons x r ih =>
      intro p hp hb _
      obtain ⟨h1, h2⟩ := List.pairwise_cons.1 hp
      have hx := hb x List.mem_cons_self
      have := ih x.f0 h2 (fun t htm => ⟨h1 t htm, (hb t (List.mem_cons_of_mem _ htm)).2⟩) hx.2
      rw [List.length_cons]
      omega
  have := go m.f5 (-1) ht.2.1 (fun t hm => ⟨ht.2.2 t hm, (ht.1 t hm).1.1.2⟩) (by omega)
  omega
theorem temp {m : T_api_Map} (h : May m) (g : Int) : Ev (fun k => maps_temp.f k m g) (foundG (fun t : T_api_Temp => t.f0) g m.f5) := by
  have ht := (temps_iff m _ _).1 h.2.1
  have hl := temps_len h
  unfold maps_temp.f slices_BinarySearchFunc__api_Temp_api_Temp_int_of_maps_temp_1.f
  exact .b (searchG T_api_Temp.z (fun n => n.f0) g maps_temp_1.f (fun a => by unfold maps_temp_1.f; rw [cmpG]; rfl) m.f5 _ (fun k a b => slices_BinarySearchFunc__api_Temp_api_Temp_int_of_maps_temp_1.l7_s k m.f5 g a b) (by omega) ht.2.1 m.f5.length 0 m.f5.length (by omega) (by omega) (posG_le _ _ _) (Nat.le_refl _)) (.c _)
theorem clone (l : List Int) (hl : l.length ≤ 1000000) : slices_Clone__int_int.f l = some l := by
  unfold slices_Clone__int_int.f
  rw [if_pos]
  · rfl
  · simp only [List.length_nil]
    omega
theorem raw {m : T_api_Map} (h : May m) (g : Int) : Ev (fun k => maps_raw.f k m g) (rawL m g) := by
  have ht := (temps_iff m _ _).1 h.2.1
  have h1 := h.1.2.1
  unfold maps_raw.f
  refine .b (temp h g) ?_
  unfold rawL tempOf
  rcases found_find (fun n : T_api_Temp => n.f0) g m.f5 ht.2.1 with ⟨hp, q1, q2, q3⟩ | ⟨q2, q3⟩
  · rw [q3]
    have hm := ht.1 _ (List.getElem_mem hp)
    refine .t q2 (.t ?_ ?_)
    · show 0 ≤ ((posG (fun n : T_api_Temp => n.f0) g m.f5 : Nat) : Int) ∧ ((posG (fun n : T_api_Temp => n.f0) g m.f5 : Nat) : Int) < _
      omega
    · show Ev (fun k => (slices_Clone__int_int.f ((nth T_api_Temp.z m.f5 ((posG (fun n : T_api_Temp => n.f0) g m.f5 : Nat) : Int)).f1)).bind fun t21 => some t21) _
      rw [nth_get _ _ _ hp]
      refine .b0 (clone _ (by omega)) (.cv ?_)
      rw [if_neg]
      intro e
      rw [show m.f5[posG (fun n : T_api_Temp => n.f0) g m.f5].f1 = [] from e] at hm
      have := hm.1.2.1
      simp at this
  · rw [q3, if_pos rfl]
    exact .n (by rw [q2]; decide) (.b (Place.of_ m.f4 g m.f1) (.c _))
/-- Where a group shall stand, of any map. -/
def rawM (m : T_api_Map) (g : Int) : List Int := if May m ∧ 0 ≤ g ∧ g < m.f3 then rawL m g else []
def actM (m : T_api_Map) (g : Int) : List Int := if May m ∧ 0 ≤ g ∧ g < m.f3 then actL m g else []
theorem mRaw (m : T_api_Map) (hm : Small m) (g : Int) : Ev (fun k => maps_Raw.f k m g) (rawM m g) := by
  unfold maps_Raw.f rawM
  refine .b (check m hm) ?_
  by_cases h : May m
  · have h3 := h.1.2.2.2.1
    rw [decide_eq_true h]
    refine .t rfl (.b0 (min' g 0 (w64 (m.f3 - 1))) (.s (fun k => maps_Raw.j14_s k _ _ _) ?_))
    rw [w64_of (n := m.f3 - 1) (by omega) (by omega)]
    by_cases c : 0 ≤ g ∧ g < m.f3
    · rw [decide_eq_true (by omega), if_pos ⟨h, c⟩]
      exact .n (by decide) (.b (raw h g) (.c _))
    · rw [decide_eq_false (by omega), if_neg (fun e => c e.2)]
      exact .t rfl (.c _)
  · rw [decide_eq_false h, if_neg (fun e => h e.1)]
    exact .n (by decide) (.s (fun k => maps_Raw.j14_s k _ _ _) (.t rfl (.c _)))
theorem mActing (m : T_api_Map) (hm : Small m) (g : Int) : Ev (fun k => maps_Acting.f k m g) (actM m g) := by
  unfold maps_Acting.f
  refine .b (mRaw m hm g) ?_
  unfold rawM actM
  by_cases h : May m ∧ 0 ≤ g ∧ g < m.f3
  · rw [if_pos h, if_pos h]
    have h2 := (raw_ok h.1 g).2.1
    have h1 := h.1.1.2.1
    exact .b (up h.1.1.2.2.2.2 _ (by omega)) (.c _)
  · rw [if_neg h, if_neg h]
    have : Ev (fun k => maps_up.f k m []) ([] : List Int) := by
      unfold maps_up.f slices_DeleteFunc__int_int_of_maps_up_1.f slices_IndexFunc__int_int_of_maps_up_1.f
      exact .b (.b (.s (fun k => slices_IndexFunc__int_int_of_maps_up_1.l5_s k _ _ _) (.n (by decide) (.c _))) (.t rfl (.c _))) (.c _)
    exact .b this (.c _)
/-! the document's -/
theorem rtemp (m : T_api_Map) (hm : Small m) (g : Int) : Ev (fun k => windroseref08_Temp.f k m g) (tempOf m g) := by
  have h5 := hm.h5
  have go : ∀ (d i : Nat), i + d = m.f5.length → Ev (fun k => windroseref08_Temp.l7 k m g (i : Int)) (match (m.f5.drop i).find? (fun t => decide (t.f0 = g)) with
    | some t => t.f1
    | none => []) := by
    intro d
    induction d with
    | zero =>
      intro i hi
      refine .s (fun k => windroseref08_Temp.l7_s k _ _ _) (.n (by omega) (.cv ?_))
      rw [List.drop_eq_nil_of_le (by omega)]
      rfl
    | succ d ih =>
      intro i hi
      have h1 : i < m.f5.length := by omega
      refine .s (fun k => windroseref08_Temp.l7_s k _ _ _) (.t (by omega) (.t (by omega) ?_))
      rw [nth_get _ _ _ h1, List.drop_eq_getElem_cons h1, w64n i (by omega)]
      refine .i (fun c => .cv ?_) (fun c => (ih (i + 1) (by omega)).v ?_)
      · rw [List.find?_cons_of_pos (by simpa using c)]
      · rw [List.find?_cons_of_neg (by simpa using c)]
  exact go m.f5.length 0 (by omega)
theorem rRaw (m : T_api_Map) (hm : Small m) (g : Int) : Ev (fun k => windroseref08_Raw.f k m g) (rawM m g) := by
  have no : ¬ (May m ∧ 0 ≤ g ∧ g < m.f3) → Ev (fun k => windroseref08_Raw.j12 k m g true) (rawM m g) := by
    intro c
    unfold rawM
    rw [if_neg c]
    exact .s (fun k => windroseref08_Raw.j12_s k _ _ _) (.t rfl (.c _))
  unfold windroseref08_Raw.f
  refine .b (may m hm) ?_
  by_cases h : May m
  · rw [decide_eq_true h]
    refine .t rfl (.i (fun c => no (fun e => by omega)) (fun c => ?_))
    by_cases c2 : g ≥ m.f3
    · rw [decide_eq_true c2]
      exact no (fun e => by omega)
    · rw [decide_eq_false c2]
      unfold rawM rawL
      rw [if_pos ⟨h, by omega, by omega⟩]
      refine .s (fun k => windroseref08_Raw.j12_s k _ _ _) (.n (by decide) (.b (rtemp m hm g) (.i (fun c3 => .cv ?_) (fun c3 => .b (Place.rof m.f4 g m.f1 hm.h4) (.cv ?_)))))
      · rw [if_neg]
        intro e
        rw [e] at c3
        simp at c3
      · rw [if_pos]
        exact List.length_eq_zero_iff.1 (by omega)
  · rw [decide_eq_false h]
    exact .n (by decide) (no (fun e => h e.1))
theorem rActing (m : T_api_Map) (hm : Small m) (g : Int) : Ev (fun k => windroseref08_Acting.f k m g) (actM m g) := by
  have hle : (rawM m g).length ≤ 1000000 := by
    unfold rawM
    split
    · rename_i h
      have h2 := (raw_ok h.1 g).2.1
      have h1 := h.1.1.2.1
      omega
    · decide
  have go : ∀ (d i : Nat), i + d = (rawM m g).length → Ev (fun k => windroseref08_Acting.l24 k m (rawM m g) (((rawM m g).take i).filter (upN m.f4)) (i : Int)) ((rawM m g).filter (upN m.f4)) := by
    intro d
    induction d with
    | zero =>
      intro i hi
      refine .s (fun k => windroseref08_Acting.l24_s k _ _ _ _) (.n (by omega) (.cv ?_))
      rw [List.take_of_length_le (by omega)]
    | succ d ih =>
      intro i hi
      have h1 : i < (rawM m g).length := by omega
      have ih := ih (i + 1) (by omega)
      have hlen : (((rawM m g).take i).filter (upN m.f4)).length ≤ i := Nat.le_trans (List.length_filter_le _ _) (by rw [List.length_take]; omega)
      rw [← List.take_append_getElem h1, List.filter_append] at ih
      refine .s (fun k => windroseref08_Acting.l24_s k _ _ _ _) (.t (by omega) (.t (by omega) ?_))
      rw [nth_get _ _ _ h1, w64n i (by omega)]
      refine .b (Topo.reffind _ _ hm.h4) (.i (fun c => .t (by omega) ?_) (fun c => ?_))
      · rw [show [(rawM m g)[i]].filter (upN m.f4) = [(rawM m g)[i]] from by unfold upN; simp [c]] at ih
        exact ih
      · rw [show [(rawM m g)[i]].filter (upN m.f4) = [] from by unfold upN; simp [c], List.append_nil] at ih
        exact ih
  unfold windroseref08_Acting.f
  refine .b (rRaw m hm g) ((go _ 0 (Nat.zero_add _)).v ?_)
  unfold rawM actM actL
  split
  · rfl
  · rfl

/-! maps that are not too great -/
structure Lit8 (m : T_api_Map) : Prop where
  h4 : m.f4.length ≤ 30
  h5 : m.f5.length ≤ 20
  h6 : m.f6.length ≤ 20
  ht : ∀ t ∈ m.f5, t.f1.length ≤ 20
  hp : ∀ t ∈ m.f6, t.f1.length ≤ 20
  hs : ∀ t ∈ m.f6, ∀ s ∈ t.f1, s.f1.length ≤ 20
theorem Lit8.small {m : T_api_Map} (h : Lit8 m) : Small m := by
  have h4 := h.h4
  have h5 := h.h5
  have h6 := h.h6
  exact ⟨by omega, by omega, by omega, fun t ht => by have := h.hp t ht; omega, fun t ht s hs => by have := h.hs t ht s hs; omega⟩
theorem light (m : T_api_Map) : Ht (fun k => windroselaw08_Light.f k m) (fun b => b = true → Lit8 m) := by
  have h65 : ∀ (i : Nat) (hi : i < m.f6.length), m.f6[i].f1.length ≤ 20 → (∀ t ∈ m.f6.take i, t.f1.length ≤ 20 ∧ ∀ s ∈ t.f1, s.f1.length ≤ 20) → (∀ t ∈ m.f5.take 20, t.f1.length ≤ 20) →
      ((∀ t ∈ m.f6.take (i + 1), t.f1.length ≤ 20 ∧ ∀ s ∈ t.f1, s.f1.length ≤ 20) → Ht (fun k => windroselaw08_Light.l36 k m ((i + 1 : Nat) : Int)) (fun b => b = true → Lit8 m)) → i < 20 →
      ∀ (d j : Nat), j + d = m.f6[i].f1.length → (∀ s ∈ m.f6[i].f1.take j, s.f1.length ≤ 20) → Ht (fun k => windroselaw08_Light.l65 k m (i : Int) (j : Int)) (fun b => b = true → Lit8 m) := by
    intro i hi h20 hp ht hk hi20 d
    induction d with
    | zero =>
      intro j hj hs
      refine .s (fun k => windroselaw08_Light.l65_s k _ _ _) ?_
      rw [nth_get _ _ _ hi, w64n i (by omega)]
      refine .n (by omega) (hk (fun t hm => ?_))
      rw [← List.take_append_getElem hi] at hm
      rcases List.mem_append.1 hm with hm | hm
      · exact hp t hm
      · rw [List.mem_singleton.1 hm]
        exact ⟨h20, fun s hsm => hs s (by rw [List.take_of_length_le (by omega)]; exact hsm)⟩
    | succ d ih =>
      intro j hj hs
      have h1 : j < m.f6[i].f1.length := by omega
      refine .s (fun k => windroselaw08_Light.l65_s k _ _ _) ?_
      rw [nth_get _ _ _ hi]
      refine .t (by omega) (.t (by omega) ?_)
      rw [nth_get _ _ _ h1, w64n j (by omega)]
      refine .i (fun _ => .c (fun e => nomatch e)) (fun c => ih (j + 1) (by omega) (fun s hsm => ?_))
      rw [← List.take_append_getElem h1] at hsm
      rcases List.mem_append.1 hsm with hsm | hsm
      · exact hs s hsm
      · rw [List.mem_singleton.1 hsm]
        omega
  have h36 : ∀ (d i : Nat), i + d = min 20 m.f6.length → (∀ t ∈ m.f6.take i, t.f1.length ≤ 20 ∧ ∀ s ∈ t.f1, s.f1.length ≤ 20) → (∀ t ∈ m.f5.take 20, t.f1.length ≤ 20) → Ht (fun k => windroselaw08_Light.l36 k m (i : Int)) (fun b => b = true → Lit8 m) := by
    intro d
    induction d with
    | zero =>
      intro i hi hp ht
      have fin : Ht (fun k => windroselaw08_Light.j44 k m (i : Int) false) (fun b => b = true → Lit8 m) := by
        refine .s (fun k => windroselaw08_Light.j44_s k _ _ _) (.n (by decide) (.i (fun c4 => .i (fun c5 => .c (fun e => ?_)) (fun _ => .c (fun e => nomatch e))) (fun _ => .c (fun e => nomatch e))))
        have c6 := of_decide_eq_true e
        rw [List.take_of_length_le (by omega)] at hp
        rw [List.take_of_length_le (by omega)] at ht
        exact ⟨by omega, by omega, by omega, ht, fun t hm => (hp t hm).1, fun t hm => (hp t hm).2⟩
      refine .s (fun k => windroselaw08_Light.l36_s k _ _) (.i (fun c => ?_) (fun _ => fin))
      rw [decide_eq_false (by omega)]
      exact fin
    | succ d ih =>
      intro i hi hp ht
      have h1 : i < m.f6.length := by omega
      refine .s (fun k => windroselaw08_Light.l36_s k _ _) (.t (by omega) ?_)
      rw [decide_eq_true (by omega)]
      refine .s (fun k => windroselaw08_Light.j44_s k _ _ _) (.t rfl (.t (by omega) ?_))
      rw [nth_get _ _ _ h1]
      exact .i (fun _ => .c (fun e => nomatch e)) (fun c => h65 i h1 (by omega) hp ht (fun q => ih (i + 1) (by omega) q ht) (by omega) m.f6[i].f1.length 0 (by omega) (fun _ h => nomatch h))
  have h7 : ∀ (d i : Nat), i + d = min 20 m.f5.length → (∀ t ∈ m.f5.take i, t.f1.length ≤ 20) → Ht (fun k => windroselaw08_Light.l7 k m (i : Int)) (fun b => b = true → Lit8 m) := by
    intro d
    induction d with
    | zero =>
      intro i hi ht
      have fin : Ht (fun k => windroselaw08_Light.j15 k m (i : Int) false) (fun b => b = true → Lit8 m) := by
        refine .s (fun k => windroselaw08_Light.j15_s k _ _ _) (.n (by decide) (h36 (min 20 m.f6.length) 0 (by omega) (fun _ h => nomatch h) ?_))
        by_cases c : m.f5.length ≤ 20
        · rw [List.take_of_length_le (by omega)] at ht ⊢
          exact ht
        · rwa [show i = 20 by omega] at ht
      refine .s (fun k => windroselaw08_Light.l7_s k _ _) (.i (fun c => ?_) (fun _ => fin))
      rw [decide_eq_false (by omega)]
      exact fin
    | succ d ih =>
      intro i hi ht
      have h1 : i < m.f5.length := by omega
      refine .s (fun k => windroselaw08_Light.l7_s k _ _) (.t (by omega) ?_)
      rw [decide_eq_true (by omega)]
      refine .s (fun k => windroselaw08_Light.j15_s k _ _ _) (.t rfl (.t (by omega) ?_))
      rw [nth_get _ _ _ h1, w64n i (by omega)]
      refine .i (fun _ => .c (fun e => nomatch e)) (fun c => ih (i + 1) (by omega) (fun t hm => ?_))
      rw [← List.take_append_getElem h1] at hm
      rcases List.mem_append.1 hm with hm | hm
      · exact ht t hm
      · rw [List.mem_singleton.1 hm]
        omega
  exact h7 (min 20 m.f5.length) 0 (by omega) (fun _ h => nomatch h)

theorem awake (k : Nat) : windroselaw08_awake.f (k + 1500) = some true := by kernel_rfl
theorem awakes : Ev (fun k => windroselaw08_awake.f k) true := ⟨1500, fun k hk => by
  obtain ⟨k, rfl⟩ : ∃ m, k = m + 1500 := ⟨k - 1500, by omega⟩
  exact awake k⟩
end Maps
theorem pureMapsStands : PureMapsStands := by
  intro m g _ _
  refine Ev.one (f := fun k => windroselaw08_MapsStands.f k m g) (v := true) ?_
  have aw : Ev (fun k => (windroselaw08_awake.f k).bind fun t => some t) true := .b Maps.awakes (.c _)
  unfold windroselaw08_MapsStands.f
  obtain ⟨b, hb, hL⟩ := Maps.light m
  refine .b hb ?_
  cases b with
  | false => exact .n (by decide) aw
  | true =>
    have hs := (hL rfl).small
    have hle : (Maps.rawM m g).length < 1000000 ∧ (Maps.actM m g).length < 1000000 := by
      unfold Maps.rawM Maps.actM
      split
      · rename_i h
        have h1 := (Maps.raw_ok h.1 g).2.1
        have h2 := (Maps.act_ok h.1 g).2.1
        have h3 := h.1.1.2.1
        omega
      · decide
    refine .t rfl (.b (Maps.mRaw m hs g) (.b (Maps.rRaw m hs g) (.b (Maps.ints _ _ (by omega)) ?_)))
    rw [decide_eq_true rfl]
    refine .t rfl (.b (Maps.mActing m hs g) (.b (Maps.rActing m hs g) (.b (Maps.ints _ _ (by omega)) ?_)))
    rw [decide_eq_true rfl]
    exact .t rfl aw
end Go.Proofs.YtpohepinmjmbkaaGreat.MS
