/- DrawEach, plainly: each costs no more for its weight than the next. -/
import Derived.Test.YtilgmccdpddeoaaPDrawEachx
import Derived.Test.YtilgmccdpddeoaaMixn
import Derived.Test.YtilgmccdpddeoaaNegn
namespace Go.Proofs.Ytilgmccdpddeoaa.PDrawEach
set_option linter.unusedVariables false
open Go.RowKit Go.Proofs.Ytilgmccdpddeoaa Go.Proofs.YtilgmccdpddeoaaW.PrintWords Go.Proofs.YtilgmccdpddeoaaW.PrintLast Go.Proofs.YtilgmccdpddeoaaW.PrintMore
/-! mixing, as printed, is what the plain numbers are -/
theorem w1 : wrap64 (0 + 1) = 1 := by unfold wrap64; omega
theorem w2 : wrap64 (1 + 1) = 2 := by unfold wrap64; omega
theorem xs (X : Nat) (hX : X < 18446744073709551616) : Go.bits .xor .u64 (X : Int) ((X : Int) / 4294967296) = ((Mixn.sh X : Nat) : Int) := xorShift_u64 X 4294967296 hX
theorem xm (X : Nat) (hX : X < 18446744073709551616) : IntKind.u64.wrap (Go.bits .xor .u64 (X : Int) ((X : Int) / 4294967296) * 15485907386658061715) = ((Mixn.mf (Mixn.sh X) : Nat) : Int) := by
  rw [xs X hX, IntKind.wrap_u64]
  rfl
theorem mix_eq (x : Nat) (hx : x < 18446744073709551616) (k : Nat) : mix_Mix.f (k + 3) (x : Int) = some ((Mixn.mix x : Nat) : Int) := by
  unfold mix_Mix.f
  simp only [mix_Mix.l0]
  rw [if_pos (by decide), w1, if_pos (by decide), w2, if_neg (by decide), xm x hx, xm _ (Mixn.mf_lt _), xs _ (Mixn.mf_lt _)]
  rfl
theorem u64_at {x : Int} (h : (Lit.int .u64 x).wf = true) : ∃ n : Nat, x = n ∧ n < 18446744073709551616 := by
  simp only [Lit.wf, IntKind.min, IntKind.max, IntKind.signed, IntKind.bits, Bool.and_eq_true] at h
  simp at h
  exact ⟨x.toNat, by omega, by omega⟩

/-! folds over a list -/
def toN (l : List Int) : List Nat := l.map Int.toNat
theorem rd_cons (a : Int) (l : List Int) : rd (a :: l) 0 = a := rfl
theorem wadd (s n : Nat) (hs : s < 18446744073709551616) (hn : n < 18446744073709551616) :
    IntKind.u64.wrap ((Go.bits .xor .u64 (s : Int) (n : Int)) + 11400714819323198485) = ((((s ^^^ n) + 11400714819323198485) % 18446744073709551616 : Nat) : Int) := by
  rw [bits_xor_u64_nat _ _ hs hn, IntKind.wrap_u64]
  rfl
theorem drop_at (l : List Int) (i : Nat) (h : i < l.length) : l.drop i = rd l (i : Int) :: l.drop (i + 1) := by
  rw [List.drop_eq_getElem_cons h]
  congr 1
  unfold rd
  rw [Int.toNat_natCast, List.getD_eq_getElem?_getD, List.getElem?_eq_getElem h]
  rfl
theorem rd_u64 (l : List Int) (hl : ∀ x ∈ l, (Lit.int .u64 x).wf = true) (i : Nat) (h : i < l.length) : ∃ n : Nat, rd l (i : Int) = n ∧ n < 18446744073709551616 := by
  apply u64_at
  apply hl
  unfold rd
  rw [Int.toNat_natCast, List.getD_eq_getElem?_getD, List.getElem?_eq_getElem h]
  exact List.getElem_mem h
theorem wrap_succ (i n : Nat) (h : i < n) (hn : n ≤ 1152921504606846976) : wrap64 ((i : Int) + 1) = ((i + 1 : Nat) : Int) := by unfold wrap64; omega
theorem fold_l0 (l : List Int) (hl : ∀ x ∈ l, (Lit.int .u64 x).wf = true) (hn : l.length ≤ 1152921504606846976) (d : Nat) : ∀ (k i s : Nat), i + d = l.length → d + 4 ≤ k → s < 18446744073709551616 →
    mix_Fold.l0 k (s : Int) l (l.length : Int) (i : Int) = some (((toN (l.drop i)).foldl Mixn.step s : Nat) : Int) := by
  induction d with
  | zero =>
    intro k i s hi hk hs
    obtain ⟨k, rfl⟩ : ∃ m, k = m + 1 := ⟨k - 1, by omega⟩
    simp only [mix_Fold.l0]
    rw [if_neg (by omega), List.drop_of_length_le (by omega)]
    rfl
  | succ d ih =>
    intro k i s hi hk hs
    obtain ⟨k, rfl⟩ : ∃ m, k = m + 1 := ⟨k - 1, by omega⟩
    obtain ⟨k3, hk3⟩ : ∃ m, k = m + 3 := ⟨k - 3, by omega⟩
    have hil : i < l.length := by omega
    obtain ⟨n, en, hn'⟩ := rd_u64 l hl i hil
    simp only [mix_Fold.l0]
    have em := mix_eq _ (Nat.mod_lt ((s ^^^ n) + 11400714819323198485) (show 18446744073709551616 > 0 by decide)) k3
    rw [← hk3] at em
    rw [if_pos (by omega), if_pos (by omega), if_pos (by omega), en, wadd s n hs hn', em]
    simp only [Option.bind_some]
    rw [wrap_succ i l.length hil hn, ih _ (i + 1) _ (by omega) (by omega) (Mixn.mix_lt _), drop_at l i hil, en]
    rfl
theorem fold_eq (s : Nat) (hs : s < 18446744073709551616) (l : List Int) (hl : ∀ x ∈ l, (Lit.int .u64 x).wf = true) (hn : l.length ≤ 1152921504606846976) (k : Nat) (hk : l.length + 4 ≤ k) :
    mix_Fold.f k (s : Int) l = some ((Mixn.fold s (toN l) : Nat) : Int) := by
  obtain ⟨m, rfl⟩ : ∃ m, k = m + 3 := ⟨k - 3, by omega⟩
  unfold mix_Fold.f
  rw [mix_eq s hs m]
  simp only [Option.bind_some]
  exact fold_l0 l hl hn l.length (m + 3) 0 _ (by omega) hk (Mixn.mix_lt _)

/-! a cost, as printed, is what the plain numbers are -/
theorem u64_nat (n : Nat) (h : n < 18446744073709551616) : IntKind.u64.wrap (n : Int) = n := by rw [IntKind.wrap_u64]; omega
theorem sq_div (z : Nat) (hz : z ≤ 2147483648) : IntKind.u64.wrap (Int.tdiv (IntKind.u64.wrap ((z : Int) * (z : Int))) 2147483648) = ((z * z / 2147483648 : Nat) : Int) ∧ z * z / 2147483648 ≤ 2147483648 := by
  have h1 : z * z ≤ 2147483648 * 2147483648 := Nat.mul_le_mul hz hz
  have h2 : (2147483648 : Nat) * 2147483648 = 4611686018427387904 := by decide
  rw [h2] at h1
  have e : (z : Int) * (z : Int) = ((z * z : Nat) : Int) := by rw [Int.natCast_mul]
  have h3 : z * z / 2147483648 ≤ 2147483648 := by omega
  rw [e, u64_nat _ (by omega), Int.tdiv_eq_ediv_of_nonneg (Int.natCast_nonneg _)]
  have e2 : ((z * z : Nat) : Int) / 2147483648 = ((z * z / 2147483648 : Nat) : Int) := by rw [Int.natCast_ediv]; rfl
  rw [e2, u64_nat _ (by omega)]
  exact ⟨rfl, h3⟩
theorem cost_l1 (c : Nat) (hc : c ≤ 17) (d : Nat) : ∀ (k z f i : Nat), i + d = 16 → d < k → z ≤ 2147483648 → f < 2 ^ i →
    neglog_Cost.l1 k (c : Int) (z : Int) (f : Int) (i : Int) = some ((c * 65536 + Negn.bitsOf d z f : Nat) : Int) := by
  induction d with
  | zero =>
    intro k z f i hi hk hz hf
    obtain ⟨k, rfl⟩ : ∃ m, k = m + 1 := ⟨k - 1, by omega⟩
    obtain rfl : i = 16 := by omega
    have hw : wrap64 (wrap64 ((c : Int) * 65536) + (f : Int)) = ((c * 65536 + f : Nat) : Int) := by unfold wrap64; omega
    rw [neglog_Cost.l1]
    rw [if_neg (by omega), hw]
    rfl
  | succ d ih =>
    intro k z f i hi hk hz hf
    obtain ⟨k, rfl⟩ : ∃ m, k = m + 1 := ⟨k - 1, by omega⟩
    have p1 : (i : Int) < 16 := by omega
    have hp : 2 ^ i ≤ 65536 := Nat.le_trans (Nat.pow_le_pow_right (by decide) (show i ≤ 16 by omega)) (by decide)
    have hp2 : 2 ^ (i + 1) = 2 * 2 ^ i := by rw [Nat.pow_succ, Nat.mul_comm]
    have w1 : wrap64 ((i : Int) + 1) = ((i + 1 : Nat) : Int) := by unfold wrap64; omega
    have w2 : wrap64 ((f : Int) * 2) = ((2 * f : Nat) : Int) := by unfold wrap64; omega
    have w3 : wrap64 (((2 * f : Nat) : Int) + 1) = ((2 * f + 1 : Nat) : Int) := by unfold wrap64; omega
    obtain ⟨e1, h1⟩ := sq_div z hz
    rw [neglog_Cost.l1, Negn.bitsOf]
    rw [if_pos p1, e1, w1, w2, w3]
    clear w1 w2 w3
    generalize z * z / 2147483648 = y at *
    clear e1
    by_cases cy : y ≤ 1073741824
    · have w4 : IntKind.u64.wrap ((y : Int) * 2) = ((2 * y : Nat) : Int) := by rw [IntKind.wrap_u64]; omega
      rw [if_pos (by omega), if_pos cy, w4]
      exact ih k (2 * y) (2 * f + 1) (i + 1) (by omega) (by omega) (by omega) (by omega)
    · rw [if_neg (by omega), if_neg cy]
      exact ih k y (2 * f) (i + 1) (by omega) (by omega) (by omega) (by omega)
theorem cost_l0 (d : Nat) : ∀ (k u c : Nat), 32768 < u * 2 ^ d → u ≤ 65536 → c + d ≤ 16 → d + 18 < k →
    neglog_Cost.l0 k (u : Int) (c : Int) = some ((c * 65536 + Negn.cst (d + 1) u : Nat) : Int) := by
  induction d with
  | zero =>
    intro k u c h h1 hc hk
    rw [Nat.pow_zero, Nat.mul_one] at h
    obtain ⟨k, rfl⟩ : ∃ m, k = m + 1 := ⟨k - 1, by omega⟩
    have w1 : IntKind.u64.wrap (IntKind.u64.wrap (u : Int) * 32768) = ((u * 32768 : Nat) : Int) := by rw [u64_nat _ (by omega), IntKind.wrap_u64]; omega
    rw [neglog_Cost.l0, Negn.cst_succ]
    rw [if_neg (by omega), if_neg (by omega), w1]
    exact cost_l1 c (by omega) 16 k (u * 32768) 0 0 (by omega) (by omega) (by omega) (by decide)
  | succ d ih =>
    intro k u c h h1 hc hk
    obtain ⟨k, rfl⟩ : ∃ m, k = m + 1 := ⟨k - 1, by omega⟩
    have h2 : u * 2 ^ (d + 1) = 2 * u * 2 ^ d := by rw [Nat.pow_succ, Nat.mul_comm (2 ^ d) 2, ← Nat.mul_assoc, Nat.mul_comm u 2]
    rw [neglog_Cost.l0, Negn.cst_succ]
    by_cases cu : u ≤ 32768
    · have w1 : wrap64 ((u : Int) * 2) = ((2 * u : Nat) : Int) := by unfold wrap64; omega
      have w2 : wrap64 ((c : Int) + 1) = ((c + 1 : Nat) : Int) := by unfold wrap64; omega
      rw [if_pos (by omega), if_pos cu, w1, w2, ih k (2 * u) (c + 1) (by omega) (by omega) (by omega) (by omega), show (c + 1) * 65536 + Negn.cst (d + 1) (2 * u) = c * 65536 + (65536 + Negn.cst (d + 1) (2 * u)) by omega]
    · have w1 : IntKind.u64.wrap (IntKind.u64.wrap (u : Int) * 32768) = ((u * 32768 : Nat) : Int) := by rw [u64_nat _ (by omega), IntKind.wrap_u64]; omega
      rw [if_neg (by omega), if_neg cu, w1]
      exact cost_l1 c (by omega) 16 k (u * 32768) 0 0 (by omega) (by omega) (by omega) (by decide)
/-- A number's cost; 0, if it is none that has one. -/
def costI (a : Int) : Int := if 1 ≤ a ∧ a ≤ 65536 then ((Negn.cost a.toNat : Nat) : Int) else 0
theorem costI_nat (u : Nat) (h1 : 1 ≤ u) (h2 : u ≤ 65536) : costI (u : Int) = ((Negn.cost u : Nat) : Int) := by
  unfold costI
  rw [if_pos ⟨by omega, by omega⟩, Int.toNat_natCast]
theorem cost_eq (a : Int) (k : Nat) (hk : 40 ≤ k) : neglog_Cost.f k a = some (costI a) := by
  obtain ⟨k, rfl⟩ : ∃ m, k = m + 1 := ⟨k - 1, by omega⟩
  unfold neglog_Cost.f
  by_cases c1 : a < 1
  · rw [if_pos c1, neglog_Cost.j0]
    rw [if_pos rfl]
    unfold costI
    rw [if_neg (by omega)]
  rw [if_neg c1, neglog_Cost.j0]
  by_cases c2 : a > 65536
  · rw [if_pos (decide_eq_true c2)]
    unfold costI
    rw [if_neg (by omega)]
  obtain ⟨u, rfl⟩ : ∃ u : Nat, a = u := ⟨a.toNat, by omega⟩
  rw [if_neg (by simpa using c2), costI_nat u (by omega) (by omega)]
  have h := cost_l0 16 k u 0 (by omega) (by omega) (by omega) (by omega)
  rw [Nat.zero_mul, Nat.zero_add] at h
  exact h

/-! a choice's cost -/
theorem wrapu_wf (a : Int) : (Lit.int .u64 (IntKind.u64.wrap a)).wf = true := by
  simp only [Lit.wf, IntKind.min, IntKind.max, IntKind.signed, IntKind.bits, Bool.and_eq_true]
  rw [IntKind.wrap_u64]
  simp
  omega
/-- The cost of a number for a key, plainly. -/
def dc (key : Nat) (id : Int) : Int := costI (1 + ((Mixn.fold key (toN [IntKind.u64.wrap id]) / 281474976710656 : Nat) : Int))
theorem dc_bound (key : Nat) (id : Int) : 0 ≤ dc key id ∧ dc key id ≤ 1179648 := by
  unfold dc costI
  split
  · exact ⟨by omega, by have := Negn.cost_le (1 + ((Mixn.fold key (toN [IntKind.u64.wrap id]) / 281474976710656 : Nat) : Int)).toNat; omega⟩
  · omega
theorem fold_lt (key : Nat) (id : Int) : Mixn.fold key (toN [IntKind.u64.wrap id]) < 18446744073709551616 := by
  unfold Mixn.fold toN
  rw [List.map_cons, List.map_nil, List.foldl_cons, List.foldl_nil]
  unfold Mixn.step
  exact Mixn.mix_lt _
theorem dcost_eq (key : Nat) (hkey : key < 18446744073709551616) (id : Int) (k : Nat) (hk : 60 ≤ k) : draw_Cost.f k (key : Int) id = some (dc key id) := by
  have h1 := fold_eq key hkey [IntKind.u64.wrap id] (fun x hx => by rw [List.mem_singleton.1 hx]; exact wrapu_wf id) (by simp) k (by simp; omega)
  have hlt := fold_lt key id
  unfold draw_Cost.f dc
  rw [h1, Option.bind_some]
  generalize Mixn.fold key (toN [IntKind.u64.wrap id]) = F at hlt ⊢
  have w1 : wrap64 ((F : Int) / 281474976710656) = ((F / 281474976710656 : Nat) : Int) := by unfold wrap64; omega
  have w2 : wrap64 (1 + ((F / 281474976710656 : Nat) : Int)) = 1 + ((F / 281474976710656 : Nat) : Int) := by unfold wrap64; omega
  rw [w1, w2, cost_eq _ k (by omega)]
  rfl
/-! which choices may be -/
/-- What the row has to be at one place. -/
def good (l : List S85) (j : Int) : Prop := 0 ≤ (rd_T85 l j).f0 ∧ (rd_T85 l j).f0 ≤ 2147483647 ∧ 0 ≤ (rd_T85 l j).f1 ∧ (rd_T85 l j).f1 ≤ 65536 ∧ (0 < j → (rd_T85 l (j - 1)).f0 < (rd_T85 l j).f0)
theorem check_l0 (l : List S85) (hl : l.length ≤ 1000) : ∀ (k : Nat) (i : Int), 0 ≤ i → i ≤ l.length → (l.length : Int) - i < k →
    ((∀ j, i ≤ j → j < l.length → good l j) → draw_Check.l0 k l l (l.length : Int) i = some 0) ∧ ((∃ j, i ≤ j ∧ j < l.length ∧ ¬ good l j) → draw_Check.l0 k l l (l.length : Int) i = some 1) := by
  intro k
  induction k with
  | zero => intro i h0 h1 h2; omega
  | succ k ih =>
    intro i h0 h1 h2
    simp only [draw_Check.l0]
    by_cases c1 : i < (l.length : Int)
    · rw [if_pos c1, if_pos h0, if_pos c1]
      have w1 : wrap64 (i + 1) = i + 1 := by unfold wrap64; omega
      obtain ⟨ih1, ih2⟩ := ih (i + 1) (by omega) (by omega) (by omega)
      by_cases b1 : (rd_T85 l i).f0 < 0
      · rw [if_pos b1]; exact ⟨fun h => absurd (h i (Int.le_refl _) c1).1 (by omega), fun _ => rfl⟩
      rw [if_neg b1]
      by_cases b2 : (rd_T85 l i).f0 > 2147483647
      · rw [if_pos b2]; exact ⟨fun h => absurd (h i (Int.le_refl _) c1).2.1 (by omega), fun _ => rfl⟩
      rw [if_neg b2]
      by_cases b3 : (rd_T85 l i).f1 < 0
      · rw [if_pos b3]; exact ⟨fun h => absurd (h i (Int.le_refl _) c1).2.2.1 (by omega), fun _ => rfl⟩
      rw [if_neg b3]
      by_cases b4 : (rd_T85 l i).f1 > 65536
      · rw [if_pos b4]; exact ⟨fun h => absurd (h i (Int.le_refl _) c1).2.2.2.1 (by omega), fun _ => rfl⟩
      rw [if_neg b4]
      have step : good l i → ((∀ j, i ≤ j → j < (l.length : Int) → good l j) → draw_Check.l0 k l l (l.length : Int) (i + 1) = some 0) ∧ ((∃ j, i ≤ j ∧ j < (l.length : Int) ∧ ¬ good l j) → draw_Check.l0 k l l (l.length : Int) (i + 1) = some 1) := fun g => by
        refine ⟨fun h => ih1 (fun j hj => h j (by omega)), fun ⟨j, hj, hjl, hb⟩ => ih2 ⟨j, ?_, hjl, hb⟩⟩
        by_cases e : j = i
        · subst e; exact absurd g hb
        · omega
      by_cases b5 : i > 0
      · have w2 : wrap64 (i - 1) = i - 1 := by unfold wrap64; omega
        rw [if_pos b5, w2, if_pos (by omega), if_pos (by omega)]
        by_cases b6 : (rd_T85 l i).f0 ≤ (rd_T85 l (i - 1)).f0
        · rw [if_pos b6]; exact ⟨fun h => absurd ((h i (Int.le_refl _) c1).2.2.2.2 b5) (by omega), fun _ => rfl⟩
        · rw [if_neg b6, w1]
          exact step ⟨by omega, by omega, by omega, by omega, fun _ => by omega⟩
      · rw [if_neg b5, w1]
        exact step ⟨by omega, by omega, by omega, by omega, fun h => absurd h b5⟩
    · rw [if_neg c1]
      exact ⟨fun _ => rfl, fun ⟨j, _, _, _⟩ => by omega⟩
theorem may_l0 (l : List S85) (hl : l.length ≤ 1000) : ∀ (k : Nat) (i : Int), 0 ≤ i → i ≤ l.length → (l.length : Int) - i < k →
    ((∀ j, i ≤ j → j < l.length → good l j) → windroseref05_May.l0 k l i = some (decide ((l.length : Int) ≤ 64))) ∧ ((∃ j, i ≤ j ∧ j < l.length ∧ ¬ good l j) → windroseref05_May.l0 k l i = some false) := by
  intro k
  induction k with
  | zero => intro i h0 h1 h2; omega
  | succ k ih =>
    intro i h0 h1 h2
    simp only [windroseref05_May.l0]
    by_cases c1 : i < (l.length : Int)
    · rw [if_pos c1, if_pos h0]
      have w1 : wrap64 (i + 1) = i + 1 := by unfold wrap64; omega
      obtain ⟨ih1, ih2⟩ := ih (i + 1) (by omega) (by omega) (by omega)
      by_cases b1 : (rd_T85 l i).f0 < 0
      · rw [if_pos b1]; exact ⟨fun h => absurd (h i (Int.le_refl _) c1).1 (by omega), fun _ => rfl⟩
      rw [if_neg b1]
      by_cases b2 : (rd_T85 l i).f0 ≥ 2147483648
      · rw [if_pos b2]; exact ⟨fun h => absurd (h i (Int.le_refl _) c1).2.1 (by omega), fun _ => rfl⟩
      rw [if_neg b2]
      by_cases b3 : (rd_T85 l i).f1 < 0
      · rw [if_pos b3]; exact ⟨fun h => absurd (h i (Int.le_refl _) c1).2.2.1 (by omega), fun _ => rfl⟩
      rw [if_neg b3]
      by_cases b4 : (rd_T85 l i).f1 > 65536
      · rw [if_pos b4]; exact ⟨fun h => absurd (h i (Int.le_refl _) c1).2.2.2.1 (by omega), fun _ => rfl⟩
      rw [if_neg b4]
      have step : good l i → ((∀ j, i ≤ j → j < (l.length : Int) → good l j) → windroseref05_May.l0 k l (i + 1) = some (decide ((l.length : Int) ≤ 64))) ∧ ((∃ j, i ≤ j ∧ j < (l.length : Int) ∧ ¬ good l j) → windroseref05_May.l0 k l (i + 1) = some false) := fun g => by
        refine ⟨fun h => ih1 (fun j hj => h j (by omega)), fun ⟨j, hj, hjl, hb⟩ => ih2 ⟨j, ?_, hjl, hb⟩⟩
        by_cases e : j = i
        · subst e; exact absurd g hb
        · omega
      by_cases b5 : i > 0
      · have w2 : wrap64 (i - 1) = i - 1 := by unfold wrap64; omega
        rw [if_pos b5, w2, if_pos (by omega), if_pos (by omega)]
        by_cases b6 : (rd_T85 l (i - 1)).f0 ≥ (rd_T85 l i).f0
        · rw [if_pos b6]; exact ⟨fun h => absurd ((h i (Int.le_refl _) c1).2.2.2.2 b5) (by omega), fun _ => rfl⟩
        · rw [if_neg b6, w1]
          exact step ⟨by omega, by omega, by omega, by omega, fun _ => by omega⟩
      · rw [if_neg b5, w1]
        exact step ⟨by omega, by omega, by omega, by omega, fun h => absurd h b5⟩
    · rw [if_neg c1]
      exact ⟨fun _ => rfl, fun ⟨j, _, _, _⟩ => by omega⟩
/-- The choices that may be. -/
def fine (l : List S85) : Prop := l.length ≤ 64 ∧ ∀ j : Int, 0 ≤ j → j < l.length → good l j
theorem not_fine {l : List S85} (h : ¬ fine l) (hl : l.length ≤ 64) : ∃ j : Int, 0 ≤ j ∧ j < l.length ∧ ¬ good l j :=
  Classical.byContradiction fun h2 => h ⟨hl, fun j h0 h1 => Classical.byContradiction fun h3 => h2 ⟨j, h0, h1, h3⟩⟩
theorem check_fine {l : List S85} (h : fine l) (k : Nat) (hk : 70 ≤ k) : draw_Check.f k l = some 0 := by
  have := h.1
  unfold draw_Check.f
  rw [if_neg (by omega)]
  exact (check_l0 l (by omega) k 0 (by omega) (by omega) (by omega)).1 h.2
theorem check_bad {l : List S85} (h : ¬ fine l) (k : Nat) (hk : 70 ≤ k) : draw_Check.f k l = some 1 := by
  unfold draw_Check.f
  by_cases c : (l.length : Int) > 64
  · rw [if_pos c]
  · rw [if_neg c]
    exact (check_l0 l (by omega) k 0 (by omega) (by omega) (by omega)).2 (not_fine h (by omega))
theorem may_fine {l : List S85} (h : fine l) (k : Nat) (hk : 70 ≤ k) : windroseref05_May.f k l = some true := by
  have := h.1
  unfold windroseref05_May.f
  rw [(may_l0 l (by omega) k 0 (by omega) (by omega) (by omega)).1 h.2, decide_eq_true (by omega)]
theorem may_bad {l : List S85} (h : ¬ fine l) (hl : l.length ≤ 100) (k : Nat) (hk : 110 ≤ k) : windroseref05_May.f k l = some false := by
  have m := may_l0 l (by omega) k 0 (by omega) (by omega) (by omega)
  unfold windroseref05_May.f
  by_cases c : l.length ≤ 64
  · exact m.2 (not_fine h c)
  · by_cases g : ∀ j : Int, 0 ≤ j → j < l.length → good l j
    · rw [m.1 g, decide_eq_false (by omega)]
    · exact m.2 (Classical.byContradiction fun h2 => g fun j h0 h1 => Classical.byContradiction fun h3 => h2 ⟨j, h0, h1, h3⟩)
theorem rd_get (l : List S85) (i : Nat) (h : i < l.length) : rd_T85 l (i : Int) = l[i] := by
  unfold rd_T85
  rw [Int.toNat_natCast, List.getD_eq_getElem?_getD, List.getElem?_eq_getElem h]
  rfl
theorem drop_c (l : List S85) (i : Nat) (h : i < l.length) : l.drop i = rd_T85 l (i : Int) :: l.drop (i + 1) := by
  rw [List.drop_eq_getElem_cons h, rd_get l i h]
theorem fine_mem {l : List S85} (h : fine l) : ∀ x ∈ l, (0 ≤ x.f0 ∧ x.f0 ≤ 2147483647) ∧ 0 ≤ x.f1 ∧ x.f1 ≤ 65536 := by
  intro x hx
  obtain ⟨i, hi, rfl⟩ := List.mem_iff_getElem.1 hx
  have g := h.2 i (by omega) (by omega)
  unfold good at g
  rw [rd_get l i hi] at g
  exact ⟨⟨g.1, g.2.1⟩, g.2.2.1, g.2.2.2.1⟩
theorem fine_up {l : List S85} (h : fine l) (i : Nat) : ∀ d : Nat, (hi : i + d + 1 < l.length) → (rd_T85 l (i : Int)).f0 < (rd_T85 l ((i + d + 1 : Nat) : Int)).f0
  | 0, hi => by
    have g := (h.2 ((i + 0 + 1 : Nat) : Int) (by omega) (by omega)).2.2.2.2 (by omega)
    rwa [show ((i + 0 + 1 : Nat) : Int) - 1 = (i : Int) by omega] at g
  | d + 1, hi => by
    have g := (h.2 ((i + (d + 1) + 1 : Nat) : Int) (by omega) (by omega)).2.2.2.2 (by omega)
    rw [show ((i + (d + 1) + 1 : Nat) : Int) - 1 = ((i + d + 1 : Nat) : Int) by omega] at g
    have := fine_up h i d (by omega)
    omega
theorem fine_pair {l : List S85} (h : fine l) : l.Pairwise (fun x y => x.f0 < y.f0) := by
  rw [List.pairwise_iff_getElem]
  intro i j hi hj hij
  obtain ⟨d, rfl⟩ : ∃ d, j = i + d + 1 := ⟨j - i - 1, by omega⟩
  have := fine_up h i d hj
  rwa [rd_get l i hi, rd_get l _ hj] at this
theorem asc_of : ∀ {l : List S85}, l.Pairwise (fun x y => x.f0 < y.f0) → draw_Order.asc l = true
  | [], _ => rfl
  | x :: r, h => by
    obtain ⟨h1, h2⟩ := List.pairwise_cons.1 h
    unfold draw_Order.asc
    rw [Bool.and_eq_true, List.all_eq_true]
    exact ⟨fun y hy => decide_eq_true (h1 y hy), asc_of h2⟩
theorem okc_of (key : Nat) (hkey : key < 18446744073709551616) {x : S85} (h0 : 0 ≤ x.f0) (h1 : x.f0 ≤ 2147483647) (h2 : 0 < x.f1) (h3 : x.f1 ≤ 65536) : draw_compare.okc 1000 (key : Int) x = true := by
  have e := dcost_eq key hkey x.f0 1000 (by omega)
  have b := dc_bound key x.f0
  unfold draw_compare.okc draw_compare.cost
  generalize dc key x.f0 = c at e b
  generalize draw_Cost.f 1000 (key : Int) x.f0 = o at e ⊢
  subst e
  rw [Option.isSome_some, Option.getD_some, decide_eq_true b.1, decide_eq_true (show c ≤ 2147483647 by omega), decide_eq_true h0, decide_eq_true h1, decide_eq_true h2, decide_eq_true h3]
  rfl
theorem cost_of (key : Nat) (hkey : key < 18446744073709551616) (x : S85) : draw_compare.cost 1000 (key : Int) x = dc key x.f0 := by
  unfold draw_compare.cost
  rw [dcost_eq key hkey x.f0 1000 (by omega), Option.getD_some]
/-- Those that have weight, in their order. -/
def ord (key : Nat) (l : List S85) : List S85 := Hand.sortL (draw_Order.lt 1000 (key : Int)) (l.filter fun x => !decide (x.f1 = 0))
theorem order_fine (key : Nat) (hkey : key < 18446744073709551616) {l : List S85} (h : fine l) (k : Nat) (hk : 70 ≤ k) : draw_Order.f k (key : Int) l = some ((ord key l).map fun x => x.f0) := by
  have hl := h.1
  unfold draw_Order.f
  rw [check_fine h k hk, Option.bind_some, if_pos rfl, if_pos (by omega), if_pos (asc_of (fine_pair h)), if_pos]
  · rfl
  · rw [List.all_eq_true]
    intro x hx
    obtain ⟨h1, h2⟩ := List.mem_filter.1 hx
    obtain ⟨⟨a, b⟩, c, d⟩ := fine_mem h x h1
    have : x.f1 ≠ 0 := by simpa using h2
    exact okc_of key hkey a b (by omega) d
theorem order_bad (key : Int) {l : List S85} (h : ¬ fine l) (k : Nat) (hk : 70 ≤ k) : draw_Order.f k key l = some [] := by
  unfold draw_Order.f
  rw [check_bad h k hk, Option.bind_some, if_neg (by decide)]
theorem awake0 : windroselaw05_awake.f 200 = some true := by kernel_rfl
theorem awake_eq : ∀ k, 200 ≤ k → windroselaw05_awake.f k = some true := by
  intro k hk
  obtain ⟨d, rfl⟩ : ∃ d, k = 200 + d := ⟨k - 200, by omega⟩
  clear hk
  induction d with
  | zero => exact awake0
  | succ d ih => exact windroselaw05_awake.mono _ _ ih

/-! the order, plainly -/
/-- Who comes first. -/
def fst_ (key : Nat) (x y : S85) : Bool := draw_Order.lt 1000 (key : Int) x y
theorem fst_iff (key : Nat) (hkey : key < 18446744073709551616) (x y : S85) : fst_ key x y = true ↔ dc key x.f0 * y.f1 < dc key y.f0 * x.f1 ∨ (dc key x.f0 * y.f1 = dc key y.f0 * x.f1 ∧ x.f0 < y.f0) := by
  unfold fst_
  rw [draw_Order.lt_iff, cost_of key hkey, cost_of key hkey]
def heavy (l : List S85) : List S85 := l.filter fun x => !decide (x.f1 = 0)
theorem mem_heavy {l : List S85} {x : S85} : x ∈ heavy l ↔ x ∈ l ∧ x.f1 ≠ 0 := by
  unfold heavy
  rw [List.mem_filter]
  simp
theorem ord_def (key : Nat) (l : List S85) : ord key l = Hand.sortL (fst_ key) (heavy l) := rfl
theorem heavy_ok (key : Nat) (hkey : key < 18446744073709551616) {l : List S85} (h : fine l) : ∀ x ∈ heavy l, draw_compare.okc 1000 (key : Int) x = true := by
  intro x hx
  obtain ⟨h1, h2⟩ := mem_heavy.1 hx
  obtain ⟨⟨a, b⟩, c, d⟩ := fine_mem h x h1
  exact okc_of key hkey a b (by omega) d
theorem fine_one {l : List S85} (h : fine l) {x y : S85} (hx : x ∈ l) (hy : y ∈ l) (he : x.f0 = y.f0) : x = y := draw_Order.asc_one (asc_of (fine_pair h)) x hx y hy he
theorem ord_uniq (key : Nat) (hkey : key < 18446744073709551616) {l : List S85} (h : fine l) (t : List S85) (hp : t.Perm (heavy l)) (hs : t.Pairwise (fun a b => fst_ key b a = false)) : t = ord key l := by
  rw [ord_def]
  refine List.Perm.eq_of_pairwise (le := fun a b => fst_ key b a = false) (fun a b ha hb h1 h2 => ?_) hs (Hand.sortL_sorted (draw_Order.swo 1000 (key : Int)) _ (heavy_ok key hkey h)) (hp.trans (Hand.sortL_perm _ _).symm)
  exact fine_one h (mem_heavy.1 (hp.mem_iff.1 ha)).1 (mem_heavy.1 ((Hand.sortL_mem _ _).1 hb)).1 (draw_Order.uni h2 h1)
theorem fine_of {l : List S85} (hl : l.length ≤ 64) (hb : ∀ x ∈ l, (0 ≤ x.f0 ∧ x.f0 ≤ 2147483647) ∧ 0 ≤ x.f1 ∧ x.f1 ≤ 65536) (hp : l.Pairwise (fun x y => x.f0 < y.f0)) : fine l := by
  refine ⟨hl, fun j h0 h1 => ?_⟩
  obtain ⟨i, rfl⟩ : ∃ i : Nat, j = i := ⟨j.toNat, by omega⟩
  have hi : i < l.length := by omega
  obtain ⟨⟨a, b⟩, c, d⟩ := hb l[i] (List.getElem_mem hi)
  unfold good
  rw [rd_get l i hi]
  refine ⟨a, b, c, d, fun hp0 => ?_⟩
  obtain ⟨m, rfl⟩ : ∃ m, i = m + 1 := ⟨i - 1, by omega⟩
  rw [show ((m + 1 : Nat) : Int) - 1 = (m : Int) by omega, rd_get l m (by omega)]
  exact List.pairwise_iff_getElem.1 hp m (m + 1) (by omega) hi (by omega)
theorem fine_filter {l : List S85} (h : fine l) (p : S85 → Bool) : fine (l.filter p) :=
  fine_of (Nat.le_trans (List.length_filter_le p l) h.1) (fun x hx => fine_mem h x (List.mem_filter.1 hx).1) ((fine_pair h).filter p)
/-- The first of those that have weight. -/
def isBest (key : Nat) (l : List S85) (m : S85) : Prop := m ∈ heavy l ∧ ∀ y ∈ heavy l, y = m ∨ fst_ key m y = true
def less (l : List S85) (id : Int) : List S85 := l.filter fun y => !decide (y.f0 = id)
theorem mem_less {l : List S85} {id : Int} {x : S85} : x ∈ less l id ↔ x ∈ l ∧ x.f0 ≠ id := by
  unfold less
  rw [List.mem_filter]
  simp
theorem perm_less : ∀ {l : List S85} (hp : l.Pairwise (fun x y => x.f0 < y.f0)) {m : S85}, m ∈ l → l.Perm (m :: less l m.f0)
  | [], _, m, h => by simp at h
  | x :: r, hp, m, h => by
    obtain ⟨h1, h2⟩ := List.pairwise_cons.1 hp
    by_cases e : x.f0 = m.f0
    · have hx : x = m := by
        rcases List.mem_cons.1 h with rfl | hm
        · rfl
        · have := h1 m hm; omega
      subst hx
      have : less (x :: r) x.f0 = r := by
        unfold less
        rw [List.filter_cons_of_neg (by simp), List.filter_eq_self]
        intro y hy
        have := h1 y hy
        simp
        omega
      rw [this]
    · have hm : m ∈ r := by
        rcases List.mem_cons.1 h with rfl | hm
        · exact absurd rfl e
        · exact hm
      have : less (x :: r) m.f0 = x :: less r m.f0 := by
        unfold less
        rw [List.filter_cons_of_pos (by simpa using e)]
      rw [this]
      exact ((perm_less h2 hm).cons x).trans (List.Perm.swap m x _)
theorem heavy_less (l : List S85) (id : Int) : heavy (less l id) = less (heavy l) id := by
  unfold heavy less
  rw [List.filter_filter, List.filter_filter]
  congr 1
  funext x
  exact Bool.and_comm _ _
theorem ord_best (key : Nat) (hkey : key < 18446744073709551616) {l : List S85} (h : fine l) {m : S85} (hm : isBest key l m) : ord key l = m :: ord key (less l m.f0) := by
  symm
  apply ord_uniq key hkey h
  · have h1 : (ord key (less l m.f0)).Perm (less (heavy l) m.f0) := by rw [← heavy_less]; exact Hand.sortL_perm _ _
    exact (h1.cons m).trans (perm_less ((fine_pair h).filter _) hm.1).symm
  · refine List.pairwise_cons.2 ⟨fun y hy => ?_, Hand.sortL_sorted (draw_Order.swo 1000 (key : Int)) _ (heavy_ok key hkey (fine_filter h _))⟩
    have hy' : y ∈ heavy (less l m.f0) := (Hand.sortL_mem _ _).1 hy
    rw [heavy_less] at hy'
    obtain ⟨h1, h2⟩ := mem_less.1 hy'
    rcases hm.2 y h1 with rfl | hf
    · exact absurd rfl h2
    · exact (draw_Order.swo 1000 (key : Int)).asym (heavy_ok key hkey h m hm.1) (heavy_ok key hkey h y h1) hf
theorem ord_none (key : Nat) {l : List S85} (h : heavy l = []) : ord key l = [] := by rw [ord_def, h]; rfl
theorem ord_some (key : Nat) (hkey : key < 18446744073709551616) {l : List S85} (h : fine l) (hne : heavy l ≠ []) : ∃ m, isBest key l m ∧ ∃ r, ord key l = m :: r := by
  have hp : (ord key l).Perm (heavy l) := Hand.sortL_perm _ _
  cases e : ord key l with
  | nil => rw [e] at hp; exact absurd (List.nil_perm.1 hp) hne
  | cons m r =>
    have hs : (ord key l).Pairwise (fun a b => fst_ key b a = false) := Hand.sortL_sorted (draw_Order.swo 1000 (key : Int)) _ (heavy_ok key hkey h)
    rw [e] at hp hs
    have hm : m ∈ heavy l := hp.mem_iff.1 (by simp)
    refine ⟨m, ⟨hm, fun y hy => ?_⟩, r, rfl⟩
    rcases List.mem_cons.1 (hp.mem_iff.2 hy) with rfl | hr
    · exact .inl rfl
    · have h1 := (List.pairwise_cons.1 hs).1 y hr
      cases hc : fst_ key m y with
      | true => exact .inr rfl
      | false => exact .inl (fine_one h (mem_heavy.1 hy).1 (mem_heavy.1 hm).1 (draw_Order.uni h1 hc))
theorem best_eq (key : Nat) (hkey : key < 18446744073709551616) {l : List S85} (h : fine l) (k : Nat) (hk : 70 ≤ k) : (heavy l = [] ∧ draw_Best.f k (key : Int) l = some (0, false)) ∨ ∃ m, isBest key l m ∧ draw_Best.f k (key : Int) l = some (m.f0, true) := by
  unfold draw_Best.f
  rw [order_fine key hkey h k hk, Option.bind_some]
  by_cases hne : heavy l = []
  · refine .inl ⟨hne, ?_⟩
    rw [ord_none key hne, if_pos (show (((([] : List S85).map fun x => x.f0).length : Nat) : Int) = 0 from rfl)]
  · obtain ⟨m, hm, r, hr⟩ := ord_some key hkey h hne
    refine .inr ⟨m, hm, ?_⟩
    rw [hr, List.map_cons, if_neg (by rw [List.length_cons]; omega), if_pos (by rw [List.length_cons]; omega)]
    rfl
theorem best_bad (key : Int) {l : List S85} (h : ¬ fine l) (k : Nat) (hk : 70 ≤ k) : draw_Best.f k key l = some (0, false) := by
  unfold draw_Best.f
  rw [order_bad key h k hk, Option.bind_some, if_pos (show ((([] : List Int).length : Nat) : Int) = 0 from rfl)]

theorem i64wf (a : Int) (h0 : 0 ≤ a) (h1 : a ≤ 4294967296) : (Lit.int .i64 a).wf = true := by
  simp only [Lit.wf, IntKind.min, IntKind.max, IntKind.signed, IntKind.bits, Bool.and_eq_true]
  simp
  omega
theorem wt_none (a : Int) : ∀ (l : List S85) (g : Int → Int), (∀ y ∈ l, y.f0 ≠ a) → (l.foldl (fun g x => fun a => if a = x.f0 then x.f1 else g a) g) a = g a
  | [], g, _ => rfl
  | z :: r, g, h => by
    rw [List.foldl_cons, wt_none a r _ (fun y hy => h y (by simp [hy])), if_neg (fun e => h z (by simp) e.symm)]
theorem wt_some (a : Int) : ∀ {l : List S85}, l.Pairwise (fun x y => x.f0 < y.f0) → ∀ (g : Int → Int) (y : S85), y ∈ l → y.f0 = a → (l.foldl (fun g x => fun a => if a = x.f0 then x.f1 else g a) g) a = y.f1
  | [], _, _, _, h, _ => by simp at h
  | z :: r, hp, g, y, h, e => by
    obtain ⟨h1, h2⟩ := List.pairwise_cons.1 hp
    rw [List.foldl_cons]
    rcases List.mem_cons.1 h with rfl | hr
    · rw [wt_none a r _ (fun u hu => by have := h1 u hu; omega), if_pos e.symm]
    · exact wt_some a h2 _ y hr e
theorem wprod {a b : Int} (h0 : 0 ≤ a) (h1 : a ≤ 1179648) (h2 : 0 ≤ b) (h3 : b ≤ 65536) : wrap64 (a * b) = a * b := by
  have h4 : 0 ≤ a * b := Int.mul_nonneg h0 h2
  have h5 : a * b ≤ 1179648 * 65536 := Int.mul_le_mul h1 h3 h2 (by omega)
  generalize a * b = p at h4 h5 ⊢
  unfold wrap64
  omega
theorem okp_of (key : Nat) (hkey : key < 18446744073709551616) (g : Int → Int) (x y : S85) (gx : g x.f0 = x.f1) (gy : g y.f0 = y.f1) (hx : (0 ≤ x.f0 ∧ x.f0 ≤ 2147483647) ∧ 0 < x.f1 ∧ x.f1 ≤ 65536) (hy : (0 ≤ y.f0 ∧ y.f0 ≤ 2147483647) ∧ 0 < y.f1 ∧ y.f1 ≤ 65536) (h : fst_ key x y = true) :
    windroselaw05_DrawEach.okp 1000 (key : Int) g x.f0 y.f0 = true := by
  rw [fst_iff key hkey] at h
  obtain ⟨b1, b2⟩ := dc_bound key x.f0
  obtain ⟨b3, b4⟩ := dc_bound key y.f0
  have e1 := dcost_eq key hkey x.f0 1000 (by omega)
  have e2 := dcost_eq key hkey y.f0 1000 (by omega)
  unfold windroselaw05_DrawEach.okp windroselaw05_DrawEach.cost
  generalize draw_Cost.f 1000 (key : Int) x.f0 = o1 at e1 ⊢
  generalize draw_Cost.f 1000 (key : Int) y.f0 = o2 at e2 ⊢
  generalize dc key x.f0 = cx at *
  generalize dc key y.f0 = cy at *
  subst e1
  subst e2
  rw [gx, gy, Option.getD_some, Option.getD_some, wprod b1 b2 (by omega) hy.2.2, wprod b3 b4 (by omega) hx.2.2, i64wf x.f0 hx.1.1 (by omega), i64wf y.f0 hy.1.1 (by omega)]
  generalize cx * y.f1 = p at h ⊢
  generalize cy * x.f1 = q at h ⊢
  have n1 : x.f1 ≠ 0 := by omega
  have n2 : y.f1 ≠ 0 := by omega
  rw [decide_eq_true (show p ≤ q by omega), decide_eq_true n1, decide_eq_true n2]
  by_cases c : p = q
  · rw [decide_eq_true c, decide_eq_false (show ¬ x.f0 ≥ y.f0 by omega)]; rfl
  · rw [decide_eq_false c]; rfl
theorem pure (a0 : Int) (l : List S85) (h0 : (Lit.int .u64 a0).wf = true) : windroselaw05_DrawEach.f 2000 a0 l = some true := by
  obtain ⟨key, rfl, hkey⟩ := u64_at h0
  unfold windroselaw05_DrawEach.f
  by_cases c : l.length > 64
  · rw [if_pos c]; exact awake_eq 2000 (by omega)
  rw [if_neg c]
  by_cases hf : fine l
  · rw [may_fine hf 2000 (by omega), Option.bind_some, if_pos rfl, order_fine key hkey hf 2000 (by omega), Option.bind_some]
    have hlen : (ord key l).length ≤ 64 := by
      rw [ord_def, (Hand.sortL_perm _ _).length_eq]
      have := List.length_filter_le (fun x : S85 => !decide (x.f1 = 0)) l
      have h2 : (heavy l).length ≤ l.length := this
      omega
    have hs : (ord key l).Pairwise (fun a b => fst_ key b a = false) := Hand.sortL_sorted (draw_Order.swo 1000 (key : Int)) _ (heavy_ok key hkey hf)
    have hm : ∀ x ∈ ord key l, x ∈ heavy l := fun x hx => (Hand.sortL_mem _ _).1 hx
    have hnd : (ord key l).Pairwise (fun a b => a.f0 ≠ b.f0) := by
      have h1 : (heavy l).Pairwise (fun a b => a.f0 ≠ b.f0) := ((fine_pair hf).filter _).imp (fun h => by omega)
      exact (Hand.sortL_perm _ _).symm.pairwise h1 (fun h e => h e.symm)
    rw [if_pos (by rw [List.length_map]; omega), if_pos, if_pos]
    · exact awake_eq 2000 (by omega)
    · rw [List.all_eq_true]
      intro i hi
      have hi' := List.mem_range.1 hi
      rw [List.length_map] at hi'
      have hi1 : i + 1 < (ord key l).length := by omega
      have r : ∀ j, (hj : j < (ord key l).length) → rd ((ord key l).map fun x => x.f0) (j : Int) = (ord key l)[j].f0 := fun j hj => by
        unfold rd
        rw [Int.toNat_natCast, List.getD_eq_getElem?_getD, List.getElem?_map, List.getElem?_eq_getElem hj]
        rfl
      rw [r i (by omega), r (i + 1) hi1]
      have m1 := hm _ (List.getElem_mem (by omega : i < (ord key l).length))
      have m2 := hm _ (List.getElem_mem hi1)
      have s1 := List.pairwise_iff_getElem.1 hs i (i + 1) (by omega) hi1 (by omega)
      have s2 := List.pairwise_iff_getElem.1 hnd i (i + 1) (by omega) hi1 (by omega)
      generalize (ord key l)[i] = x at *
      generalize (ord key l)[i + 1] = y at *
      obtain ⟨x1, x2⟩ := mem_heavy.1 m1
      obtain ⟨y1, y2⟩ := mem_heavy.1 m2
      have bx := fine_mem hf x x1
      have by' := fine_mem hf y y1
      have hfst : fst_ key x y = true := by
        cases hc : fst_ key x y with
        | true => rfl
        | false => exact absurd (draw_Order.uni hc s1) s2
      exact okp_of key hkey _ x y (wt_some _ (fine_pair hf) _ x x1 rfl) (wt_some _ (fine_pair hf) _ y y1 rfl) ⟨bx.1, by omega, bx.2.2⟩ ⟨by'.1, by omega, by'.2.2⟩ hfst
    · rw [List.all_eq_true]
      intro x hx
      obtain ⟨⟨a, b⟩, d, e⟩ := fine_mem hf x hx
      rw [i64wf x.f0 a (by omega), i64wf x.f1 d (by omega)]
      rfl
  · rw [may_bad hf (by omega) 2000 (by omega), Option.bind_some, if_neg (by decide)]
    exact awake_eq 2000 (by omega)
end Go.Proofs.Ytilgmccdpddeoaa.PDrawEach
