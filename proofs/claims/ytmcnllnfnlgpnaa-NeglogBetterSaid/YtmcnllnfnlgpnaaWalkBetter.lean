/- NeglogBetter: for every three costs with weights the law's body comes to true; no condition. -/
import Derived.Test.YtmcnllnfnlgpnaaPNeglogBetterx1
import Derived.Test.YtmcnllnfnlgpnaaNegn
namespace Go.Proofs.Ytmcnllnfnlgpnaa.Pure
open Go.RowKit Go.Proofs.Ytmcnllnfnlgpnaa.PNeglogBetter Go.Proofs.YtmcnllnfnlgpnaaW.PrintWords Go.Proofs.YtmcnllnfnlgpnaaW.PrintLast Go.Proofs.YtmcnllnfnlgpnaaW.PrintMore
namespace NeglogBetterAid
/-! a cost, as printed, is what the plain numbers are -/
theorem u64_nat (n : Nat) (h : n < 18446744073709551616) : IntKind.u64.wrap (n : Int) = n := by rw [IntKind.wrap_u64]; omega
theorem sq_div (z : Nat) (hz : z ≤ 2147483648) : IntKind.u64.wrap (Int.tdiv (IntKind.u64.wrap ((z : Int) * (z : Int))) 2147483648) = ((z * z / 2147483648 : Nat) : Int) ∧ z * z / 2147483648 ≤ 2147483648 := by
  have h1 : z * z ≤ 2147483648 * 2147483648 := Nat.mul_le_mul hz hz
  have h2 : (2147483648 : Nat) * 2147483648 = 4611686018427387904 := by decide
  rw [h2] at h1
  have e : (z : Int) * (z : Int) = ((z * z : Nat) : Int) := by rw [Int.natCast_mul]
  have h3 : z * z / 2147483648 ≤ 2147483648 := by omega
  rw [e, u64_nat _ (by omega), Int.tdiv_eq_ediv_of_nonneg (Int.natCast_nonneg _)]
  have e2 : ((z * z : Nat) : Int) / 2147483648 = ((z * z / 2147483648 : Nat) : Int) := by rw [Int.natCast_ediv]; rfl
  rw [e2, u64_nat _ (by omega)]
  exact ⟨rfl, h3⟩
theorem cost_l1 (c : Nat) (hc : c ≤ 17) (d : Nat) : ∀ (k z f i : Nat), i + d = 16 → d < k → z ≤ 2147483648 → f < 2 ^ i →
    neglog_Cost.l1 k (c : Int) (z : Int) (f : Int) (i : Int) = some ((c * 65536 + Negn.bitsOf d z f : Nat) : Int) := by
  induction d with
  | zero =>
    intro k z f i hi hk hz hf
    obtain ⟨k, rfl⟩ : ∃ m, k = m + 1 := ⟨k - 1, by omega⟩
    obtain rfl : i = 16 := by omega
    have hw : wrap64 (wrap64 ((c : Int) * 65536) + (f : Int)) = ((c * 65536 + f : Nat) : Int) := by unfold wrap64; omega
    rw [neglog_Cost.l1]
    rw [if_neg (by omega), hw]
    rfl
  | succ d ih =>
    intro k z f i hi hk hz hf
    obtain ⟨k, rfl⟩ : ∃ m, k = m + 1 := ⟨k - 1, by omega⟩
    have p1 : (i : Int) < 16 := by omega
    have hp : 2 ^ i ≤ 65536 := Nat.le_trans (Nat.pow_le_pow_right (by decide) (show i ≤ 16 by omega)) (by decide)
    have hp2 : 2 ^ (i + 1) = 2 * 2 ^ i := by rw [Nat.pow_succ, Nat.mul_comm]
    have w1 : wrap64 ((i : Int) + 1) = ((i + 1 : Nat) : Int) := by unfold wrap64; omega
    have w2 : wrap64 ((f : Int) * 2) = ((2 * f : Nat) : Int) := by unfold wrap64; omega
    have w3 : wrap64 (((2 * f : Nat) : Int) + 1) = ((2 * f + 1 : Nat) : Int) := by unfold wrap64; omega
    obtain ⟨e1, h1⟩ := sq_div z hz
    rw [neglog_Cost.l1, Negn.bitsOf]
    rw [if_pos p1, e1, w1, w2, w3]
    clear w1 w2 w3
    generalize z * z / 2147483648 = y at *
    clear e1
    by_cases cy : y ≤ 1073741824
    · have w4 : IntKind.u64.wrap ((y : Int) * 2) = ((2 * y : Nat) : Int) := by rw [IntKind.wrap_u64]; omega
      rw [if_pos (by omega), if_pos cy, w4]
      exact ih k (2 * y) (2 * f + 1) (i + 1) (by omega) (by omega) (by omega) (by omega)
    · rw [if_neg (by omega), if_neg cy]
      exact ih k y (2 * f) (i + 1) (by omega) (by omega) (by omega) (by omega)
theorem cost_l0 (d : Nat) : ∀ (k u c : Nat), 32768 < u * 2 ^ d → u ≤ 65536 → c + d ≤ 16 → d + 18 < k →
    neglog_Cost.l0 k (u : Int) (c : Int) = some ((c * 65536 + Negn.cst (d + 1) u : Nat) : Int) := by
  induction d with
  | zero =>
    intro k u c h h1 hc hk
    rw [Nat.pow_zero, Nat.mul_one] at h
    obtain ⟨k, rfl⟩ : ∃ m, k = m + 1 := ⟨k - 1, by omega⟩
    have w1 : IntKind.u64.wrap (IntKind.u64.wrap (u : Int) * 32768) = ((u * 32768 : Nat) : Int) := by rw [u64_nat _ (by omega), IntKind.wrap_u64]; omega
    rw [neglog_Cost.l0, Negn.cst_succ]
    rw [if_neg (by omega), if_neg (by omega), w1]
    exact cost_l1 c (by omega) 16 k (u * 32768) 0 0 (by omega) (by omega) (by omega) (by decide)
  | succ d ih =>
    intro k u c h h1 hc hk
    obtain ⟨k, rfl⟩ : ∃ m, k = m + 1 := ⟨k - 1, by omega⟩
    have h2 : u * 2 ^ (d + 1) = 2 * u * 2 ^ d := by rw [Nat.pow_succ, Nat.mul_comm (2 ^ d) 2, ← Nat.mul_assoc, Nat.mul_comm u 2]
    rw [neglog_Cost.l0, Negn.cst_succ]
    by_cases cu : u ≤ 32768
    · have w1 : wrap64 ((u : Int) * 2) = ((2 * u : Nat) : Int) := by unfold wrap64; omega
      have w2 : wrap64 ((c : Int) + 1) = ((c + 1 : Nat) : Int) := by unfold wrap64; omega
      rw [if_pos (by omega), if_pos cu, w1, w2, ih k (2 * u) (c + 1) (by omega) (by omega) (by omega) (by omega), show (c + 1) * 65536 + Negn.cst (d + 1) (2 * u) = c * 65536 + (65536 + Negn.cst (d + 1) (2 * u)) by omega]
    · have w1 : IntKind.u64.wrap (IntKind.u64.wrap (u : Int) * 32768) = ((u * 32768 : Nat) : Int) := by rw [u64_nat _ (by omega), IntKind.wrap_u64]; omega
      rw [if_neg (by omega), if_neg cu, w1]
      exact cost_l1 c (by omega) 16 k (u * 32768) 0 0 (by omega) (by omega) (by omega) (by decide)
/-- A number's cost; 0, if it is none that has one. -/
def costI (a : Int) : Int := if 1 ≤ a ∧ a ≤ 65536 then ((Negn.cost a.toNat : Nat) : Int) else 0
theorem costI_nat (u : Nat) (h1 : 1 ≤ u) (h2 : u ≤ 65536) : costI (u : Int) = ((Negn.cost u : Nat) : Int) := by
  unfold costI
  rw [if_pos ⟨by omega, by omega⟩, Int.toNat_natCast]
theorem cost_eq (a : Int) (k : Nat) (hk : 40 ≤ k) : neglog_Cost.f k a = some (costI a) := by
  obtain ⟨k, rfl⟩ : ∃ m, k = m + 1 := ⟨k - 1, by omega⟩
  unfold neglog_Cost.f
  by_cases c1 : a < 1
  · rw [if_pos c1, neglog_Cost.j0]
    rw [if_pos rfl]
    unfold costI
    rw [if_neg (by omega)]
  rw [if_neg c1, neglog_Cost.j0]
  by_cases c2 : a > 65536
  · rw [if_pos (decide_eq_true c2)]
    unfold costI
    rw [if_neg (by omega)]
  obtain ⟨u, rfl⟩ : ∃ u : Nat, a = u := ⟨a.toNat, by omega⟩
  rw [if_neg (by simpa using c2), costI_nat u (by omega) (by omega)]
  have h := cost_l0 16 k u 0 (by omega) (by omega) (by omega) (by omega)
  rw [Nat.zero_mul, Nat.zero_add] at h
  exact h
theorem awake_eq (k : Nat) (hk : 40 ≤ k) : windroselaw04_awake.f k = some true := by
  have h1 : costI 32768 = 65536 := by
    rw [show (32768 : Int) = ((32768 : Nat) : Int) from rfl, costI_nat 32768 (by decide) (by decide), Negn.cost_half_one]
    rfl
  have h2 : costI 1 = 1048576 := by
    rw [show (1 : Int) = ((1 : Nat) : Int) from rfl, costI_nat 1 (by decide) (by decide), Negn.cost_one]
    rfl
  unfold windroselaw04_awake.f
  rw [cost_eq _ k hk, Option.bind_some, h1, if_pos rfl, cost_eq _ k hk, Option.bind_some, h2]
  rfl

/-- Whether a cost with a weight is better than another one. -/
def bet (a b c d : Int) : Bool := decide ((0 ≤ a ∧ a ≤ 2147483647) ∧ (1 ≤ b ∧ b ≤ 2147483647) ∧ (0 ≤ c ∧ c ≤ 2147483647) ∧ (1 ≤ d ∧ d ≤ 2147483647) ∧ a * d < c * b)
theorem mul_in {a d : Int} (h1 : 0 ≤ a) (h2 : a ≤ 2147483647) (h3 : 0 ≤ d) (h4 : d ≤ 2147483647) : wrap64 (a * d) = a * d := by
  have h5 : 0 ≤ a * d := Int.mul_nonneg h1 h3
  have h6 : a * d ≤ 2147483647 * 2147483647 := Int.mul_le_mul h2 h4 h3 (by decide)
  have h7 : (2147483647 : Int) * 2147483647 = 4611686014132420609 := by decide
  rw [h7] at h6
  unfold wrap64
  omega
theorem better_eq (a b c d : Int) : neglog_Better.f a b c d = some (bet a b c d) := by
  have hin : ∀ n : Int, neglog_in.f n = some (decide (0 ≤ n ∧ n ≤ 2147483647)) := by
    intro n
    unfold neglog_in.f
    by_cases h : n ≥ 0
    · rw [if_pos h]; congr 1; exact decide_eq_decide.2 (by omega)
    · rw [if_neg h]; congr 1; exact (decide_eq_false (by omega)).symm
  unfold neglog_Better.f
  rw [hin, Option.bind_some, hin, hin, hin]
  by_cases h1 : 0 ≤ a ∧ a ≤ 2147483647
  · rw [if_pos (decide_eq_true h1), Option.bind_some]
    by_cases h2 : 0 ≤ b ∧ b ≤ 2147483647
    · rw [if_pos (decide_eq_true h2), Option.bind_some]
      by_cases h3 : 0 ≤ c ∧ c ≤ 2147483647
      · rw [if_pos (decide_eq_true h3), Option.bind_some]
        by_cases h4 : 0 ≤ d ∧ d ≤ 2147483647
        · rw [if_pos (decide_eq_true h4)]
          by_cases h5 : b > 0
          · rw [if_pos h5]
            by_cases h6 : d > 0
            · rw [if_pos h6, mul_in h1.1 h1.2 h4.1 h4.2, mul_in h3.1 h3.2 h2.1 h2.2]
              congr 1
              exact decide_eq_decide.2 ⟨fun h => ⟨h1, ⟨by omega, h2.2⟩, h3, ⟨by omega, h4.2⟩, h⟩, fun h => h.2.2.2.2⟩
            · rw [if_neg h6]; congr 1; exact (decide_eq_false (fun h => h6 (by have := h.2.2.2.1.1; omega))).symm
          · rw [if_neg h5]; congr 1; exact (decide_eq_false (fun h => h5 (by have := h.2.1.1; omega))).symm
        · rw [if_neg (by rw [decide_eq_true_eq]; exact h4)]; congr 1; exact (decide_eq_false (fun h => h4 ⟨by have := h.2.2.2.1.1; omega, h.2.2.2.1.2⟩)).symm
      · rw [if_neg (by rw [decide_eq_true_eq]; exact h3)]; congr 1; exact (decide_eq_false (fun h => h3 h.2.2.1)).symm
    · rw [if_neg (by rw [decide_eq_true_eq]; exact h2)]; congr 1; exact (decide_eq_false (fun h => h2 ⟨by have := h.2.1.1; omega, h.2.1.2⟩)).symm
  · rw [if_neg (by rw [decide_eq_true_eq]; exact h1)]; congr 1; exact (decide_eq_false (fun h => h1 h.1)).symm
theorem refbetter_eq (a b c d : Int) : windroseref04_Better.f a b c d = some (bet a b c d) := by
  unfold windroseref04_Better.f
  have no : ∀ {P : Prop} [Decidable P], ¬ P → some false = some (decide P) := fun h => by rw [decide_eq_false h]
  by_cases h1 : a < 0
  · rw [if_pos h1]; exact no (fun h => by have := h.1.1; omega)
  rw [if_neg h1]
  by_cases h2 : b < 1
  · rw [if_pos h2]; exact no (fun h => by have := h.2.1.1; omega)
  rw [if_neg h2]
  by_cases h3 : c < 0
  · rw [if_pos h3]; exact no (fun h => by have := h.2.2.1.1; omega)
  rw [if_neg h3]
  by_cases h4 : d < 1
  · rw [if_pos h4]; exact no (fun h => by have := h.2.2.2.1.1; omega)
  rw [if_neg h4]
  by_cases h5 : a > 2147483647
  · rw [if_pos h5]; exact no (fun h => by have := h.1.2; omega)
  rw [if_neg h5]
  by_cases h6 : b > 2147483647
  · rw [if_pos h6]; exact no (fun h => by have := h.2.1.2; omega)
  rw [if_neg h6]
  by_cases h7 : c > 2147483647
  · rw [if_pos h7]; exact no (fun h => by have := h.2.2.1.2; omega)
  rw [if_neg h7]
  by_cases h8 : d > 2147483647
  · rw [if_pos h8]; exact no (fun h => by have := h.2.2.2.1.2; omega)
  rw [if_neg h8, mul_in (by omega) (by omega) (by omega) (by omega), mul_in (by omega) (by omega) (by omega) (by omega)]
  congr 1
  exact decide_eq_decide.2 ⟨fun h => ⟨⟨by omega, by omega⟩, ⟨by omega, by omega⟩, ⟨by omega, by omega⟩, ⟨by omega, by omega⟩, h⟩, fun h => h.2.2.2.2⟩
theorem bet_asym {a b c d : Int} (h : bet a b c d = true) : bet c d a b = false := by
  have h := of_decide_eq_true h
  exact decide_eq_false (fun g => by have := h.2.2.2.2; have := g.2.2.2.2; omega)
theorem bet_trans {a b c d x y : Int} (h : bet a b c d = true) (g : bet c d x y = true) : bet a b x y = true := by
  obtain ⟨h1, h2, h3, h4, h5⟩ := of_decide_eq_true h
  obtain ⟨g1, g2, g3, g4, g5⟩ := of_decide_eq_true g
  refine decide_eq_true ⟨h1, h2, g3, g4, ?_⟩
  -- a d < c b, c y < x d: a d y < c b y, c y b < x d b
  have k1 : a * d * y < c * b * y := Int.mul_lt_mul_of_pos_right h5 (by omega)
  have k2 : c * y * b < x * d * b := Int.mul_lt_mul_of_pos_right g5 (by omega)
  have e1 : a * d * y = a * y * d := by rw [Int.mul_assoc, Int.mul_comm d y, ← Int.mul_assoc]
  have e2 : c * b * y = c * y * b := by rw [Int.mul_assoc, Int.mul_comm b y, ← Int.mul_assoc]
  have e3 : x * d * b = x * b * d := by rw [Int.mul_assoc, Int.mul_comm d b, ← Int.mul_assoc]
  have k3 : a * y * d < x * b * d := by rw [← e1, ← e3]; rw [e2] at k1; exact Int.lt_trans k1 k2
  exact Int.lt_of_mul_lt_mul_right k3 (by omega)
theorem calls_better (a b c d : Int) (w : World) : Calls Try.prog 23 #[.int .i64 a, .int .i64 b, .int .i64 c, .int .i64 d] w fun e w' => e = .returned (.bool (bet a b c d)) ∧ Drawn0 w w' :=
  neglog_Better.calls a b c d _ w (better_eq a b c d)
theorem calls_ref (a b c d : Int) (w : World) : Calls Try.prog 24 #[.int .i64 a, .int .i64 b, .int .i64 c, .int .i64 d] w fun e w' => e = .returned (.bool (bet a b c d)) ∧ Drawn0 w w' :=
  windroseref04_Better.calls a b c d _ w (refbetter_eq a b c d)
theorem calls_awake (w : World) : Calls Try.prog 17 #[] w fun e w' => e = .returned (.bool true) ∧ Drawn0 w w' :=
  windroselaw04_awake.calls 60 true w (awake_eq 60 (by decide))
set_option maxRecDepth 100000 in
set_option maxHeartbeats 1000000 in
theorem walk_no (a0 a1 b0 b1 c0 c1 : Int) (w : World) (hx : bet a0 a1 b0 b1 = false) :
    Calls Try.prog 8 #[.agg #[.int .i64 a0, .int .i64 a1], .agg #[.int .i64 b0, .int .i64 b1], .agg #[.int .i64 c0, .int .i64 c1]] w fun e w' => e = .returned (.bool true) ∧ Below w.heap.size w w' := by
  go_enter Try.func8, Try.ntmps8
  go_wp2_with (first | (go_at_call 23; refine (calls_better _ _ _ _ _).mono ?_; rintro e w' ⟨rfl, ⟨nd, rfl⟩⟩) | (go_at_call 24; refine (calls_ref _ _ _ _ _).mono ?_; rintro e w' ⟨rfl, ⟨nd, rfl⟩⟩) | (go_at_call 17; refine (calls_awake _).mono ?_; rintro e w' ⟨rfl, ⟨nd, rfl⟩⟩))
  go_ret
  exact ⟨by simp, pw_below_drewN (below_alloc (below_alloc (below_alloc (Below.refl _ _) _) _) _) _⟩
set_option maxRecDepth 100000 in
set_option maxHeartbeats 1000000 in
theorem walk_one (a0 a1 b0 b1 c0 c1 : Int) (w : World) (hx : bet a0 a1 b0 b1 = true) (hy : bet b0 b1 a0 a1 = false) (hz : bet b0 b1 c0 c1 = false) :
    Calls Try.prog 8 #[.agg #[.int .i64 a0, .int .i64 a1], .agg #[.int .i64 b0, .int .i64 b1], .agg #[.int .i64 c0, .int .i64 c1]] w fun e w' => e = .returned (.bool true) ∧ Below w.heap.size w w' := by
  go_enter Try.func8, Try.ntmps8
  go_wp2_with (first | (go_at_call 23; refine (calls_better _ _ _ _ _).mono ?_; rintro e w' ⟨rfl, ⟨nd, rfl⟩⟩) | (go_at_call 24; refine (calls_ref _ _ _ _ _).mono ?_; rintro e w' ⟨rfl, ⟨nd, rfl⟩⟩) | (go_at_call 17; refine (calls_awake _).mono ?_; rintro e w' ⟨rfl, ⟨nd, rfl⟩⟩))
  go_ret
  exact ⟨by simp, pw_below_drewN (below_alloc (below_alloc (below_alloc (Below.refl _ _) _) _) _) _⟩
set_option maxRecDepth 100000 in
set_option maxHeartbeats 1000000 in
theorem walk_all (a0 a1 b0 b1 c0 c1 : Int) (w : World) (hx : bet a0 a1 b0 b1 = true) (hy : bet b0 b1 a0 a1 = false) (hz : bet b0 b1 c0 c1 = true) (hv : bet a0 a1 c0 c1 = true) :
    Calls Try.prog 8 #[.agg #[.int .i64 a0, .int .i64 a1], .agg #[.int .i64 b0, .int .i64 b1], .agg #[.int .i64 c0, .int .i64 c1]] w fun e w' => e = .returned (.bool true) ∧ Below w.heap.size w w' := by
  go_enter Try.func8, Try.ntmps8
  go_wp2_with (first | (go_at_call 23; refine (calls_better _ _ _ _ _).mono ?_; rintro e w' ⟨rfl, ⟨nd, rfl⟩⟩) | (go_at_call 24; refine (calls_ref _ _ _ _ _).mono ?_; rintro e w' ⟨rfl, ⟨nd, rfl⟩⟩) | (go_at_call 17; refine (calls_awake _).mono ?_; rintro e w' ⟨rfl, ⟨nd, rfl⟩⟩))
  go_ret
  exact ⟨by simp, pw_below_drewN (below_alloc (below_alloc (below_alloc (Below.refl _ _) _) _) _) _⟩
theorem walk (a0 a1 b0 b1 c0 c1 : Int) (w : World) :
    Calls Try.prog 8 #[.agg #[.int .i64 a0, .int .i64 a1], .agg #[.int .i64 b0, .int .i64 b1], .agg #[.int .i64 c0, .int .i64 c1]] w fun e w' => e = .returned (.bool true) ∧ Below w.heap.size w w' := by
  cases hx : bet a0 a1 b0 b1 with
  | false => exact walk_no a0 a1 b0 b1 c0 c1 w hx
  | true =>
    cases hz : bet b0 b1 c0 c1 with
    | false => exact walk_one a0 a1 b0 b1 c0 c1 w hx (bet_asym hx) hz
    | true => exact walk_all a0 a1 b0 b1 c0 c1 w hx (bet_asym hx) hz (bet_trans hx hz)
end NeglogBetterAid
end Go.Proofs.Ytmcnllnfnlgpnaa.Pure
