/- For every number Cost tells what the reference tells; twice the number costs 65536 less; no condition. -/
import Derived.Test.YtmcnllnfnlgpnaaPNeglogCostsx1
import Derived.Test.YtmcnllnfnlgpnaaNegn
namespace Go.Proofs.Ytmcnllnfnlgpnaa.Pure
open Go.RowKit Go.Proofs.Ytmcnllnfnlgpnaa.PNeglogCosts Go.Proofs.YtmcnllnfnlgpnaaW.PrintWords Go.Proofs.YtmcnllnfnlgpnaaW.PrintLast
namespace NeglogCostsAid
/-! a cost, as printed, is what the plain numbers are -/
theorem u64_nat (n : Nat) (h : n < 18446744073709551616) : IntKind.u64.wrap (n : Int) = n := by rw [IntKind.wrap_u64]; omega
theorem sq_div (z : Nat) (hz : z ≤ 2147483648) : IntKind.u64.wrap (Int.tdiv (IntKind.u64.wrap ((z : Int) * (z : Int))) 2147483648) = ((z * z / 2147483648 : Nat) : Int) ∧ z * z / 2147483648 ≤ 2147483648 := by
  have h1 : z * z ≤ 2147483648 * 2147483648 := Nat.mul_le_mul hz hz
  have h2 : (2147483648 : Nat) * 2147483648 = 4611686018427387904 := by decide
  rw [h2] at h1
  have e : (z : Int) * (z : Int) = ((z * z : Nat) : Int) := by rw [Int.natCast_mul]
  have h3 : z * z / 2147483648 ≤ 2147483648 := by omega
  rw [e, u64_nat _ (by omega), Int.tdiv_eq_ediv_of_nonneg (Int.natCast_nonneg _)]
  have e2 : ((z * z : Nat) : Int) / 2147483648 = ((z * z / 2147483648 : Nat) : Int) := by rw [Int.natCast_ediv]; rfl
  rw [e2, u64_nat _ (by omega)]
  exact ⟨rfl, h3⟩
theorem cost_l1 (c : Nat) (hc : c ≤ 17) (d : Nat) : ∀ (k z f i : Nat), i + d = 16 → d < k → z ≤ 2147483648 → f < 2 ^ i →
    neglog_Cost.l1 k (c : Int) (z : Int) (f : Int) (i : Int) = some ((c * 65536 + Negn.bitsOf d z f : Nat) : Int) := by
  induction d with
  | zero =>
    intro k z f i hi hk hz hf
    obtain ⟨k, rfl⟩ : ∃ m, k = m + 1 := ⟨k - 1, by omega⟩
    obtain rfl : i = 16 := by omega
    have hw : wrap64 (wrap64 ((c : Int) * 65536) + (f : Int)) = ((c * 65536 + f : Nat) : Int) := by unfold wrap64; omega
    rw [neglog_Cost.l1]
    rw [if_neg (by omega), hw]
    rfl
  | succ d ih =>
    intro k z f i hi hk hz hf
    obtain ⟨k, rfl⟩ : ∃ m, k = m + 1 := ⟨k - 1, by omega⟩
    have p1 : (i : Int) < 16 := by omega
    have hp : 2 ^ i ≤ 65536 := Nat.le_trans (Nat.pow_le_pow_right (by decide) (show i ≤ 16 by omega)) (by decide)
    have hp2 : 2 ^ (i + 1) = 2 * 2 ^ i := by rw [Nat.pow_succ, Nat.mul_comm]
    have w1 : wrap64 ((i : Int) + 1) = ((i + 1 : Nat) : Int) := by unfold wrap64; omega
    have w2 : wrap64 ((f : Int) * 2) = ((2 * f : Nat) : Int) := by unfold wrap64; omega
    have w3 : wrap64 (((2 * f : Nat) : Int) + 1) = ((2 * f + 1 : Nat) : Int) := by unfold wrap64; omega
    obtain ⟨e1, h1⟩ := sq_div z hz
    rw [neglog_Cost.l1, Negn.bitsOf]
    rw [if_pos p1, e1, w1, w2, w3]
    clear w1 w2 w3
    generalize z * z / 2147483648 = y at *
    clear e1
    by_cases cy : y ≤ 1073741824
    · have w4 : IntKind.u64.wrap ((y : Int) * 2) = ((2 * y : Nat) : Int) := by rw [IntKind.wrap_u64]; omega
      rw [if_pos (by omega), if_pos cy, w4]
      exact ih k (2 * y) (2 * f + 1) (i + 1) (by omega) (by omega) (by omega) (by omega)
    · rw [if_neg (by omega), if_neg cy]
      exact ih k y (2 * f) (i + 1) (by omega) (by omega) (by omega) (by omega)
theorem cost_l0 (d : Nat) : ∀ (k u c : Nat), 32768 < u * 2 ^ d → u ≤ 65536 → c + d ≤ 16 → d + 18 < k →
    neglog_Cost.l0 k (u : Int) (c : Int) = some ((c * 65536 + Negn.cst (d + 1) u : Nat) : Int) := by
  induction d with
  | zero =>
    intro k u c h h1 hc hk
    rw [Nat.pow_zero, Nat.mul_one] at h
    obtain ⟨k, rfl⟩ : ∃ m, k = m + 1 := ⟨k - 1, by omega⟩
    have w1 : IntKind.u64.wrap (IntKind.u64.wrap (u : Int) * 32768) = ((u * 32768 : Nat) : Int) := by rw [u64_nat _ (by omega), IntKind.wrap_u64]; omega
    rw [neglog_Cost.l0, Negn.cst_succ]
    rw [if_neg (by omega), if_neg (by omega), w1]
    exact cost_l1 c (by omega) 16 k (u * 32768) 0 0 (by omega) (by omega) (by omega) (by decide)
  | succ d ih =>
    intro k u c h h1 hc hk
    obtain ⟨k, rfl⟩ : ∃ m, k = m + 1 := ⟨k - 1, by omega⟩
    have h2 : u * 2 ^ (d + 1) = 2 * u * 2 ^ d := by rw [Nat.pow_succ, Nat.mul_comm (2 ^ d) 2, ← Nat.mul_assoc, Nat.mul_comm u 2]
    rw [neglog_Cost.l0, Negn.cst_succ]
    by_cases cu : u ≤ 32768
    · have w1 : wrap64 ((u : Int) * 2) = ((2 * u : Nat) : Int) := by unfold wrap64; omega
      have w2 : wrap64 ((c : Int) + 1) = ((c + 1 : Nat) : Int) := by unfold wrap64; omega
      rw [if_pos (by omega), if_pos cu, w1, w2, ih k (2 * u) (c + 1) (by omega) (by omega) (by omega) (by omega), show (c + 1) * 65536 + Negn.cst (d + 1) (2 * u) = c * 65536 + (65536 + Negn.cst (d + 1) (2 * u)) by omega]
    · have w1 : IntKind.u64.wrap (IntKind.u64.wrap (u : Int) * 32768) = ((u * 32768 : Nat) : Int) := by rw [u64_nat _ (by omega), IntKind.wrap_u64]; omega
      rw [if_neg (by omega), if_neg cu, w1]
      exact cost_l1 c (by omega) 16 k (u * 32768) 0 0 (by omega) (by omega) (by omega) (by decide)
/-- A number's cost; 0, if it is none that has one. -/
def costI (a : Int) : Int := if 1 ≤ a ∧ a ≤ 65536 then ((Negn.cost a.toNat : Nat) : Int) else 0
theorem costI_nat (u : Nat) (h1 : 1 ≤ u) (h2 : u ≤ 65536) : costI (u : Int) = ((Negn.cost u : Nat) : Int) := by
  unfold costI
  rw [if_pos ⟨by omega, by omega⟩, Int.toNat_natCast]
theorem cost_eq (a : Int) (k : Nat) (hk : 40 ≤ k) : neglog_Cost.f k a = some (costI a) := by
  obtain ⟨k, rfl⟩ : ∃ m, k = m + 1 := ⟨k - 1, by omega⟩
  unfold neglog_Cost.f
  by_cases c1 : a < 1
  · rw [if_pos c1, neglog_Cost.j0]
    rw [if_pos rfl]
    unfold costI
    rw [if_neg (by omega)]
  rw [if_neg c1, neglog_Cost.j0]
  by_cases c2 : a > 65536
  · rw [if_pos (decide_eq_true c2)]
    unfold costI
    rw [if_neg (by omega)]
  obtain ⟨u, rfl⟩ : ∃ u : Nat, a = u := ⟨a.toNat, by omega⟩
  rw [if_neg (by simpa using c2), costI_nat u (by omega) (by omega)]
  have h := cost_l0 16 k u 0 (by omega) (by omega) (by omega) (by omega)
  rw [Nat.zero_mul, Nat.zero_add] at h
  exact h
theorem awake_eq (k : Nat) (hk : 40 ≤ k) : windroselaw04_awake.f k = some true := by
  have h1 : costI 32768 = 65536 := by
    rw [show (32768 : Int) = ((32768 : Nat) : Int) from rfl, costI_nat 32768 (by decide) (by decide), Negn.cost_half_one]
    rfl
  have h2 : costI 1 = 1048576 := by
    rw [show (1 : Int) = ((1 : Nat) : Int) from rfl, costI_nat 1 (by decide) (by decide), Negn.cost_one]
    rfl
  unfold windroselaw04_awake.f
  rw [cost_eq _ k hk, Option.bind_some, h1, if_pos rfl, cost_eq _ k hk, Option.bind_some, h2]
  rfl

theorem ref_l0 (d : Nat) : ∀ (k z f i : Nat), i + d = 16 → d < k → z ≤ 2147483648 → f < 2 ^ i →
    windroseref04_Cost.l0 k (z : Int) (f : Int) (i : Int) = some ((Negn.bitsOf d z f : Nat) : Int) := by
  induction d with
  | zero =>
    intro k z f i hi hk hz hf
    obtain ⟨k, rfl⟩ : ∃ m, k = m + 1 := ⟨k - 1, by omega⟩
    rw [windroseref04_Cost.l0]
    rw [if_neg (by omega)]
    rfl
  | succ d ih =>
    intro k z f i hi hk hz hf
    obtain ⟨k, rfl⟩ : ∃ m, k = m + 1 := ⟨k - 1, by omega⟩
    have p1 : (i : Int) < 16 := by omega
    have hp : 2 ^ i ≤ 65536 := Nat.le_trans (Nat.pow_le_pow_right (by decide) (show i ≤ 16 by omega)) (by decide)
    have hp2 : 2 ^ (i + 1) = 2 * 2 ^ i := by rw [Nat.pow_succ, Nat.mul_comm]
    have w1 : wrap64 ((i : Int) + 1) = ((i + 1 : Nat) : Int) := by unfold wrap64; omega
    have w2 : wrap64 (2 * (f : Int)) = ((2 * f : Nat) : Int) := by unfold wrap64; omega
    have w3 : wrap64 (((2 * f : Nat) : Int) + 1) = ((2 * f + 1 : Nat) : Int) := by unfold wrap64; omega
    obtain ⟨e1, h1⟩ := sq_div z hz
    rw [windroseref04_Cost.l0, Negn.bitsOf]
    rw [if_pos p1, e1, w1, w2, w3]
    clear w1 w2 w3
    generalize z * z / 2147483648 = y at *
    clear e1
    by_cases cy : y ≤ 1073741824
    · have w4 : IntKind.u64.wrap (2 * (y : Int)) = ((2 * y : Nat) : Int) := by rw [IntKind.wrap_u64]; omega
      rw [if_pos (by omega), if_pos cy, w4]
      exact ih k (2 * y) (2 * f + 1) (i + 1) (by omega) (by omega) (by omega) (by omega)
    · rw [if_neg (by omega), if_neg cy]
      exact ih k y (2 * f) (i + 1) (by omega) (by omega) (by omega) (by omega)
theorem refcost_nat (d : Nat) : ∀ (k u : Nat), 32768 < u * 2 ^ d → 1 ≤ u → u ≤ 65536 → d ≤ 16 → 2 * d + 20 ≤ k →
    windroseref04_Cost.f k (u : Int) = some ((Negn.cst (d + 1) u : Nat) : Int) := by
  have base : ∀ (k u n : Nat), 32768 < u → u ≤ 65536 → 20 ≤ k → windroseref04_Cost.f k (u : Int) = some ((Negn.cst (n + 1) u : Nat) : Int) := by
    intro k u n h h1 hk
    obtain ⟨k, rfl⟩ : ∃ m, k = m + 1 + 1 := ⟨k - 2, by omega⟩
    have w1 : IntKind.u64.wrap (IntKind.u64.wrap (u : Int) * 32768) = ((u * 32768 : Nat) : Int) := by rw [u64_nat _ (by omega), IntKind.wrap_u64]; omega
    rw [windroseref04_Cost.f, Negn.cst_succ]
    rw [if_neg (by omega), windroseref04_Cost.j0]
    rw [if_neg (by rw [decide_eq_true_eq]; omega), if_neg (by omega), if_neg (by omega), w1]
    exact ref_l0 16 k (u * 32768) 0 0 (by omega) (by omega) (by omega) (by decide)
  induction d with
  | zero =>
    intro k u h h0 h1 hd hk
    rw [Nat.pow_zero, Nat.mul_one] at h
    exact base k u 0 h h1 (by omega)
  | succ d ih =>
    intro k u h h0 h1 hd hk
    by_cases cu : u ≤ 32768
    · obtain ⟨k, rfl⟩ : ∃ m, k = m + 1 + 1 := ⟨k - 2, by omega⟩
      have h2 : u * 2 ^ (d + 1) = 2 * u * 2 ^ d := by rw [Nat.pow_succ, Nat.mul_comm (2 ^ d) 2, ← Nat.mul_assoc, Nat.mul_comm u 2]
      have w1 : wrap64 (2 * (u : Int)) = ((2 * u : Nat) : Int) := by unfold wrap64; omega
      have hc := Negn.cst_le (d + 1) (2 * u)
      have w2 : wrap64 (65536 + ((Negn.cst (d + 1) (2 * u) : Nat) : Int)) = ((65536 + Negn.cst (d + 1) (2 * u) : Nat) : Int) := by unfold wrap64; omega
      rw [windroseref04_Cost.f, Negn.cst_succ]
      rw [if_neg (by omega), windroseref04_Cost.j0]
      rw [if_neg (by rw [decide_eq_true_eq]; omega), if_pos (by omega), if_pos cu, w1, ih k (2 * u) (by omega) (by omega) (by omega) (by omega) (by omega), Option.bind_some, w2]
    · exact base k u (d + 1) (by omega) h1 (by omega)
theorem refcost_eq (a : Int) (k : Nat) (hk : 60 ≤ k) : windroseref04_Cost.f k a = some (costI a) := by
  by_cases c : 1 ≤ a ∧ a ≤ 65536
  · obtain ⟨u, rfl⟩ : ∃ u : Nat, a = u := ⟨a.toNat, by omega⟩
    rw [costI_nat u (by omega) (by omega)]
    exact refcost_nat 16 k u (by omega) (by omega) (by omega) (by omega) (by omega)
  · obtain ⟨k, rfl⟩ : ∃ m, k = m + 1 + 1 := ⟨k - 2, by omega⟩
    unfold costI
    rw [if_neg c, windroseref04_Cost.f]
    by_cases c1 : a < 1
    · rw [if_pos c1, windroseref04_Cost.j0]
      rw [if_pos rfl]
    · rw [if_neg c1, windroseref04_Cost.j0]
      rw [if_pos (decide_eq_true (by omega))]

end NeglogCostsAid
open NeglogCostsAid

theorem NeglogCosts : windroselaw04_NeglogCosts.Pure := by
  intro a h0
  refine ⟨60, ?_⟩
  have e1 := cost_eq a 60 (by decide)
  have e2 := refcost_eq a 60 (by decide)
  have e3 : neglog_Cost.f 60 65536 = some 0 := by
    rw [cost_eq 65536 60 (by decide), show (65536 : Int) = ((65536 : Nat) : Int) from rfl, costI_nat 65536 (by decide) (by decide), Negn.cost_top]
    rfl
  have e4 := awake_eq 60 (by decide)
  unfold windroselaw04_NeglogCosts.f
  rw [e1, Option.bind_some, e2, Option.bind_some, if_pos rfl]
  by_cases c1 : a < 1
  · rw [if_pos c1, e3, Option.bind_some, if_pos rfl, e4]; rfl
  rw [if_neg c1]
  by_cases c2 : a > 32768
  · rw [if_pos c2, e3, Option.bind_some, if_pos rfl, e4]; rfl
  rw [if_neg c2]
  obtain ⟨u, rfl⟩ : ∃ u : Nat, a = u := ⟨a.toNat, by omega⟩
  have w1 : wrap64 (2 * (u : Int)) = ((2 * u : Nat) : Int) := by unfold wrap64; omega
  have h2 := Negn.cost_half u (by omega) (by omega)
  have h3 := Negn.cost_le u
  have w2 : wrap64 (((Negn.cost u : Nat) : Int) - 65536) = ((Negn.cost (2 * u) : Nat) : Int) := by unfold wrap64; omega
  rw [w1, cost_eq _ 60 (by decide), Option.bind_some, costI_nat u (by omega) (by omega), costI_nat (2 * u) (by omega) (by omega), w2, if_pos rfl, e3, Option.bind_some, if_pos rfl, e4]
  rfl
end Go.Proofs.Ytmcnllnfnlgpnaa.Pure
