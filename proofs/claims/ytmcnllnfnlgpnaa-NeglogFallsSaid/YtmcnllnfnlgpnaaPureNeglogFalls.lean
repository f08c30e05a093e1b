/- Of any two numbers from 1 to 65536 the greater one never costs more; no condition. -/
import Derived.Test.YtmcnllnfnlgpnaaQNeglogFalls
import Derived.Test.YtmcnllnfnlgpnaaNegn
namespace Go.Proofs.Ytmcnllnfnlgpnaa.Pure
open Go.RowKit Go.Proofs.Ytmcnllnfnlgpnaa.PNeglogFalls Go.Proofs.YtmcnllnfnlgpnaaW.PrintWords Go.Proofs.YtmcnllnfnlgpnaaW.PrintLast
namespace NeglogFallsAid
/-! a cost, as printed, is what the plain numbers are -/
theorem u64_nat (n : Nat) (h : n < 18446744073709551616) : IntKind.u64.wrap (n : Int) = n := by rw [IntKind.wrap_u64]; omega
theorem sq_div (z : Nat) (hz : z ≤ 2147483648) : IntKind.u64.wrap (Int.tdiv (IntKind.u64.wrap ((z : Int) * (z : Int))) 2147483648) = ((z * z / 2147483648 : Nat) : Int) ∧ z * z / 2147483648 ≤ 2147483648 := by
  have h1 : z * z ≤ 2147483648 * 2147483648 := Nat.mul_le_mul hz hz
  have h2 : (2147483648 : Nat) * 2147483648 = 4611686018427387904 := by decide
  rw [h2] at h1
  have e : (z : Int) * (z : Int) = ((z * z : Nat) : Int) := by rw [Int.natCast_mul]
  have h3 : z * z / 2147483648 ≤ 2147483648 := by omega
  rw [e, u64_nat _ (by omega), Int.tdiv_eq_ediv_of_nonneg (Int.natCast_nonneg _)]
  have e2 : ((z * z : Nat) : Int) / 2147483648 = ((z * z / 2147483648 : Nat) : Int) := by rw [Int.natCast_ediv]; rfl
  rw [e2, u64_nat _ (by omega)]
  exact ⟨rfl, h3⟩
theorem cost_l1 (c : Nat) (hc : c ≤ 17) (d : Nat) : ∀ (k z f i : Nat), i + d = 16 → d < k → z ≤ 2147483648 → f < 2 ^ i →
    neglog_Cost.l1 k (c : Int) (z : Int) (f : Int) (i : Int) = some ((c * 65536 + Negn.bitsOf d z f : Nat) : Int) := by
  induction d with
  | zero =>
    intro k z f i hi hk hz hf
    obtain ⟨k, rfl⟩ : ∃ m, k = m + 1 := ⟨k - 1, by omega⟩
    obtain rfl : i = 16 := by omega
    have hw : wrap64 (wrap64 ((c : Int) * 65536) + (f : Int)) = ((c * 65536 + f : Nat) : Int) := by unfold wrap64; omega
    rw [neglog_Cost.l1]
    rw [if_neg (by omega), hw]
    rfl
  | succ d ih =>
    intro k z f i hi hk hz hf
    obtain ⟨k, rfl⟩ : ∃ m, k = m + 1 := ⟨k - 1, by omega⟩
    have p1 : (i : Int) < 16 := by omega
    have hp : 2 ^ i ≤ 65536 := Nat.le_trans (Nat.pow_le_pow_right (by decide) (show i ≤ 16 by omega)) (by decide)
    have hp2 : 2 ^ (i + 1) = 2 * 2 ^ i := by rw [Nat.pow_succ, Nat.mul_comm]
    have w1 : wrap64 ((i : Int) + 1) = ((i + 1 : Nat) : Int) := by unfold wrap64; omega
    have w2 : wrap64 ((f : Int) * 2) = ((2 * f : Nat) : Int) := by unfold wrap64; omega
    have w3 : wrap64 (((2 * f : Nat) : Int) + 1) = ((2 * f + 1 : Nat) : Int) := by unfold wrap64; omega
    obtain ⟨e1, h1⟩ := sq_div z hz
    rw [neglog_Cost.l1, Negn.bitsOf]
    rw [if_pos p1, e1, w1, w2, w3]
    clear w1 w2 w3
    generalize z * z / 2147483648 = y at *
    clear e1
    by_cases cy : y ≤ 1073741824
    · have w4 : IntKind.u64.wrap ((y : Int) * 2) = ((2 * y : Nat) : Int) := by rw [IntKind.wrap_u64]; omega
      rw [if_pos (by omega), if_pos cy, w4]
      exact ih k (2 * y) (2 * f + 1) (i + 1) (by omega) (by omega) (by omega) (by omega)
    · rw [if_neg (by omega), if_neg cy]
      exact ih k y (2 * f) (i + 1) (by omega) (by omega) (by omega) (by omega)
theorem cost_l0 (d : Nat) : ∀ (k u c : Nat), 32768 < u * 2 ^ d → u ≤ 65536 → c + d ≤ 16 → d + 18 < k →
    neglog_Cost.l0 k (u : Int) (c : Int) = some ((c * 65536 + Negn.cst (d + 1) u : Nat) : Int) := by
  induction d with
  | zero =>
    intro k u c h h1 hc hk
    rw [Nat.pow_zero, Nat.mul_one] at h
    obtain ⟨k, rfl⟩ : ∃ m, k = m + 1 := ⟨k - 1, by omega⟩
    have w1 : IntKind.u64.wrap (IntKind.u64.wrap (u : Int) * 32768) = ((u * 32768 : Nat) : Int) := by rw [u64_nat _ (by omega), IntKind.wrap_u64]; omega
    rw [neglog_Cost.l0, Negn.cst_succ]
    rw [if_neg (by omega), if_neg (by omega), w1]
    exact cost_l1 c (by omega) 16 k (u * 32768) 0 0 (by omega) (by omega) (by omega) (by decide)
  | succ d ih =>
    intro k u c h h1 hc hk
    obtain ⟨k, rfl⟩ : ∃ m, k = m + 1 := ⟨k - 1, by omega⟩
    have h2 : u * 2 ^ (d + 1) = 2 * u * 2 ^ d := by rw [Nat.pow_succ, Nat.mul_comm (2 ^ d) 2, ← Nat.mul_assoc, Nat.mul_comm u 2]
    rw [neglog_Cost.l0, Negn.cst_succ]
    by_cases cu : u ≤ 32768
    · have w1 : wrap64 ((u : Int) * 2) = ((2 * u : Nat) : Int) := by unfold wrap64; omega
      have w2 : wrap64 ((c : Int) + 1) = ((c + 1 : Nat) : Int) := by unfold wrap64; omega
      rw [if_pos (by omega), if_pos cu, w1, w2, ih k (2 * u) (c + 1) (by omega) (by omega) (by omega) (by omega), show (c + 1) * 65536 + Negn.cst (d + 1) (2 * u) = c * 65536 + (65536 + Negn.cst (d + 1) (2 * u)) by omega]
    · have w1 : IntKind.u64.wrap (IntKind.u64.wrap (u : Int) * 32768) = ((u * 32768 : Nat) : Int) := by rw [u64_nat _ (by omega), IntKind.wrap_u64]; omega
      rw [if_neg (by omega), if_neg cu, w1]
      exact cost_l1 c (by omega) 16 k (u * 32768) 0 0 (by omega) (by omega) (by omega) (by decide)
/-- A number's cost; 0, if it is none that has one. -/
def costI (a : Int) : Int := if 1 ≤ a ∧ a ≤ 65536 then ((Negn.cost a.toNat : Nat) : Int) else 0
theorem costI_nat (u : Nat) (h1 : 1 ≤ u) (h2 : u ≤ 65536) : costI (u : Int) = ((Negn.cost u : Nat) : Int) := by
  unfold costI
  rw [if_pos ⟨by omega, by omega⟩, Int.toNat_natCast]
theorem cost_eq (a : Int) (k : Nat) (hk : 40 ≤ k) : neglog_Cost.f k a = some (costI a) := by
  obtain ⟨k, rfl⟩ : ∃ m, k = m + 1 := ⟨k - 1, by omega⟩
  unfold neglog_Cost.f
  by_cases c1 : a < 1
  · rw [if_pos c1, neglog_Cost.j0]
    rw [if_pos rfl]
    unfold costI
    rw [if_neg (by omega)]
  rw [if_neg c1, neglog_Cost.j0]
  by_cases c2 : a > 65536
  · rw [if_pos (decide_eq_true c2)]
    unfold costI
    rw [if_neg (by omega)]
  obtain ⟨u, rfl⟩ : ∃ u : Nat, a = u := ⟨a.toNat, by omega⟩
  rw [if_neg (by simpa using c2), costI_nat u (by omega) (by omega)]
  have h := cost_l0 16 k u 0 (by omega) (by omega) (by omega) (by omega)
  rw [Nat.zero_mul, Nat.zero_add] at h
  exact h
theorem awake_eq (k : Nat) (hk : 40 ≤ k) : windroselaw04_awake.f k = some true := by
  have h1 : costI 32768 = 65536 := by
    rw [show (32768 : Int) = ((32768 : Nat) : Int) from rfl, costI_nat 32768 (by decide) (by decide), Negn.cost_half_one]
    rfl
  have h2 : costI 1 = 1048576 := by
    rw [show (1 : Int) = ((1 : Nat) : Int) from rfl, costI_nat 1 (by decide) (by decide), Negn.cost_one]
    rfl
  unfold windroselaw04_awake.f
  rw [cost_eq _ k hk, Option.bind_some, h1, if_pos rfl, cost_eq _ k hk, Option.bind_some, h2]
  rfl

theorem u16_at {x : Int} (h : (Lit.int .u16 x).wf = true) : ∃ n : Nat, x = n ∧ n < 65536 := by
  simp only [Lit.wf, IntKind.min, IntKind.max, IntKind.signed, IntKind.bits, Bool.and_eq_true] at h
  simp at h
  exact ⟨x.toNat, by omega, by omega⟩
end NeglogFallsAid
open NeglogFallsAid

theorem NeglogFalls : windroselaw04_NeglogFalls.Pure := by
  intro a b h0 h1
  obtain ⟨u, rfl, hu⟩ := u16_at h0
  obtain ⟨v, rfl, hv⟩ := u16_at h1
  refine ⟨60, ?_⟩
  have w1 : wrap64 (1 + wrap64 (u : Int)) = ((1 + u : Nat) : Int) := by unfold wrap64; omega
  have w2 : wrap64 (1 + wrap64 (v : Int)) = ((1 + v : Nat) : Int) := by unfold wrap64; omega
  have e1 := cost_eq ((1 + u : Nat) : Int) 60 (by decide)
  have e2 := cost_eq ((1 + v : Nat) : Int) 60 (by decide)
  have e4 := awake_eq 60 (by decide)
  rw [costI_nat (1 + u) (by omega) (by omega)] at e1
  rw [costI_nat (1 + v) (by omega) (by omega)] at e2
  unfold windroselaw04_NeglogFalls.f
  rw [w1, w2]
  clear w1 w2 h0 h1
  by_cases c : u < v
  · have hf := Negn.cost_falls (1 + u) (1 + v) (by omega) (by omega)
    generalize Negn.cost (1 + u) = x at *
    generalize Negn.cost (1 + v) = y at *
    rw [if_pos (by omega), e1, Option.bind_some, e2, Option.bind_some, if_neg (by omega), if_neg (by omega), e4]
    rfl
  · rw [if_neg (by omega)]
    by_cases c2 : v < u
    · have hf := Negn.cost_falls (1 + v) (1 + u) (by omega) (by omega)
      generalize Negn.cost (1 + u) = x at *
      generalize Negn.cost (1 + v) = y at *
      rw [if_pos (by omega), e1, Option.bind_some, e2, Option.bind_some, if_neg (by omega), e4]
      rfl
    · rw [if_neg (by omega), e4]
      rfl
end Go.Proofs.Ytmcnllnfnlgpnaa.Pure
