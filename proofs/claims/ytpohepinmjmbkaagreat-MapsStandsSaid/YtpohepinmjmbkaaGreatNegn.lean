/- Plain numbers of costs: sixteen bits of a logarithm, doublings ahead of them; a cost never grows when its number does. -/
import Derived.Laws.Bits64
namespace Go.Proofs.YtpohepinmjmbkaaGreat.Negn

/-- n bits more of z, behind those of f. -/
def bitsOf : Nat → Nat → Nat → Nat
  | 0, _, f => f
  | n + 1, z, f => if z * z / 2147483648 ≤ 1073741824 then bitsOf n (2 * (z * z / 2147483648)) (2 * f + 1) else bitsOf n (z * z / 2147483648) (2 * f)
theorem bitsOf_bound (n : Nat) : ∀ z f, f * 2 ^ n ≤ bitsOf n z f ∧ bitsOf n z f < (f + 1) * 2 ^ n := by
  induction n with
  | zero => intro z f; simp [bitsOf]
  | succ n ih =>
    intro z f
    have hp : 2 ^ (n + 1) = 2 * 2 ^ n := by rw [Nat.pow_succ, Nat.mul_comm]
    have e1 : (2 * f + 1) * 2 ^ n = f * (2 * 2 ^ n) + 2 ^ n := by rw [Nat.add_mul, Nat.one_mul, Nat.mul_comm 2 f, Nat.mul_assoc]
    have e2 : (2 * f + 1 + 1) * 2 ^ n = (f + 1) * (2 * 2 ^ n) := by rw [show 2 * f + 1 + 1 = (f + 1) * 2 by omega, Nat.mul_assoc]
    have e3 : 2 * f * 2 ^ n = f * (2 * 2 ^ n) := by rw [Nat.mul_comm 2 f, Nat.mul_assoc]
    have e4 : (f + 1) * (2 * 2 ^ n) = f * (2 * 2 ^ n) + 2 * 2 ^ n := by rw [Nat.add_mul, Nat.one_mul]
    unfold bitsOf
    rw [hp]
    split
    · have := ih (2 * (z * z / 2147483648)) (2 * f + 1)
      rw [e1, e2] at this
      omega
    · have := ih (z * z / 2147483648) (2 * f)
      rw [e3, e1] at this
      omega
theorem bitsOf_falls (n : Nat) : ∀ z y f, z ≤ y → bitsOf n y f ≤ bitsOf n z f := by
  induction n with
  | zero => intro z y f _; exact Nat.le_refl _
  | succ n ih =>
    intro z y f h
    have hs : z * z / 2147483648 ≤ y * y / 2147483648 := Nat.div_le_div_right (Nat.mul_le_mul h h)
    have hz := bitsOf_bound n (2 * (z * z / 2147483648)) (2 * f + 1)
    have hy := bitsOf_bound n (y * y / 2147483648) (2 * f)
    unfold bitsOf
    by_cases c1 : z * z / 2147483648 ≤ 1073741824
    · rw [if_pos c1]
      by_cases c2 : y * y / 2147483648 ≤ 1073741824
      · rw [if_pos c2]
        exact ih _ _ _ (by omega)
      · rw [if_neg c2]
        omega
    · rw [if_neg c1, if_neg (by omega)]
      exact ih _ _ _ hs
/-- A number's cost, doubled n times at most. -/
def cst : Nat → Nat → Nat
  | 0, _ => 0
  | n + 1, u => if u ≤ 32768 then 65536 + cst n (2 * u) else bitsOf 16 (u * 32768) 0
theorem cst_succ (n u : Nat) : cst (n + 1) u = if u ≤ 32768 then 65536 + cst n (2 * u) else bitsOf 16 (u * 32768) 0 := rfl
def cost (u : Nat) : Nat := cst 17 u
theorem cst_more (n : Nat) : ∀ u, 32768 < u * 2 ^ n → cst (n + 2) u = cst (n + 1) u := by
  induction n with
  | zero =>
    intro u h
    have h1 : ¬ u ≤ 32768 := by rw [Nat.pow_zero, Nat.mul_one] at h; omega
    simp only [cst]
    rw [if_neg h1, if_neg h1]
  | succ n ih =>
    intro u h
    have h1 : u * 2 ^ (n + 1) = 2 * u * 2 ^ n := by rw [Nat.pow_succ, Nat.mul_comm (2 ^ n) 2, ← Nat.mul_assoc, Nat.mul_comm u 2]
    have h2 := ih (2 * u) (by omega)
    rw [cst_succ (n + 1 + 1) u, cst_succ (n + 1) u, h2]
theorem cost_half (u : Nat) (h1 : 1 ≤ u) (h2 : u ≤ 32768) : cost u = 65536 + cost (2 * u) := by
  have h3 := cst_more 15 (2 * u) (by omega)
  unfold cost
  rw [h3, cst, if_pos h2]
theorem bits16_lt (z : Nat) : bitsOf 16 z 0 < 65536 := by
  have := (bitsOf_bound 16 z 0).2
  omega
theorem cst_falls (n : Nat) : ∀ u v, 32768 < u * 2 ^ n → u ≤ v → cst (n + 1) v ≤ cst (n + 1) u := by
  induction n with
  | zero =>
    intro u v h h1
    rw [Nat.pow_zero, Nat.mul_one] at h
    simp only [cst]
    rw [if_neg (by omega), if_neg (by omega)]
    exact bitsOf_falls 16 _ _ _ (by omega)
  | succ n ih =>
    intro u v h h1
    have h2 : u * 2 ^ (n + 1) = 2 * u * 2 ^ n := by rw [Nat.pow_succ, Nat.mul_comm (2 ^ n) 2, ← Nat.mul_assoc, Nat.mul_comm u 2]
    rw [cst_succ (n + 1) v, cst_succ (n + 1) u]
    by_cases c1 : v ≤ 32768
    · rw [if_pos c1, if_pos (by omega)]
      have := ih (2 * u) (2 * v) (by omega) (by omega)
      omega
    · rw [if_neg c1]
      by_cases c2 : u ≤ 32768
      · rw [if_pos c2]
        have := bits16_lt (v * 32768)
        omega
      · rw [if_neg c2]
        exact bitsOf_falls 16 _ _ _ (by omega)
/-- The theorem of costs. -/
theorem cost_falls (u v : Nat) (h : 1 ≤ u) (h1 : u ≤ v) : cost v ≤ cost u := cst_falls 16 u v (by omega) h1
theorem cst_le (n : Nat) : ∀ u, cst n u ≤ n * 65536 + 65536 := by
  induction n with
  | zero => intro u; simp [cst]
  | succ n ih =>
    intro u
    rw [cst]
    split
    · have := ih (2 * u)
      omega
    · have := bits16_lt (u * 32768)
      omega
theorem cost_le (u : Nat) : cost u ≤ 1179648 := cst_le 17 u
theorem cost_one : cost 1 = 1048576 := by decide +kernel
theorem cost_half_one : cost 32768 = 65536 := by decide +kernel
theorem cost_top : cost 65536 = 0 := by decide +kernel
end Go.Proofs.YtpohepinmjmbkaaGreat.Negn
