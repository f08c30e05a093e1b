/- DrawCosts, plainly: any choice's cost and share. -/
import Derived.Test.YtilgmccdpddeoaaPDrawCostsx
import Derived.Test.YtilgmccdpddeoaaMixn
import Derived.Test.YtilgmccdpddeoaaNegn
namespace Go.Proofs.Ytilgmccdpddeoaa.PDrawCosts
set_option linter.unusedVariables false
open Go.RowKit Go.Proofs.Ytilgmccdpddeoaa Go.Proofs.YtilgmccdpddeoaaW.PrintWords Go.Proofs.YtilgmccdpddeoaaW.PrintLast Go.Proofs.YtilgmccdpddeoaaW.PrintMore
/-! mixing, as printed, is what the plain numbers are -/
theorem w1 : wrap64 (0 + 1) = 1 := by unfold wrap64; omega
theorem w2 : wrap64 (1 + 1) = 2 := by unfold wrap64; omega
theorem xs (X : Nat) (hX : X < 18446744073709551616) : Go.bits .xor .u64 (X : Int) ((X : Int) / 4294967296) = ((Mixn.sh X : Nat) : Int) := xorShift_u64 X 4294967296 hX
theorem xm (X : Nat) (hX : X < 18446744073709551616) : IntKind.u64.wrap (Go.bits .xor .u64 (X : Int) ((X : Int) / 4294967296) * 15485907386658061715) = ((Mixn.mf (Mixn.sh X) : Nat) : Int) := by
  rw [xs X hX, IntKind.wrap_u64]
  rfl
theorem mix_eq (x : Nat) (hx : x < 18446744073709551616) (k : Nat) : mix_Mix.f (k + 3) (x : Int) = some ((Mixn.mix x : Nat) : Int) := by
  unfold mix_Mix.f
  simp only [mix_Mix.l0]
  rw [if_pos (by decide), w1, if_pos (by decide), w2, if_neg (by decide), xm x hx, xm _ (Mixn.mf_lt _), xs _ (Mixn.mf_lt _)]
  rfl
theorem u64_at {x : Int} (h : (Lit.int .u64 x).wf = true) : ∃ n : Nat, x = n ∧ n < 18446744073709551616 := by
  simp only [Lit.wf, IntKind.min, IntKind.max, IntKind.signed, IntKind.bits, Bool.and_eq_true] at h
  simp at h
  exact ⟨x.toNat, by omega, by omega⟩

theorem shift_eq (x : Nat) (hx : x < 18446744073709551616) : windroseref01_shift.f (x : Int) = some ((Mixn.sh x : Nat) : Int) := by
  unfold windroseref01_shift.f
  have e2 : Int.tdiv (x : Int) 4294967296 = ((x / 4294967296 : Nat) : Int) := by rw [Int.tdiv_eq_ediv_of_nonneg (Int.natCast_nonneg _), Int.natCast_ediv]; rfl
  have e3 : IntKind.u64.wrap ((x / 4294967296 : Nat) : Int) = ((x / 4294967296 : Nat) : Int) := by rw [IntKind.wrap_u64]; omega
  have e4 : Int.tmod (x : Int) 4294967296 = ((x % 4294967296 : Nat) : Int) := by rw [Int.tmod_eq_emod_of_nonneg (Int.natCast_nonneg _), Int.natCast_emod]; rfl
  have e5 : Go.bits .xor .u64 ((x % 4294967296 : Nat) : Int) ((x / 4294967296 : Nat) : Int) = (((x % 4294967296) ^^^ (x / 4294967296) : Nat) : Int) := bits_xor_u64_nat _ _ (by omega) (by omega)
  have hl : (x % 4294967296) ^^^ (x / 4294967296) < 2 ^ 32 := Nat.xor_lt_two_pow (by omega) (by omega)
  rw [e2, e3, e4, e5, Mixn.sh_split hx]
  congr 1
  generalize (x % 4294967296) ^^^ (x / 4294967296) = l at *
  have h6 : x / 4294967296 < 4294967296 := by omega
  generalize x / 4294967296 = h at *
  rw [IntKind.wrap_u64, IntKind.wrap_u64]
  omega
theorem wrap_mf (n : Nat) : IntKind.u64.wrap ((n : Int) * 15485907386658061715) = ((Mixn.mf n : Nat) : Int) := by
  rw [IntKind.wrap_u64]
  rfl
theorem refmix_eq (x : Nat) (hx : x < 18446744073709551616) : windroseref01_Mix.f (x : Int) = some ((Mixn.mix x : Nat) : Int) := by
  unfold windroseref01_Mix.f
  rw [shift_eq x hx]; simp only [Option.bind_some]
  rw [wrap_mf, shift_eq _ (Mixn.mf_lt _)]; simp only [Option.bind_some]
  rw [wrap_mf, shift_eq _ (Mixn.mf_lt _)]; simp only [Option.bind_some]
  rfl

/-! folds over a list -/
def toN (l : List Int) : List Nat := l.map Int.toNat
theorem rd_cons (a : Int) (l : List Int) : rd (a :: l) 0 = a := rfl
theorem wadd (s n : Nat) (hs : s < 18446744073709551616) (hn : n < 18446744073709551616) :
    IntKind.u64.wrap ((Go.bits .xor .u64 (s : Int) (n : Int)) + 11400714819323198485) = ((((s ^^^ n) + 11400714819323198485) % 18446744073709551616 : Nat) : Int) := by
  rw [bits_xor_u64_nat _ _ hs hn, IntKind.wrap_u64]
  rfl
theorem drop_at (l : List Int) (i : Nat) (h : i < l.length) : l.drop i = rd l (i : Int) :: l.drop (i + 1) := by
  rw [List.drop_eq_getElem_cons h]
  congr 1
  unfold rd
  rw [Int.toNat_natCast, List.getD_eq_getElem?_getD, List.getElem?_eq_getElem h]
  rfl
theorem rd_u64 (l : List Int) (hl : ∀ x ∈ l, (Lit.int .u64 x).wf = true) (i : Nat) (h : i < l.length) : ∃ n : Nat, rd l (i : Int) = n ∧ n < 18446744073709551616 := by
  apply u64_at
  apply hl
  unfold rd
  rw [Int.toNat_natCast, List.getD_eq_getElem?_getD, List.getElem?_eq_getElem h]
  exact List.getElem_mem h
theorem wrap_succ (i n : Nat) (h : i < n) (hn : n ≤ 1152921504606846976) : wrap64 ((i : Int) + 1) = ((i + 1 : Nat) : Int) := by unfold wrap64; omega
theorem fold_l0 (l : List Int) (hl : ∀ x ∈ l, (Lit.int .u64 x).wf = true) (hn : l.length ≤ 1152921504606846976) (d : Nat) : ∀ (k i s : Nat), i + d = l.length → d + 4 ≤ k → s < 18446744073709551616 →
    mix_Fold.l0 k (s : Int) l (l.length : Int) (i : Int) = some (((toN (l.drop i)).foldl Mixn.step s : Nat) : Int) := by
  induction d with
  | zero =>
    intro k i s hi hk hs
    obtain ⟨k, rfl⟩ : ∃ m, k = m + 1 := ⟨k - 1, by omega⟩
    simp only [mix_Fold.l0]
    rw [if_neg (by omega), List.drop_of_length_le (by omega)]
    rfl
  | succ d ih =>
    intro k i s hi hk hs
    obtain ⟨k, rfl⟩ : ∃ m, k = m + 1 := ⟨k - 1, by omega⟩
    obtain ⟨k3, hk3⟩ : ∃ m, k = m + 3 := ⟨k - 3, by omega⟩
    have hil : i < l.length := by omega
    obtain ⟨n, en, hn'⟩ := rd_u64 l hl i hil
    simp only [mix_Fold.l0]
    have em := mix_eq _ (Nat.mod_lt ((s ^^^ n) + 11400714819323198485) (show 18446744073709551616 > 0 by decide)) k3
    rw [← hk3] at em
    rw [if_pos (by omega), if_pos (by omega), if_pos (by omega), en, wadd s n hs hn', em]
    simp only [Option.bind_some]
    rw [wrap_succ i l.length hil hn, ih _ (i + 1) _ (by omega) (by omega) (Mixn.mix_lt _), drop_at l i hil, en]
    rfl
theorem fold_eq (s : Nat) (hs : s < 18446744073709551616) (l : List Int) (hl : ∀ x ∈ l, (Lit.int .u64 x).wf = true) (hn : l.length ≤ 1152921504606846976) (k : Nat) (hk : l.length + 4 ≤ k) :
    mix_Fold.f k (s : Int) l = some ((Mixn.fold s (toN l) : Nat) : Int) := by
  obtain ⟨m, rfl⟩ : ∃ m, k = m + 3 := ⟨k - 3, by omega⟩
  unfold mix_Fold.f
  rw [mix_eq s hs m]
  simp only [Option.bind_some]
  exact fold_l0 l hl hn l.length (m + 3) 0 _ (by omega) hk (Mixn.mix_lt _)
theorem reffold_l0 (l : List Int) (hl : ∀ x ∈ l, (Lit.int .u64 x).wf = true) (hn : l.length ≤ 1152921504606846976) (d : Nat) : ∀ (k i s : Nat), i + d = l.length → d < k → s < 18446744073709551616 →
    windroseref01_Fold.l0 k l (s : Int) (i : Int) = some (((toN (l.drop i)).foldl Mixn.step s : Nat) : Int) := by
  induction d with
  | zero =>
    intro k i s hi hk hs
    obtain ⟨k, rfl⟩ : ∃ m, k = m + 1 := ⟨k - 1, by omega⟩
    simp only [windroseref01_Fold.l0]
    rw [if_neg (by omega), List.drop_of_length_le (by omega)]
    rfl
  | succ d ih =>
    intro k i s hi hk hs
    obtain ⟨k, rfl⟩ : ∃ m, k = m + 1 := ⟨k - 1, by omega⟩
    have hil : i < l.length := by omega
    obtain ⟨n, en, hn'⟩ := rd_u64 l hl i hil
    simp only [windroseref01_Fold.l0]
    rw [if_pos (by omega), if_pos (by omega), en, wadd s n hs hn', refmix_eq _ (Nat.mod_lt _ (by decide))]
    simp only [Option.bind_some]
    rw [wrap_succ i l.length hil hn, ih _ (i + 1) _ (by omega) (by omega) (Mixn.mix_lt _), drop_at l i hil, en]
    rfl
theorem reffold_eq (s : Nat) (hs : s < 18446744073709551616) (l : List Int) (hl : ∀ x ∈ l, (Lit.int .u64 x).wf = true) (hn : l.length ≤ 1152921504606846976) (k : Nat) (hk : l.length < k) :
    windroseref01_Fold.f k (s : Int) l = some ((Mixn.fold s (toN l) : Nat) : Int) := by
  unfold windroseref01_Fold.f
  rw [refmix_eq s hs]
  simp only [Option.bind_some]
  exact reffold_l0 l hl hn l.length k 0 _ (by omega) hk (Mixn.mix_lt _)

/-! a cost, as printed, is what the plain numbers are -/
theorem u64_nat (n : Nat) (h : n < 18446744073709551616) : IntKind.u64.wrap (n : Int) = n := by rw [IntKind.wrap_u64]; omega
theorem sq_div (z : Nat) (hz : z ≤ 2147483648) : IntKind.u64.wrap (Int.tdiv (IntKind.u64.wrap ((z : Int) * (z : Int))) 2147483648) = ((z * z / 2147483648 : Nat) : Int) ∧ z * z / 2147483648 ≤ 2147483648 := by
  have h1 : z * z ≤ 2147483648 * 2147483648 := Nat.mul_le_mul hz hz
  have h2 : (2147483648 : Nat) * 2147483648 = 4611686018427387904 := by decide
  rw [h2] at h1
  have e : (z : Int) * (z : Int) = ((z * z : Nat) : Int) := by rw [Int.natCast_mul]
  have h3 : z * z / 2147483648 ≤ 2147483648 := by omega
  rw [e, u64_nat _ (by omega), Int.tdiv_eq_ediv_of_nonneg (Int.natCast_nonneg _)]
  have e2 : ((z * z : Nat) : Int) / 2147483648 = ((z * z / 2147483648 : Nat) : Int) := by rw [Int.natCast_ediv]; rfl
  rw [e2, u64_nat _ (by omega)]
  exact ⟨rfl, h3⟩
theorem cost_l1 (c : Nat) (hc : c ≤ 17) (d : Nat) : ∀ (k z f i : Nat), i + d = 16 → d < k → z ≤ 2147483648 → f < 2 ^ i →
    neglog_Cost.l1 k (c : Int) (z : Int) (f : Int) (i : Int) = some ((c * 65536 + Negn.bitsOf d z f : Nat) : Int) := by
  induction d with
  | zero =>
    intro k z f i hi hk hz hf
    obtain ⟨k, rfl⟩ : ∃ m, k = m + 1 := ⟨k - 1, by omega⟩
    obtain rfl : i = 16 := by omega
    have hw : wrap64 (wrap64 ((c : Int) * 65536) + (f : Int)) = ((c * 65536 + f : Nat) : Int) := by unfold wrap64; omega
    rw [neglog_Cost.l1]
    rw [if_neg (by omega), hw]
    rfl
  | succ d ih =>
    intro k z f i hi hk hz hf
    obtain ⟨k, rfl⟩ : ∃ m, k = m + 1 := ⟨k - 1, by omega⟩
    have p1 : (i : Int) < 16 := by omega
    have hp : 2 ^ i ≤ 65536 := Nat.le_trans (Nat.pow_le_pow_right (by decide) (show i ≤ 16 by omega)) (by decide)
    have hp2 : 2 ^ (i + 1) = 2 * 2 ^ i := by rw [Nat.pow_succ, Nat.mul_comm]
    have w1 : wrap64 ((i : Int) + 1) = ((i + 1 : Nat) : Int) := by unfold wrap64; omega
    have w2 : wrap64 ((f : Int) * 2) = ((2 * f : Nat) : Int) := by unfold wrap64; omega
    have w3 : wrap64 (((2 * f : Nat) : Int) + 1) = ((2 * f + 1 : Nat) : Int) := by unfold wrap64; omega
    obtain ⟨e1, h1⟩ := sq_div z hz
    rw [neglog_Cost.l1, Negn.bitsOf]
    rw [if_pos p1, e1, w1, w2, w3]
    clear w1 w2 w3
    generalize z * z / 2147483648 = y at *
    clear e1
    by_cases cy : y ≤ 1073741824
    · have w4 : IntKind.u64.wrap ((y : Int) * 2) = ((2 * y : Nat) : Int) := by rw [IntKind.wrap_u64]; omega
      rw [if_pos (by omega), if_pos cy, w4]
      exact ih k (2 * y) (2 * f + 1) (i + 1) (by omega) (by omega) (by omega) (by omega)
    · rw [if_neg (by omega), if_neg cy]
      exact ih k y (2 * f) (i + 1) (by omega) (by omega) (by omega) (by omega)
theorem cost_l0 (d : Nat) : ∀ (k u c : Nat), 32768 < u * 2 ^ d → u ≤ 65536 → c + d ≤ 16 → d + 18 < k →
    neglog_Cost.l0 k (u : Int) (c : Int) = some ((c * 65536 + Negn.cst (d + 1) u : Nat) : Int) := by
  induction d with
  | zero =>
    intro k u c h h1 hc hk
    rw [Nat.pow_zero, Nat.mul_one] at h
    obtain ⟨k, rfl⟩ : ∃ m, k = m + 1 := ⟨k - 1, by omega⟩
    have w1 : IntKind.u64.wrap (IntKind.u64.wrap (u : Int) * 32768) = ((u * 32768 : Nat) : Int) := by rw [u64_nat _ (by omega), IntKind.wrap_u64]; omega
    rw [neglog_Cost.l0, Negn.cst_succ]
    rw [if_neg (by omega), if_neg (by omega), w1]
    exact cost_l1 c (by omega) 16 k (u * 32768) 0 0 (by omega) (by omega) (by omega) (by decide)
  | succ d ih =>
    intro k u c h h1 hc hk
    obtain ⟨k, rfl⟩ : ∃ m, k = m + 1 := ⟨k - 1, by omega⟩
    have h2 : u * 2 ^ (d + 1) = 2 * u * 2 ^ d := by rw [Nat.pow_succ, Nat.mul_comm (2 ^ d) 2, ← Nat.mul_assoc, Nat.mul_comm u 2]
    rw [neglog_Cost.l0, Negn.cst_succ]
    by_cases cu : u ≤ 32768
    · have w1 : wrap64 ((u : Int) * 2) = ((2 * u : Nat) : Int) := by unfold wrap64; omega
      have w2 : wrap64 ((c : Int) + 1) = ((c + 1 : Nat) : Int) := by unfold wrap64; omega
      rw [if_pos (by omega), if_pos cu, w1, w2, ih k (2 * u) (c + 1) (by omega) (by omega) (by omega) (by omega), show (c + 1) * 65536 + Negn.cst (d + 1) (2 * u) = c * 65536 + (65536 + Negn.cst (d + 1) (2 * u)) by omega]
    · have w1 : IntKind.u64.wrap (IntKind.u64.wrap (u : Int) * 32768) = ((u * 32768 : Nat) : Int) := by rw [u64_nat _ (by omega), IntKind.wrap_u64]; omega
      rw [if_neg (by omega), if_neg cu, w1]
      exact cost_l1 c (by omega) 16 k (u * 32768) 0 0 (by omega) (by omega) (by omega) (by decide)
/-- A number's cost; 0, if it is none that has one. -/
def costI (a : Int) : Int := if 1 ≤ a ∧ a ≤ 65536 then ((Negn.cost a.toNat : Nat) : Int) else 0
theorem costI_nat (u : Nat) (h1 : 1 ≤ u) (h2 : u ≤ 65536) : costI (u : Int) = ((Negn.cost u : Nat) : Int) := by
  unfold costI
  rw [if_pos ⟨by omega, by omega⟩, Int.toNat_natCast]
theorem cost_eq (a : Int) (k : Nat) (hk : 40 ≤ k) : neglog_Cost.f k a = some (costI a) := by
  obtain ⟨k, rfl⟩ : ∃ m, k = m + 1 := ⟨k - 1, by omega⟩
  unfold neglog_Cost.f
  by_cases c1 : a < 1
  · rw [if_pos c1, neglog_Cost.j0]
    rw [if_pos rfl]
    unfold costI
    rw [if_neg (by omega)]
  rw [if_neg c1, neglog_Cost.j0]
  by_cases c2 : a > 65536
  · rw [if_pos (decide_eq_true c2)]
    unfold costI
    rw [if_neg (by omega)]
  obtain ⟨u, rfl⟩ : ∃ u : Nat, a = u := ⟨a.toNat, by omega⟩
  rw [if_neg (by simpa using c2), costI_nat u (by omega) (by omega)]
  have h := cost_l0 16 k u 0 (by omega) (by omega) (by omega) (by omega)
  rw [Nat.zero_mul, Nat.zero_add] at h
  exact h

theorem ref_l0 (d : Nat) : ∀ (k z f i : Nat), i + d = 16 → d < k → z ≤ 2147483648 → f < 2 ^ i →
    windroseref04_Cost.l0 k (z : Int) (f : Int) (i : Int) = some ((Negn.bitsOf d z f : Nat) : Int) := by
  induction d with
  | zero =>
    intro k z f i hi hk hz hf
    obtain ⟨k, rfl⟩ : ∃ m, k = m + 1 := ⟨k - 1, by omega⟩
    rw [windroseref04_Cost.l0]
    rw [if_neg (by omega)]
    rfl
  | succ d ih =>
    intro k z f i hi hk hz hf
    obtain ⟨k, rfl⟩ : ∃ m, k = m + 1 := ⟨k - 1, by omega⟩
    have p1 : (i : Int) < 16 := by omega
    have hp : 2 ^ i ≤ 65536 := Nat.le_trans (Nat.pow_le_pow_right (by decide) (show i ≤ 16 by omega)) (by decide)
    have hp2 : 2 ^ (i + 1) = 2 * 2 ^ i := by rw [Nat.pow_succ, Nat.mul_comm]
    have w1 : wrap64 ((i : Int) + 1) = ((i + 1 : Nat) : Int) := by unfold wrap64; omega
    have w2 : wrap64 (2 * (f : Int)) = ((2 * f : Nat) : Int) := by unfold wrap64; omega
    have w3 : wrap64 (((2 * f : Nat) : Int) + 1) = ((2 * f + 1 : Nat) : Int) := by unfold wrap64; omega
    obtain ⟨e1, h1⟩ := sq_div z hz
    rw [windroseref04_Cost.l0, Negn.bitsOf]
    rw [if_pos p1, e1, w1, w2, w3]
    clear w1 w2 w3
    generalize z * z / 2147483648 = y at *
    clear e1
    by_cases cy : y ≤ 1073741824
    · have w4 : IntKind.u64.wrap (2 * (y : Int)) = ((2 * y : Nat) : Int) := by rw [IntKind.wrap_u64]; omega
      rw [if_pos (by omega), if_pos cy, w4]
      exact ih k (2 * y) (2 * f + 1) (i + 1) (by omega) (by omega) (by omega) (by omega)
    · rw [if_neg (by omega), if_neg cy]
      exact ih k y (2 * f) (i + 1) (by omega) (by omega) (by omega) (by omega)
theorem refcost_nat (d : Nat) : ∀ (k u : Nat), 32768 < u * 2 ^ d → 1 ≤ u → u ≤ 65536 → d ≤ 16 → 2 * d + 20 ≤ k →
    windroseref04_Cost.f k (u : Int) = some ((Negn.cst (d + 1) u : Nat) : Int) := by
  have base : ∀ (k u n : Nat), 32768 < u → u ≤ 65536 → 20 ≤ k → windroseref04_Cost.f k (u : Int) = some ((Negn.cst (n + 1) u : Nat) : Int) := by
    intro k u n h h1 hk
    obtain ⟨k, rfl⟩ : ∃ m, k = m + 1 + 1 := ⟨k - 2, by omega⟩
    have w1 : IntKind.u64.wrap (IntKind.u64.wrap (u : Int) * 32768) = ((u * 32768 : Nat) : Int) := by rw [u64_nat _ (by omega), IntKind.wrap_u64]; omega
    rw [windroseref04_Cost.f, Negn.cst_succ]
    rw [if_neg (by omega), windroseref04_Cost.j0]
    rw [if_neg (by rw [decide_eq_true_eq]; omega), if_neg (by omega), if_neg (by omega), w1]
    exact ref_l0 16 k (u * 32768) 0 0 (by omega) (by omega) (by omega) (by decide)
  induction d with
  | zero =>
    intro k u h h0 h1 hd hk
    rw [Nat.pow_zero, Nat.mul_one] at h
    exact base k u 0 h h1 (by omega)
  | succ d ih =>
    intro k u h h0 h1 hd hk
    by_cases cu : u ≤ 32768
    · obtain ⟨k, rfl⟩ : ∃ m, k = m + 1 + 1 := ⟨k - 2, by omega⟩
      have h2 : u * 2 ^ (d + 1) = 2 * u * 2 ^ d := by rw [Nat.pow_succ, Nat.mul_comm (2 ^ d) 2, ← Nat.mul_assoc, Nat.mul_comm u 2]
      have w1 : wrap64 (2 * (u : Int)) = ((2 * u : Nat) : Int) := by unfold wrap64; omega
      have hc := Negn.cst_le (d + 1) (2 * u)
      have w2 : wrap64 (65536 + ((Negn.cst (d + 1) (2 * u) : Nat) : Int)) = ((65536 + Negn.cst (d + 1) (2 * u) : Nat) : Int) := by unfold wrap64; omega
      rw [windroseref04_Cost.f, Negn.cst_succ]
      rw [if_neg (by omega), windroseref04_Cost.j0]
      rw [if_neg (by rw [decide_eq_true_eq]; omega), if_pos (by omega), if_pos cu, w1, ih k (2 * u) (by omega) (by omega) (by omega) (by omega) (by omega), Option.bind_some, w2]
    · exact base k u (d + 1) (by omega) h1 (by omega)
theorem refcost_eq (a : Int) (k : Nat) (hk : 60 ≤ k) : windroseref04_Cost.f k a = some (costI a) := by
  by_cases c : 1 ≤ a ∧ a ≤ 65536
  · obtain ⟨u, rfl⟩ : ∃ u : Nat, a = u := ⟨a.toNat, by omega⟩
    rw [costI_nat u (by omega) (by omega)]
    exact refcost_nat 16 k u (by omega) (by omega) (by omega) (by omega) (by omega)
  · obtain ⟨k, rfl⟩ : ∃ m, k = m + 1 + 1 := ⟨k - 2, by omega⟩
    unfold costI
    rw [if_neg c, windroseref04_Cost.f]
    by_cases c1 : a < 1
    · rw [if_pos c1, windroseref04_Cost.j0]
      rw [if_pos rfl]
    · rw [if_neg c1, windroseref04_Cost.j0]
      rw [if_pos (decide_eq_true (by omega))]

/-! a choice's cost -/
theorem wrapu_wf (a : Int) : (Lit.int .u64 (IntKind.u64.wrap a)).wf = true := by
  simp only [Lit.wf, IntKind.min, IntKind.max, IntKind.signed, IntKind.bits, Bool.and_eq_true]
  rw [IntKind.wrap_u64]
  simp
  omega
/-- The cost of a number for a key, plainly. -/
def dc (key : Nat) (id : Int) : Int := costI (1 + ((Mixn.fold key (toN [IntKind.u64.wrap id]) / 281474976710656 : Nat) : Int))
theorem dc_bound (key : Nat) (id : Int) : 0 ≤ dc key id ∧ dc key id ≤ 1179648 := by
  unfold dc costI
  split
  · exact ⟨by omega, by have := Negn.cost_le (1 + ((Mixn.fold key (toN [IntKind.u64.wrap id]) / 281474976710656 : Nat) : Int)).toNat; omega⟩
  · omega
theorem fold_lt (key : Nat) (id : Int) : Mixn.fold key (toN [IntKind.u64.wrap id]) < 18446744073709551616 := by
  unfold Mixn.fold toN
  rw [List.map_cons, List.map_nil, List.foldl_cons, List.foldl_nil]
  unfold Mixn.step
  exact Mixn.mix_lt _
theorem dcost_eq (key : Nat) (hkey : key < 18446744073709551616) (id : Int) (k : Nat) (hk : 60 ≤ k) : draw_Cost.f k (key : Int) id = some (dc key id) := by
  have h1 := fold_eq key hkey [IntKind.u64.wrap id] (fun x hx => by rw [List.mem_singleton.1 hx]; exact wrapu_wf id) (by simp) k (by simp; omega)
  have hlt := fold_lt key id
  unfold draw_Cost.f dc
  rw [h1, Option.bind_some]
  generalize Mixn.fold key (toN [IntKind.u64.wrap id]) = F at hlt ⊢
  have w1 : wrap64 ((F : Int) / 281474976710656) = ((F / 281474976710656 : Nat) : Int) := by unfold wrap64; omega
  have w2 : wrap64 (1 + ((F / 281474976710656 : Nat) : Int)) = 1 + ((F / 281474976710656 : Nat) : Int) := by unfold wrap64; omega
  rw [w1, w2, cost_eq _ k (by omega)]
  rfl
theorem refdcost_eq (key : Nat) (hkey : key < 18446744073709551616) (id : Int) (k : Nat) (hk : 60 ≤ k) : windroseref05_Cost.f k (key : Int) id = some (dc key id) := by
  have h1 := reffold_eq key hkey [IntKind.u64.wrap id] (fun x hx => by rw [List.mem_singleton.1 hx]; exact wrapu_wf id) (by simp) k (by simp; omega)
  have hlt := fold_lt key id
  unfold windroseref05_Cost.f dc
  rw [h1, Option.bind_some]
  generalize Mixn.fold key (toN [IntKind.u64.wrap id]) = F at hlt ⊢
  have w0 : IntKind.u64.wrap (Int.tdiv (F : Int) 281474976710656) = ((F / 281474976710656 : Nat) : Int) := by
    rw [Int.tdiv_eq_ediv_of_nonneg (by omega), IntKind.wrap_u64]
    omega
  have w1 : wrap64 ((F / 281474976710656 : Nat) : Int) = ((F / 281474976710656 : Nat) : Int) := by unfold wrap64; omega
  have w2 : wrap64 (1 + ((F / 281474976710656 : Nat) : Int)) = 1 + ((F / 281474976710656 : Nat) : Int) := by unfold wrap64; omega
  rw [w0, w1, w2, refcost_eq _ k (by omega)]
  rfl
/-! which choices may be -/
/-- What the row has to be at one place. -/
def good (l : List S85) (j : Int) : Prop := 0 ≤ (rd_T85 l j).f0 ∧ (rd_T85 l j).f0 ≤ 2147483647 ∧ 0 ≤ (rd_T85 l j).f1 ∧ (rd_T85 l j).f1 ≤ 65536 ∧ (0 < j → (rd_T85 l (j - 1)).f0 < (rd_T85 l j).f0)
theorem check_l0 (l : List S85) (hl : l.length ≤ 1000) : ∀ (k : Nat) (i : Int), 0 ≤ i → i ≤ l.length → (l.length : Int) - i < k →
    ((∀ j, i ≤ j → j < l.length → good l j) → draw_Check.l0 k l l (l.length : Int) i = some 0) ∧ ((∃ j, i ≤ j ∧ j < l.length ∧ ¬ good l j) → draw_Check.l0 k l l (l.length : Int) i = some 1) := by
  intro k
  induction k with
  | zero => intro i h0 h1 h2; omega
  | succ k ih =>
    intro i h0 h1 h2
    simp only [draw_Check.l0]
    by_cases c1 : i < (l.length : Int)
    · rw [if_pos c1, if_pos h0, if_pos c1]
      have w1 : wrap64 (i + 1) = i + 1 := by unfold wrap64; omega
      obtain ⟨ih1, ih2⟩ := ih (i + 1) (by omega) (by omega) (by omega)
      by_cases b1 : (rd_T85 l i).f0 < 0
      · rw [if_pos b1]; exact ⟨fun h => absurd (h i (Int.le_refl _) c1).1 (by omega), fun _ => rfl⟩
      rw [if_neg b1]
      by_cases b2 : (rd_T85 l i).f0 > 2147483647
      · rw [if_pos b2]; exact ⟨fun h => absurd (h i (Int.le_refl _) c1).2.1 (by omega), fun _ => rfl⟩
      rw [if_neg b2]
      by_cases b3 : (rd_T85 l i).f1 < 0
      · rw [if_pos b3]; exact ⟨fun h => absurd (h i (Int.le_refl _) c1).2.2.1 (by omega), fun _ => rfl⟩
      rw [if_neg b3]
      by_cases b4 : (rd_T85 l i).f1 > 65536
      · rw [if_pos b4]; exact ⟨fun h => absurd (h i (Int.le_refl _) c1).2.2.2.1 (by omega), fun _ => rfl⟩
      rw [if_neg b4]
      have step : good l i → ((∀ j, i ≤ j → j < (l.length : Int) → good l j) → draw_Check.l0 k l l (l.length : Int) (i + 1) = some 0) ∧ ((∃ j, i ≤ j ∧ j < (l.length : Int) ∧ ¬ good l j) → draw_Check.l0 k l l (l.length : Int) (i + 1) = some 1) := fun g => by
        refine ⟨fun h => ih1 (fun j hj => h j (by omega)), fun ⟨j, hj, hjl, hb⟩ => ih2 ⟨j, ?_, hjl, hb⟩⟩
        by_cases e : j = i
        · subst e; exact absurd g hb
        · omega
      by_cases b5 : i > 0
      · have w2 : wrap64 (i - 1) = i - 1 := by unfold wrap64; omega
        rw [if_pos b5, w2, if_pos (by omega), if_pos (by omega)]
        by_cases b6 : (rd_T85 l i).f0 ≤ (rd_T85 l (i - 1)).f0
        · rw [if_pos b6]; exact ⟨fun h => absurd ((h i (Int.le_refl _) c1).2.2.2.2 b5) (by omega), fun _ => rfl⟩
        · rw [if_neg b6, w1]
          exact step ⟨by omega, by omega, by omega, by omega, fun _ => by omega⟩
      · rw [if_neg b5, w1]
        exact step ⟨by omega, by omega, by omega, by omega, fun h => absurd h b5⟩
    · rw [if_neg c1]
      exact ⟨fun _ => rfl, fun ⟨j, _, _, _⟩ => by omega⟩
theorem may_l0 (l : List S85) (hl : l.length ≤ 1000) : ∀ (k : Nat) (i : Int), 0 ≤ i → i ≤ l.length → (l.length : Int) - i < k →
    ((∀ j, i ≤ j → j < l.length → good l j) → windroseref05_May.l0 k l i = some (decide ((l.length : Int) ≤ 64))) ∧ ((∃ j, i ≤ j ∧ j < l.length ∧ ¬ good l j) → windroseref05_May.l0 k l i = some false) := by
  intro k
  induction k with
  | zero => intro i h0 h1 h2; omega
  | succ k ih =>
    intro i h0 h1 h2
    simp only [windroseref05_May.l0]
    by_cases c1 : i < (l.length : Int)
    · rw [if_pos c1, if_pos h0]
      have w1 : wrap64 (i + 1) = i + 1 := by unfold wrap64; omega
      obtain ⟨ih1, ih2⟩ := ih (i + 1) (by omega) (by omega) (by omega)
      by_cases b1 : (rd_T85 l i).f0 < 0
      · rw [if_pos b1]; exact ⟨fun h => absurd (h i (Int.le_refl _) c1).1 (by omega), fun _ => rfl⟩
      rw [if_neg b1]
      by_cases b2 : (rd_T85 l i).f0 ≥ 2147483648
      · rw [if_pos b2]; exact ⟨fun h => absurd (h i (Int.le_refl _) c1).2.1 (by omega), fun _ => rfl⟩
      rw [if_neg b2]
      by_cases b3 : (rd_T85 l i).f1 < 0
      · rw [if_pos b3]; exact ⟨fun h => absurd (h i (Int.le_refl _) c1).2.2.1 (by omega), fun _ => rfl⟩
      rw [if_neg b3]
      by_cases b4 : (rd_T85 l i).f1 > 65536
      · rw [if_pos b4]; exact ⟨fun h => absurd (h i (Int.le_refl _) c1).2.2.2.1 (by omega), fun _ => rfl⟩
      rw [if_neg b4]
      have step : good l i → ((∀ j, i ≤ j → j < (l.length : Int) → good l j) → windroseref05_May.l0 k l (i + 1) = some (decide ((l.length : Int) ≤ 64))) ∧ ((∃ j, i ≤ j ∧ j < (l.length : Int) ∧ ¬ good l j) → windroseref05_May.l0 k l (i + 1) = some false) := fun g => by
        refine ⟨fun h => ih1 (fun j hj => h j (by omega)), fun ⟨j, hj, hjl, hb⟩ => ih2 ⟨j, ?_, hjl, hb⟩⟩
        by_cases e : j = i
        · subst e; exact absurd g hb
        · omega
      by_cases b5 : i > 0
      · have w2 : wrap64 (i - 1) = i - 1 := by unfold wrap64; omega
        rw [if_pos b5, w2, if_pos (by omega), if_pos (by omega)]
        by_cases b6 : (rd_T85 l (i - 1)).f0 ≥ (rd_T85 l i).f0
        · rw [if_pos b6]; exact ⟨fun h => absurd ((h i (Int.le_refl _) c1).2.2.2.2 b5) (by omega), fun _ => rfl⟩
        · rw [if_neg b6, w1]
          exact step ⟨by omega, by omega, by omega, by omega, fun _ => by omega⟩
      · rw [if_neg b5, w1]
        exact step ⟨by omega, by omega, by omega, by omega, fun h => absurd h b5⟩
    · rw [if_neg c1]
      exact ⟨fun _ => rfl, fun ⟨j, _, _, _⟩ => by omega⟩
/-- The choices that may be. -/
def fine (l : List S85) : Prop := l.length ≤ 64 ∧ ∀ j : Int, 0 ≤ j → j < l.length → good l j
theorem not_fine {l : List S85} (h : ¬ fine l) (hl : l.length ≤ 64) : ∃ j : Int, 0 ≤ j ∧ j < l.length ∧ ¬ good l j :=
  Classical.byContradiction fun h2 => h ⟨hl, fun j h0 h1 => Classical.byContradiction fun h3 => h2 ⟨j, h0, h1, h3⟩⟩
theorem check_fine {l : List S85} (h : fine l) (k : Nat) (hk : 70 ≤ k) : draw_Check.f k l = some 0 := by
  have := h.1
  unfold draw_Check.f
  rw [if_neg (by omega)]
  exact (check_l0 l (by omega) k 0 (by omega) (by omega) (by omega)).1 h.2
theorem check_bad {l : List S85} (h : ¬ fine l) (k : Nat) (hk : 70 ≤ k) : draw_Check.f k l = some 1 := by
  unfold draw_Check.f
  by_cases c : (l.length : Int) > 64
  · rw [if_pos c]
  · rw [if_neg c]
    exact (check_l0 l (by omega) k 0 (by omega) (by omega) (by omega)).2 (not_fine h (by omega))
theorem may_fine {l : List S85} (h : fine l) (k : Nat) (hk : 70 ≤ k) : windroseref05_May.f k l = some true := by
  have := h.1
  unfold windroseref05_May.f
  rw [(may_l0 l (by omega) k 0 (by omega) (by omega) (by omega)).1 h.2, decide_eq_true (by omega)]
theorem may_bad {l : List S85} (h : ¬ fine l) (hl : l.length ≤ 100) (k : Nat) (hk : 110 ≤ k) : windroseref05_May.f k l = some false := by
  have m := may_l0 l (by omega) k 0 (by omega) (by omega) (by omega)
  unfold windroseref05_May.f
  by_cases c : l.length ≤ 64
  · exact m.2 (not_fine h c)
  · by_cases g : ∀ j : Int, 0 ≤ j → j < l.length → good l j
    · rw [m.1 g, decide_eq_false (by omega)]
    · exact m.2 (Classical.byContradiction fun h2 => g fun j h0 h1 => Classical.byContradiction fun h3 => h2 ⟨j, h0, h1, h3⟩)
theorem rd_get (l : List S85) (i : Nat) (h : i < l.length) : rd_T85 l (i : Int) = l[i] := by
  unfold rd_T85
  rw [Int.toNat_natCast, List.getD_eq_getElem?_getD, List.getElem?_eq_getElem h]
  rfl
theorem drop_c (l : List S85) (i : Nat) (h : i < l.length) : l.drop i = rd_T85 l (i : Int) :: l.drop (i + 1) := by
  rw [List.drop_eq_getElem_cons h, rd_get l i h]
theorem fine_mem {l : List S85} (h : fine l) : ∀ x ∈ l, (0 ≤ x.f0 ∧ x.f0 ≤ 2147483647) ∧ 0 ≤ x.f1 ∧ x.f1 ≤ 65536 := by
  intro x hx
  obtain ⟨i, hi, rfl⟩ := List.mem_iff_getElem.1 hx
  have g := h.2 i (by omega) (by omega)
  unfold good at g
  rw [rd_get l i hi] at g
  exact ⟨⟨g.1, g.2.1⟩, g.2.2.1, g.2.2.2.1⟩
theorem fine_up {l : List S85} (h : fine l) (i : Nat) : ∀ d : Nat, (hi : i + d + 1 < l.length) → (rd_T85 l (i : Int)).f0 < (rd_T85 l ((i + d + 1 : Nat) : Int)).f0
  | 0, hi => by
    have g := (h.2 ((i + 0 + 1 : Nat) : Int) (by omega) (by omega)).2.2.2.2 (by omega)
    rwa [show ((i + 0 + 1 : Nat) : Int) - 1 = (i : Int) by omega] at g
  | d + 1, hi => by
    have g := (h.2 ((i + (d + 1) + 1 : Nat) : Int) (by omega) (by omega)).2.2.2.2 (by omega)
    rw [show ((i + (d + 1) + 1 : Nat) : Int) - 1 = ((i + d + 1 : Nat) : Int) by omega] at g
    have := fine_up h i d (by omega)
    omega
theorem fine_pair {l : List S85} (h : fine l) : l.Pairwise (fun x y => x.f0 < y.f0) := by
  rw [List.pairwise_iff_getElem]
  intro i j hi hj hij
  obtain ⟨d, rfl⟩ : ∃ d, j = i + d + 1 := ⟨j - i - 1, by omega⟩
  have := fine_up h i d hj
  rwa [rd_get l i hi, rd_get l _ hj] at this
theorem asc_of : ∀ {l : List S85}, l.Pairwise (fun x y => x.f0 < y.f0) → draw_Order.asc l = true
  | [], _ => rfl
  | x :: r, h => by
    obtain ⟨h1, h2⟩ := List.pairwise_cons.1 h
    unfold draw_Order.asc
    rw [Bool.and_eq_true, List.all_eq_true]
    exact ⟨fun y hy => decide_eq_true (h1 y hy), asc_of h2⟩
theorem okc_of (key : Nat) (hkey : key < 18446744073709551616) {x : S85} (h0 : 0 ≤ x.f0) (h1 : x.f0 ≤ 2147483647) (h2 : 0 < x.f1) (h3 : x.f1 ≤ 65536) : draw_compare.okc 1000 (key : Int) x = true := by
  have e := dcost_eq key hkey x.f0 1000 (by omega)
  have b := dc_bound key x.f0
  unfold draw_compare.okc draw_compare.cost
  generalize dc key x.f0 = c at e b
  generalize draw_Cost.f 1000 (key : Int) x.f0 = o at e ⊢
  subst e
  rw [Option.isSome_some, Option.getD_some, decide_eq_true b.1, decide_eq_true (show c ≤ 2147483647 by omega), decide_eq_true h0, decide_eq_true h1, decide_eq_true h2, decide_eq_true h3]
  rfl
theorem cost_of (key : Nat) (hkey : key < 18446744073709551616) (x : S85) : draw_compare.cost 1000 (key : Int) x = dc key x.f0 := by
  unfold draw_compare.cost
  rw [dcost_eq key hkey x.f0 1000 (by omega), Option.getD_some]
/-- Those that have weight, in their order. -/
def ord (key : Nat) (l : List S85) : List S85 := Hand.sortL (draw_Order.lt 1000 (key : Int)) (l.filter fun x => !decide (x.f1 = 0))
theorem order_fine (key : Nat) (hkey : key < 18446744073709551616) {l : List S85} (h : fine l) (k : Nat) (hk : 70 ≤ k) : draw_Order.f k (key : Int) l = some ((ord key l).map fun x => x.f0) := by
  have hl := h.1
  unfold draw_Order.f
  rw [check_fine h k hk, Option.bind_some, if_pos rfl, if_pos (by omega), if_pos (asc_of (fine_pair h)), if_pos]
  · rfl
  · rw [List.all_eq_true]
    intro x hx
    obtain ⟨h1, h2⟩ := List.mem_filter.1 hx
    obtain ⟨⟨a, b⟩, c, d⟩ := fine_mem h x h1
    have : x.f1 ≠ 0 := by simpa using h2
    exact okc_of key hkey a b (by omega) d
theorem order_bad (key : Int) {l : List S85} (h : ¬ fine l) (k : Nat) (hk : 70 ≤ k) : draw_Order.f k key l = some [] := by
  unfold draw_Order.f
  rw [check_bad h k hk, Option.bind_some, if_neg (by decide)]
theorem awake0 : windroselaw05_awake.f 200 = some true := by kernel_rfl
theorem awake_eq : ∀ k, 200 ≤ k → windroselaw05_awake.f k = some true := by
  intro k hk
  obtain ⟨d, rfl⟩ : ∃ d, k = 200 + d := ⟨k - 200, by omega⟩
  clear hk
  induction d with
  | zero => exact awake0
  | succ d ih => exact windroselaw05_awake.mono _ _ ih

/-- One more choice looked at. -/
def stp (id : Int) (s : Int × Int × Bool) (x : S85) : Int × Int × Bool := if x.f0 = id then (x.f1, wrap64 (s.2.1 + x.f1), true) else (s.1, wrap64 (s.2.1 + x.f1), s.2.2)
def fin (s : Int × Int × Bool) : Int × Int := if s.2.2 = true then (s.1, s.2.1) else (0, 0)
theorem share_l0 (l : List S85) (hl : l.length ≤ 1000) (id : Int) (d : Nat) : ∀ (k i : Nat) (s : Int × Int × Bool), i + d = l.length → d < k → draw_Share.l0 k id s.1 s.2.1 s.2.2 l (l.length : Int) (i : Int) = some (fin ((l.drop i).foldl (stp id) s)) := by
  induction d with
  | zero =>
    intro k i s hi hk
    obtain ⟨k, rfl⟩ : ∃ m, k = m + 1 := ⟨k - 1, by omega⟩
    simp only [draw_Share.l0]
    rw [if_neg (by omega), List.drop_of_length_le (by omega)]
    unfold fin
    rw [List.foldl_nil]
    split <;> rfl
  | succ d ih =>
    intro k i s hi hk
    obtain ⟨k, rfl⟩ : ∃ m, k = m + 1 := ⟨k - 1, by omega⟩
    simp only [draw_Share.l0]
    have w1 : wrap64 ((i : Int) + 1) = ((i + 1 : Nat) : Int) := by unfold wrap64; omega
    rw [if_pos (by omega), if_pos (by omega), if_pos (by omega), drop_c l i (by omega), List.foldl_cons, w1]
    by_cases c : (rd_T85 l (i : Int)).f0 = id
    · rw [if_pos c]
      have := ih k (i + 1) (stp id s (rd_T85 l (i : Int))) (by omega) (by omega)
      unfold stp at this ⊢
      rw [if_pos c] at this ⊢
      exact this
    · rw [if_neg c]
      have := ih k (i + 1) (stp id s (rd_T85 l (i : Int))) (by omega) (by omega)
      unfold stp at this ⊢
      rw [if_neg c] at this ⊢
      exact this
theorem law_end (key : Nat) (hkey : key < 18446744073709551616) (l : List S85) (id : Int) (k : Nat) (hk : 300 ≤ k) (s : Int × Int × Bool) (i : Int) :
    windroselaw05_DrawCosts.j1 (k + 1) (key : Int) id l (fin s).1 (fin s).2 s.1 s.2.1 s.2.2 i false = some true := by
  obtain ⟨s1, s2, s3⟩ := s
  cases s3
  · show windroselaw05_DrawCosts.j1 (k + 1) (key : Int) id l 0 0 s1 s2 false i false = some true
    rw [windroselaw05_DrawCosts.j1, if_neg (by decide), if_neg (by decide), dcost_eq key hkey id k (by omega), Option.bind_some, refdcost_eq key hkey id k (by omega), Option.bind_some, if_pos rfl, if_pos rfl, if_pos rfl, awake_eq k (by omega), Option.bind_some]
  · show windroselaw05_DrawCosts.j1 (k + 1) (key : Int) id l s1 s2 s1 s2 true i false = some true
    rw [windroselaw05_DrawCosts.j1, if_neg (by decide), if_pos rfl, dcost_eq key hkey id k (by omega), Option.bind_some, refdcost_eq key hkey id k (by omega), Option.bind_some, if_pos rfl, if_pos rfl, if_pos rfl, awake_eq k (by omega), Option.bind_some]
theorem law_l0 (key : Nat) (hkey : key < 18446744073709551616) (l : List S85) (hf : fine l) (id : Int) (d : Nat) : ∀ (k i : Nat) (s z : Int × Int × Bool), i + d = l.length → 2 * d + 500 < k → z = (l.drop i).foldl (stp id) s →
    windroselaw05_DrawCosts.l0 k (key : Int) id l (fin z).1 (fin z).2 s.1 s.2.1 s.2.2 (i : Int) = some true := by
  have hl := hf.1
  induction d with
  | zero =>
    intro k i s z hi hk hz
    obtain ⟨k, rfl⟩ : ∃ m, k = m + 2 := ⟨k - 2, by omega⟩
    rw [List.drop_of_length_le (by omega), List.foldl_nil] at hz
    subst hz
    rw [windroselaw05_DrawCosts.l0]
    rw [if_neg (by omega)]
    exact law_end key hkey l id k (by omega) z _
  | succ d ih =>
    intro k i s z hi hk hz
    obtain ⟨k, rfl⟩ : ∃ m, k = m + 2 := ⟨k - 2, by omega⟩
    rw [drop_c l i (by omega), List.foldl_cons] at hz
    have h1 := ih k (i + 1) _ z (by omega) (by omega) hz
    have w1 : wrap64 ((i : Int) + 1) = ((i + 1 : Nat) : Int) := by unfold wrap64; omega
    rw [windroselaw05_DrawCosts.l0]
    rw [if_pos (by omega), may_fine hf (k + 1) (by omega), Option.bind_some]
    rw [windroselaw05_DrawCosts.j1]
    rw [if_pos rfl, if_pos (by omega), if_pos (by omega), w1]
    unfold stp at h1
    by_cases c : (rd_T85 l (i : Int)).f0 = id
    · rw [if_pos c] at h1 ⊢
      exact h1
    · rw [if_neg c] at h1 ⊢
      exact h1
theorem pure (a0 : Int) (a1 : Int) (l : List S85) (h0 : (Lit.int .u64 a0).wf = true) : windroselaw05_DrawCosts.f 2000 a0 a1 l = some true := by
  obtain ⟨key, rfl, hkey⟩ := u64_at h0
  unfold windroselaw05_DrawCosts.f
  by_cases hl : (l.length : Int) > 80
  · rw [if_pos hl, awake_eq 2000 (by omega), Option.bind_some]
  rw [if_neg hl]
  unfold draw_Share.f
  by_cases hf : fine l
  · have h1 := share_l0 l (by have := hf.1; omega) a1 l.length 2000 0 (0, 0, false) (by omega) (by have := hf.1; omega)
    rw [List.drop_zero] at h1
    have e1 : draw_Share.l0 2000 a1 0 0 false l (l.length : Int) 0 = some (fin (l.foldl (stp a1) (0, 0, false))) := h1
    rw [check_fine hf 2000 (by omega), Option.bind_some, if_pos rfl, e1, Option.bind_some]
    exact law_l0 key hkey l hf a1 l.length 2000 0 (0, 0, false) _ (by omega) (by have := hf.1; omega) (by rw [List.drop_zero])
  · rw [check_bad hf 2000 (by omega), Option.bind_some, if_neg (by decide), Option.bind_some]
    have hend := law_end key hkey l a1 1998 (by omega) (0, 0, false) 0
    have e0 : windroselaw05_DrawCosts.l0 2000 (key : Int) a1 l 0 0 0 0 false 0 = windroselaw05_DrawCosts.j1 1999 (key : Int) a1 l 0 0 0 0 false 0 false := by
      have e1 : ∀ k : Nat, windroselaw05_DrawCosts.l0 (k + 1) (key : Int) a1 l 0 0 0 0 false 0 = if 0 < (l.length : Int) then ((windroseref05_May.f k l).bind fun t155 => (windroselaw05_DrawCosts.j1 k (key : Int) a1 l 0 0 0 0 false 0 t155)) else (windroselaw05_DrawCosts.j1 k (key : Int) a1 l 0 0 0 0 false 0 false) := fun k => by
        simp only [windroselaw05_DrawCosts.l0]
      rw [e1 1999]
      by_cases c : 0 < (l.length : Int)
      · rw [if_pos c, may_bad hf (by omega) 1999 (by omega), Option.bind_some]
      · rw [if_neg c]
    rw [e0]
    exact hend
end Go.Proofs.Ytilgmccdpddeoaa.PDrawCosts
