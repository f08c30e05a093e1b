/- For every two numbers Below tells what the reference tells, and a number below the second one where that is in range; no condition. -/
import Derived.Test.YtmcnllnfnlgpnaaPMixBelowx1
import Derived.Test.YtmcnllnfnlgpnaaMixn
namespace Go.Proofs.Ytmcnllnfnlgpnaa.Pure
open Go.RowKit Go.Proofs.Ytmcnllnfnlgpnaa.PMixBelow Go.Proofs.YtmcnllnfnlgpnaaW.PrintWords Go.Proofs.YtmcnllnfnlgpnaaW.PrintLast
namespace MixBelowAid
/-! mixing, as printed, is what the plain numbers are -/
theorem w1 : wrap64 (0 + 1) = 1 := by unfold wrap64; omega
theorem w2 : wrap64 (1 + 1) = 2 := by unfold wrap64; omega
theorem xs (X : Nat) (hX : X < 18446744073709551616) : Go.bits .xor .u64 (X : Int) ((X : Int) / 4294967296) = ((Mixn.sh X : Nat) : Int) := xorShift_u64 X 4294967296 hX
theorem xm (X : Nat) (hX : X < 18446744073709551616) : IntKind.u64.wrap (Go.bits .xor .u64 (X : Int) ((X : Int) / 4294967296) * 15485907386658061715) = ((Mixn.mf (Mixn.sh X) : Nat) : Int) := by
  rw [xs X hX, IntKind.wrap_u64]
  rfl
theorem mix_eq (x : Nat) (hx : x < 18446744073709551616) (k : Nat) : mix_Mix.f (k + 3) (x : Int) = some ((Mixn.mix x : Nat) : Int) := by
  unfold mix_Mix.f
  simp only [mix_Mix.l0]
  rw [if_pos (by decide), w1, if_pos (by decide), w2, if_neg (by decide), xm x hx, xm _ (Mixn.mf_lt _), xs _ (Mixn.mf_lt _)]
  rfl
theorem awake_eq (k : Nat) : windroselaw01_awake.f (k + 3) = some true := by
  have h : mix_Mix.f (k + 3) 1 = some 4717996019076358352 := by
    rw [show (1 : Int) = ((1 : Nat) : Int) from rfl, mix_eq 1 (by decide)]
    decide +kernel
  unfold windroselaw01_awake.f
  rw [h]
  simp only [Option.bind_some]
  rw [if_pos trivial]
  decide +kernel

theorem u64_at {x : Int} (h : (Lit.int .u64 x).wf = true) : ∃ n : Nat, x = n ∧ n < 18446744073709551616 := by
  simp only [Lit.wf, IntKind.min, IntKind.max, IntKind.signed, IntKind.bits, Bool.and_eq_true] at h
  simp at h
  exact ⟨x.toNat, by omega, by omega⟩
end MixBelowAid
open MixBelowAid

theorem MixBelow : windroselaw01_MixBelow.Pure := by
  intro a0 a1 h0 h1
  obtain ⟨x, rfl, hx⟩ := u64_at h0
  refine ⟨3, ?_⟩
  unfold windroselaw01_MixBelow.f mix_Below.f windroseref01_Below.f
  rw [awake_eq 0]
  by_cases c1 : a1 < 1
  · rw [if_pos c1]; simp [c1]
  rw [if_neg c1]
  by_cases c2 : a1 > 2147483647
  · rw [if_pos c2]; simp [c1, c2]
  rw [if_neg c2]
  obtain ⟨n, rfl⟩ : ∃ n : Nat, a1 = n := ⟨a1.toNat, by omega⟩
  have hn : n ≤ 2147483647 := by omega
  have hq : x / 4294967296 ≤ 4294967295 := by omega
  have hm : x / 4294967296 * n ≤ 9223372030412324865 := Nat.mul_le_mul hq hn
  have e0 : IntKind.u64.wrap (n : Int) = n := by rw [IntKind.wrap_u64]; omega
  have e1 : (x : Int) / 4294967296 * (n : Int) = ((x / 4294967296 * n : Nat) : Int) := by simp
  have e2 : Int.tdiv (x : Int) 4294967296 = (x : Int) / 4294967296 := Int.tdiv_eq_ediv_of_nonneg (by omega)
  have e3 : IntKind.u64.wrap ((x : Int) / 4294967296) = (x : Int) / 4294967296 := by rw [IntKind.wrap_u64]; omega
  rw [e2, e3, e0, e1]
  generalize hy : x / 4294967296 * n = y at *
  have hlt : y / 4294967296 < n := by
    rw [← hy]
    apply Nat.div_lt_of_lt_mul
    by_cases hz : n = 0
    · omega
    · exact Nat.mul_lt_mul_of_lt_of_le (by omega) (Nat.le_refl _) (by omega)
  have e4 : IntKind.u64.wrap (y : Int) = y := by rw [IntKind.wrap_u64]; omega
  have e5 : Int.tdiv (y : Int) 4294967296 = (y : Int) / 4294967296 := Int.tdiv_eq_ediv_of_nonneg (by omega)
  have e6 : IntKind.u64.wrap ((y : Int) / 4294967296) = (y : Int) / 4294967296 := by rw [IntKind.wrap_u64]; omega
  have e7 : wrap64 ((y : Int) / 4294967296) = (y : Int) / 4294967296 := by unfold wrap64; omega
  have g1 : (y : Int) / 4294967296 ≥ 0 := Int.ediv_nonneg (Int.natCast_nonneg _) (by decide)
  have g2 : (y : Int) / 4294967296 < n := by
    have h5 : ((y / 4294967296 : Nat) : Int) < n := Int.ofNat_lt.2 hlt
    rwa [Int.natCast_ediv] at h5
  rw [e4, e5, e6, e7, if_neg c1, if_neg c2]
  simp only [Option.bind_some]
  rw [if_pos trivial, if_neg c1, if_neg c2, if_pos g1, if_pos g2]
end Go.Proofs.Ytmcnllnfnlgpnaa.Pure
