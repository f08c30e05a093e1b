/- For every number Mix tells what the reference tells, and Unmix and Mix undo each other; no condition. -/
import Derived.Test.YtmcnllnfnlgpnaaPMixMixesx1
import Derived.Test.YtmcnllnfnlgpnaaMixn
namespace Go.Proofs.Ytmcnllnfnlgpnaa.Pure
open Go.RowKit Go.Proofs.Ytmcnllnfnlgpnaa.PMixMixes Go.Proofs.YtmcnllnfnlgpnaaW.PrintWords Go.Proofs.YtmcnllnfnlgpnaaW.PrintLast
namespace MixMixesAid
/-! mixing, as printed, is what the plain numbers are -/
theorem w1 : wrap64 (0 + 1) = 1 := by unfold wrap64; omega
theorem w2 : wrap64 (1 + 1) = 2 := by unfold wrap64; omega
theorem xs (X : Nat) (hX : X < 18446744073709551616) : Go.bits .xor .u64 (X : Int) ((X : Int) / 4294967296) = ((Mixn.sh X : Nat) : Int) := xorShift_u64 X 4294967296 hX
theorem xm (X : Nat) (hX : X < 18446744073709551616) : IntKind.u64.wrap (Go.bits .xor .u64 (X : Int) ((X : Int) / 4294967296) * 15485907386658061715) = ((Mixn.mf (Mixn.sh X) : Nat) : Int) := by
  rw [xs X hX, IntKind.wrap_u64]
  rfl
theorem mix_eq (x : Nat) (hx : x < 18446744073709551616) (k : Nat) : mix_Mix.f (k + 3) (x : Int) = some ((Mixn.mix x : Nat) : Int) := by
  unfold mix_Mix.f
  simp only [mix_Mix.l0]
  rw [if_pos (by decide), w1, if_pos (by decide), w2, if_neg (by decide), xm x hx, xm _ (Mixn.mf_lt _), xs _ (Mixn.mf_lt _)]
  rfl
theorem awake_eq (k : Nat) : windroselaw01_awake.f (k + 3) = some true := by
  have h : mix_Mix.f (k + 3) 1 = some 4717996019076358352 := by
    rw [show (1 : Int) = ((1 : Nat) : Int) from rfl, mix_eq 1 (by decide)]
    decide +kernel
  unfold windroselaw01_awake.f
  rw [h]
  simp only [Option.bind_some]
  rw [if_pos trivial]
  decide +kernel
theorem u64_at {x : Int} (h : (Lit.int .u64 x).wf = true) : ∃ n : Nat, x = n ∧ n < 18446744073709551616 := by
  simp only [Lit.wf, IntKind.min, IntKind.max, IntKind.signed, IntKind.bits, Bool.and_eq_true] at h
  simp at h
  exact ⟨x.toNat, by omega, by omega⟩

theorem shift_eq (x : Nat) (hx : x < 18446744073709551616) : windroseref01_shift.f (x : Int) = some ((Mixn.sh x : Nat) : Int) := by
  unfold windroseref01_shift.f
  have e2 : Int.tdiv (x : Int) 4294967296 = ((x / 4294967296 : Nat) : Int) := by rw [Int.tdiv_eq_ediv_of_nonneg (Int.natCast_nonneg _), Int.natCast_ediv]; rfl
  have e3 : IntKind.u64.wrap ((x / 4294967296 : Nat) : Int) = ((x / 4294967296 : Nat) : Int) := by rw [IntKind.wrap_u64]; omega
  have e4 : Int.tmod (x : Int) 4294967296 = ((x % 4294967296 : Nat) : Int) := by rw [Int.tmod_eq_emod_of_nonneg (Int.natCast_nonneg _), Int.natCast_emod]; rfl
  have e5 : Go.bits .xor .u64 ((x % 4294967296 : Nat) : Int) ((x / 4294967296 : Nat) : Int) = (((x % 4294967296) ^^^ (x / 4294967296) : Nat) : Int) := bits_xor_u64_nat _ _ (by omega) (by omega)
  have hl : (x % 4294967296) ^^^ (x / 4294967296) < 2 ^ 32 := Nat.xor_lt_two_pow (by omega) (by omega)
  rw [e2, e3, e4, e5, Mixn.sh_split hx]
  congr 1
  generalize (x % 4294967296) ^^^ (x / 4294967296) = l at *
  have h6 : x / 4294967296 < 4294967296 := by omega
  generalize x / 4294967296 = h at *
  rw [IntKind.wrap_u64, IntKind.wrap_u64]
  omega
theorem wrap_mf (n : Nat) : IntKind.u64.wrap ((n : Int) * 15485907386658061715) = ((Mixn.mf n : Nat) : Int) := by
  rw [IntKind.wrap_u64]
  rfl
theorem refmix_eq (x : Nat) (hx : x < 18446744073709551616) : windroseref01_Mix.f (x : Int) = some ((Mixn.mix x : Nat) : Int) := by
  unfold windroseref01_Mix.f
  rw [shift_eq x hx]; simp only [Option.bind_some]
  rw [wrap_mf, shift_eq _ (Mixn.mf_lt _)]; simp only [Option.bind_some]
  rw [wrap_mf, shift_eq _ (Mixn.mf_lt _)]; simp only [Option.bind_some]
  rfl

theorem xu (X : Nat) (hX : X < 18446744073709551616) : IntKind.u64.wrap (Go.bits .xor .u64 (X : Int) ((X : Int) / 4294967296) * 14982988110149298331) = ((Mixn.mu (Mixn.sh X) : Nat) : Int) := by
  rw [xs X hX, IntKind.wrap_u64]
  rfl
theorem unmix_eq (x : Nat) (hx : x < 18446744073709551616) (k : Nat) : mix_Unmix.f (k + 3) (x : Int) = some ((Mixn.unmix x : Nat) : Int) := by
  unfold mix_Unmix.f
  simp only [mix_Unmix.l0]
  rw [if_pos (by decide), w1, if_pos (by decide), w2, if_neg (by decide), xu x hx, xu _ (Mixn.mu_lt _), xs _ (Mixn.mu_lt _)]
  rfl
end MixMixesAid
open MixMixesAid

theorem MixMixes : windroselaw01_MixMixes.Pure := by
  intro a0 h0
  obtain ⟨x, rfl, hx⟩ := u64_at h0
  refine ⟨3, ?_⟩
  have e1 := mix_eq x hx 0
  have e2 := refmix_eq x hx
  have e3 := unmix_eq x hx 0
  have e4 := unmix_eq _ (Mixn.mix_lt x) 0
  have e5 := mix_eq _ (Mixn.unmix_lt x) 0
  have e6 := awake_eq 0
  rw [Mixn.unmix_mix hx] at e4
  rw [Mixn.mix_unmix hx] at e5
  simp only [Nat.zero_add] at e1 e3 e4 e5 e6
  clear hx h0
  generalize Mixn.mix x = m at *
  generalize Mixn.unmix x = u at *
  unfold windroselaw01_MixMixes.f
  rw [e1, Option.bind_some, e2, Option.bind_some, if_pos rfl, Option.bind_some, e4, Option.bind_some, if_pos rfl, e3, Option.bind_some, e5, Option.bind_some, if_pos rfl, e6]
  rfl
end Go.Proofs.Ytmcnllnfnlgpnaa.Pure
