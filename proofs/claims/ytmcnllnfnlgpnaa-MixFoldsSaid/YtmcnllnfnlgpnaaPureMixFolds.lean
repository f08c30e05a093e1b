/- For every seed and list of numbers Fold tells what the reference tells; without numbers it is the seed, mixed; no condition. -/
import Derived.Test.YtmcnllnfnlgpnaaPMixFoldsx1
import Derived.Test.YtmcnllnfnlgpnaaMixn
namespace Go.Proofs.Ytmcnllnfnlgpnaa.Pure
open Go.RowKit Go.Proofs.Ytmcnllnfnlgpnaa.PMixFolds Go.Proofs.YtmcnllnfnlgpnaaW.PrintWords Go.Proofs.YtmcnllnfnlgpnaaW.PrintLast
namespace MixFoldsAid
/-! mixing, as printed, is what the plain numbers are -/
theorem w1 : wrap64 (0 + 1) = 1 := by unfold wrap64; omega
theorem w2 : wrap64 (1 + 1) = 2 := by unfold wrap64; omega
theorem xs (X : Nat) (hX : X < 18446744073709551616) : Go.bits .xor .u64 (X : Int) ((X : Int) / 4294967296) = ((Mixn.sh X : Nat) : Int) := xorShift_u64 X 4294967296 hX
theorem xm (X : Nat) (hX : X < 18446744073709551616) : IntKind.u64.wrap (Go.bits .xor .u64 (X : Int) ((X : Int) / 4294967296) * 15485907386658061715) = ((Mixn.mf (Mixn.sh X) : Nat) : Int) := by
  rw [xs X hX, IntKind.wrap_u64]
  rfl
theorem mix_eq (x : Nat) (hx : x < 18446744073709551616) (k : Nat) : mix_Mix.f (k + 3) (x : Int) = some ((Mixn.mix x : Nat) : Int) := by
  unfold mix_Mix.f
  simp only [mix_Mix.l0]
  rw [if_pos (by decide), w1, if_pos (by decide), w2, if_neg (by decide), xm x hx, xm _ (Mixn.mf_lt _), xs _ (Mixn.mf_lt _)]
  rfl
theorem awake_eq (k : Nat) : windroselaw01_awake.f (k + 3) = some true := by
  have h : mix_Mix.f (k + 3) 1 = some 4717996019076358352 := by
    rw [show (1 : Int) = ((1 : Nat) : Int) from rfl, mix_eq 1 (by decide)]
    decide +kernel
  unfold windroselaw01_awake.f
  rw [h]
  simp only [Option.bind_some]
  rw [if_pos trivial]
  decide +kernel
theorem u64_at {x : Int} (h : (Lit.int .u64 x).wf = true) : ∃ n : Nat, x = n ∧ n < 18446744073709551616 := by
  simp only [Lit.wf, IntKind.min, IntKind.max, IntKind.signed, IntKind.bits, Bool.and_eq_true] at h
  simp at h
  exact ⟨x.toNat, by omega, by omega⟩

theorem shift_eq (x : Nat) (hx : x < 18446744073709551616) : windroseref01_shift.f (x : Int) = some ((Mixn.sh x : Nat) : Int) := by
  unfold windroseref01_shift.f
  have e2 : Int.tdiv (x : Int) 4294967296 = ((x / 4294967296 : Nat) : Int) := by rw [Int.tdiv_eq_ediv_of_nonneg (Int.natCast_nonneg _), Int.natCast_ediv]; rfl
  have e3 : IntKind.u64.wrap ((x / 4294967296 : Nat) : Int) = ((x / 4294967296 : Nat) : Int) := by rw [IntKind.wrap_u64]; omega
  have e4 : Int.tmod (x : Int) 4294967296 = ((x % 4294967296 : Nat) : Int) := by rw [Int.tmod_eq_emod_of_nonneg (Int.natCast_nonneg _), Int.natCast_emod]; rfl
  have e5 : Go.bits .xor .u64 ((x % 4294967296 : Nat) : Int) ((x / 4294967296 : Nat) : Int) = (((x % 4294967296) ^^^ (x / 4294967296) : Nat) : Int) := bits_xor_u64_nat _ _ (by omega) (by omega)
  have hl : (x % 4294967296) ^^^ (x / 4294967296) < 2 ^ 32 := Nat.xor_lt_two_pow (by omega) (by omega)
  rw [e2, e3, e4, e5, Mixn.sh_split hx]
  congr 1
  generalize (x % 4294967296) ^^^ (x / 4294967296) = l at *
  have h6 : x / 4294967296 < 4294967296 := by omega
  generalize x / 4294967296 = h at *
  rw [IntKind.wrap_u64, IntKind.wrap_u64]
  omega
theorem wrap_mf (n : Nat) : IntKind.u64.wrap ((n : Int) * 15485907386658061715) = ((Mixn.mf n : Nat) : Int) := by
  rw [IntKind.wrap_u64]
  rfl
theorem refmix_eq (x : Nat) (hx : x < 18446744073709551616) : windroseref01_Mix.f (x : Int) = some ((Mixn.mix x : Nat) : Int) := by
  unfold windroseref01_Mix.f
  rw [shift_eq x hx]; simp only [Option.bind_some]
  rw [wrap_mf, shift_eq _ (Mixn.mf_lt _)]; simp only [Option.bind_some]
  rw [wrap_mf, shift_eq _ (Mixn.mf_lt _)]; simp only [Option.bind_some]
  rfl

/-! folds over a list -/
def toN (l : List Int) : List Nat := l.map Int.toNat
theorem rd_cons (a : Int) (l : List Int) : rd (a :: l) 0 = a := rfl
theorem wadd (s n : Nat) (hs : s < 18446744073709551616) (hn : n < 18446744073709551616) :
    IntKind.u64.wrap ((Go.bits .xor .u64 (s : Int) (n : Int)) + 11400714819323198485) = ((((s ^^^ n) + 11400714819323198485) % 18446744073709551616 : Nat) : Int) := by
  rw [bits_xor_u64_nat _ _ hs hn, IntKind.wrap_u64]
  rfl
theorem drop_at (l : List Int) (i : Nat) (h : i < l.length) : l.drop i = rd l (i : Int) :: l.drop (i + 1) := by
  rw [List.drop_eq_getElem_cons h]
  congr 1
  unfold rd
  rw [Int.toNat_natCast, List.getD_eq_getElem?_getD, List.getElem?_eq_getElem h]
  rfl
theorem rd_u64 (l : List Int) (hl : ∀ x ∈ l, (Lit.int .u64 x).wf = true) (i : Nat) (h : i < l.length) : ∃ n : Nat, rd l (i : Int) = n ∧ n < 18446744073709551616 := by
  apply u64_at
  apply hl
  unfold rd
  rw [Int.toNat_natCast, List.getD_eq_getElem?_getD, List.getElem?_eq_getElem h]
  exact List.getElem_mem h
theorem wrap_succ (i n : Nat) (h : i < n) (hn : n ≤ 1152921504606846976) : wrap64 ((i : Int) + 1) = ((i + 1 : Nat) : Int) := by unfold wrap64; omega
theorem fold_l0 (l : List Int) (hl : ∀ x ∈ l, (Lit.int .u64 x).wf = true) (hn : l.length ≤ 1152921504606846976) (d : Nat) : ∀ (k i s : Nat), i + d = l.length → d + 4 ≤ k → s < 18446744073709551616 →
    mix_Fold.l0 k (s : Int) l (l.length : Int) (i : Int) = some (((toN (l.drop i)).foldl Mixn.step s : Nat) : Int) := by
  induction d with
  | zero =>
    intro k i s hi hk hs
    obtain ⟨k, rfl⟩ : ∃ m, k = m + 1 := ⟨k - 1, by omega⟩
    simp only [mix_Fold.l0]
    rw [if_neg (by omega), List.drop_of_length_le (by omega)]
    rfl
  | succ d ih =>
    intro k i s hi hk hs
    obtain ⟨k, rfl⟩ : ∃ m, k = m + 1 := ⟨k - 1, by omega⟩
    obtain ⟨k3, hk3⟩ : ∃ m, k = m + 3 := ⟨k - 3, by omega⟩
    have hil : i < l.length := by omega
    obtain ⟨n, en, hn'⟩ := rd_u64 l hl i hil
    simp only [mix_Fold.l0]
    have em := mix_eq _ (Nat.mod_lt ((s ^^^ n) + 11400714819323198485) (show 18446744073709551616 > 0 by decide)) k3
    rw [← hk3] at em
    rw [if_pos (by omega), if_pos (by omega), if_pos (by omega), en, wadd s n hs hn', em]
    simp only [Option.bind_some]
    rw [wrap_succ i l.length hil hn, ih _ (i + 1) _ (by omega) (by omega) (Mixn.mix_lt _), drop_at l i hil, en]
    rfl
theorem fold_eq (s : Nat) (hs : s < 18446744073709551616) (l : List Int) (hl : ∀ x ∈ l, (Lit.int .u64 x).wf = true) (hn : l.length ≤ 1152921504606846976) (k : Nat) (hk : l.length + 4 ≤ k) :
    mix_Fold.f k (s : Int) l = some ((Mixn.fold s (toN l) : Nat) : Int) := by
  obtain ⟨m, rfl⟩ : ∃ m, k = m + 3 := ⟨k - 3, by omega⟩
  unfold mix_Fold.f
  rw [mix_eq s hs m]
  simp only [Option.bind_some]
  exact fold_l0 l hl hn l.length (m + 3) 0 _ (by omega) hk (Mixn.mix_lt _)
theorem reffold_l0 (l : List Int) (hl : ∀ x ∈ l, (Lit.int .u64 x).wf = true) (hn : l.length ≤ 1152921504606846976) (d : Nat) : ∀ (k i s : Nat), i + d = l.length → d < k → s < 18446744073709551616 →
    windroseref01_Fold.l0 k l (s : Int) (i : Int) = some (((toN (l.drop i)).foldl Mixn.step s : Nat) : Int) := by
  induction d with
  | zero =>
    intro k i s hi hk hs
    obtain ⟨k, rfl⟩ : ∃ m, k = m + 1 := ⟨k - 1, by omega⟩
    simp only [windroseref01_Fold.l0]
    rw [if_neg (by omega), List.drop_of_length_le (by omega)]
    rfl
  | succ d ih =>
    intro k i s hi hk hs
    obtain ⟨k, rfl⟩ : ∃ m, k = m + 1 := ⟨k - 1, by omega⟩
    have hil : i < l.length := by omega
    obtain ⟨n, en, hn'⟩ := rd_u64 l hl i hil
    simp only [windroseref01_Fold.l0]
    rw [if_pos (by omega), if_pos (by omega), en, wadd s n hs hn', refmix_eq _ (Nat.mod_lt _ (by decide))]
    simp only [Option.bind_some]
    rw [wrap_succ i l.length hil hn, ih _ (i + 1) _ (by omega) (by omega) (Mixn.mix_lt _), drop_at l i hil, en]
    rfl
theorem reffold_eq (s : Nat) (hs : s < 18446744073709551616) (l : List Int) (hl : ∀ x ∈ l, (Lit.int .u64 x).wf = true) (hn : l.length ≤ 1152921504606846976) (k : Nat) (hk : l.length < k) :
    windroseref01_Fold.f k (s : Int) l = some ((Mixn.fold s (toN l) : Nat) : Int) := by
  unfold windroseref01_Fold.f
  rw [refmix_eq s hs]
  simp only [Option.bind_some]
  exact reffold_l0 l hl hn l.length k 0 _ (by omega) hk (Mixn.mix_lt _)

end MixFoldsAid
open MixFoldsAid

theorem MixFolds : windroselaw01_MixFolds.Pure := by
  intro a0 l h0 _ hl8 hl
  obtain ⟨x, rfl, hx⟩ := u64_at h0
  have hn : l.length ≤ 1152921504606846976 := by omega
  refine ⟨l.length + 4 + 3, ?_⟩
  have e1 := fold_eq x hx l hl hn (l.length + 4 + 3) (by omega)
  have e2 := reffold_eq x hx l hl hn (l.length + 4 + 3) (by omega)
  have e3 := refmix_eq x hx
  have e4 : mix_Fold.f (l.length + 4 + 3) (x : Int) [] = some ((Mixn.mix x : Nat) : Int)  := by
    have h4 := fold_eq x hx [] (fun _ h => absurd h List.not_mem_nil) (Nat.zero_le _) (l.length + 4 + 3) (by rw [List.length_nil]; omega)
    rw [show toN [] = [] from rfl] at h4
    unfold Mixn.fold at h4
    rw [List.foldl_nil] at h4
    exact h4
  have e5 := awake_eq (l.length + 4)
  generalize Mixn.fold x (toN l) = m at *
  generalize Mixn.mix x = u at *
  unfold windroselaw01_MixFolds.f
  by_cases c : (l.length : Int) > 3000
  · rw [if_pos c, e5]; rfl
  · rw [if_neg c, e1, Option.bind_some, e2, Option.bind_some, if_pos rfl, e4, Option.bind_some, e3, Option.bind_some, if_pos rfl, e5]
    rfl
end Go.Proofs.Ytmcnllnfnlgpnaa.Pure
