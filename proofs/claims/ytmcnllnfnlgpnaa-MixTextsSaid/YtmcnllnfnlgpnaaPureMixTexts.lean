/- For every seed and text Text tells what the reference tells; no condition. -/
import Derived.Test.YtmcnllnfnlgpnaaPMixTextsx2
import Derived.Test.YtmcnllnfnlgpnaaMixn
import Derived.Test.YtmcnllnfnlgpnaaPiecn
namespace Go.Proofs.Ytmcnllnfnlgpnaa.Pure
open Go.RowKit Go.Proofs.Ytmcnllnfnlgpnaa.PMixTexts Go.Proofs.YtmcnllnfnlgpnaaW.PrintWords Go.Proofs.YtmcnllnfnlgpnaaW.PrintLast Go.Proofs.YtmcnllnfnlgpnaaW.PrintMore
namespace MixTextsAid
/-! mixing, as printed, is what the plain numbers are -/
theorem w1 : wrap64 (0 + 1) = 1 := by unfold wrap64; omega
theorem w2 : wrap64 (1 + 1) = 2 := by unfold wrap64; omega
theorem xs (X : Nat) (hX : X < 18446744073709551616) : Go.bits .xor .u64 (X : Int) ((X : Int) / 4294967296) = ((Mixn.sh X : Nat) : Int) := xorShift_u64 X 4294967296 hX
theorem xm (X : Nat) (hX : X < 18446744073709551616) : IntKind.u64.wrap (Go.bits .xor .u64 (X : Int) ((X : Int) / 4294967296) * 15485907386658061715) = ((Mixn.mf (Mixn.sh X) : Nat) : Int) := by
  rw [xs X hX, IntKind.wrap_u64]
  rfl
theorem mix_eq (x : Nat) (hx : x < 18446744073709551616) (k : Nat) : mix_Mix.f (k + 3) (x : Int) = some ((Mixn.mix x : Nat) : Int) := by
  unfold mix_Mix.f
  simp only [mix_Mix.l0]
  rw [if_pos (by decide), w1, if_pos (by decide), w2, if_neg (by decide), xm x hx, xm _ (Mixn.mf_lt _), xs _ (Mixn.mf_lt _)]
  rfl
theorem awake_eq (k : Nat) : windroselaw01_awake.f (k + 3) = some true := by
  have h : mix_Mix.f (k + 3) 1 = some 4717996019076358352 := by
    rw [show (1 : Int) = ((1 : Nat) : Int) from rfl, mix_eq 1 (by decide)]
    decide +kernel
  unfold windroselaw01_awake.f
  rw [h]
  simp only [Option.bind_some]
  rw [if_pos trivial]
  decide +kernel
theorem u64_at {x : Int} (h : (Lit.int .u64 x).wf = true) : ∃ n : Nat, x = n ∧ n < 18446744073709551616 := by
  simp only [Lit.wf, IntKind.min, IntKind.max, IntKind.signed, IntKind.bits, Bool.and_eq_true] at h
  simp at h
  exact ⟨x.toNat, by omega, by omega⟩

theorem shift_eq (x : Nat) (hx : x < 18446744073709551616) : windroseref01_shift.f (x : Int) = some ((Mixn.sh x : Nat) : Int) := by
  unfold windroseref01_shift.f
  have e2 : Int.tdiv (x : Int) 4294967296 = ((x / 4294967296 : Nat) : Int) := by rw [Int.tdiv_eq_ediv_of_nonneg (Int.natCast_nonneg _), Int.natCast_ediv]; rfl
  have e3 : IntKind.u64.wrap ((x / 4294967296 : Nat) : Int) = ((x / 4294967296 : Nat) : Int) := by rw [IntKind.wrap_u64]; omega
  have e4 : Int.tmod (x : Int) 4294967296 = ((x % 4294967296 : Nat) : Int) := by rw [Int.tmod_eq_emod_of_nonneg (Int.natCast_nonneg _), Int.natCast_emod]; rfl
  have e5 : Go.bits .xor .u64 ((x % 4294967296 : Nat) : Int) ((x / 4294967296 : Nat) : Int) = (((x % 4294967296) ^^^ (x / 4294967296) : Nat) : Int) := bits_xor_u64_nat _ _ (by omega) (by omega)
  have hl : (x % 4294967296) ^^^ (x / 4294967296) < 2 ^ 32 := Nat.xor_lt_two_pow (by omega) (by omega)
  rw [e2, e3, e4, e5, Mixn.sh_split hx]
  congr 1
  generalize (x % 4294967296) ^^^ (x / 4294967296) = l at *
  have h6 : x / 4294967296 < 4294967296 := by omega
  generalize x / 4294967296 = h at *
  rw [IntKind.wrap_u64, IntKind.wrap_u64]
  omega
theorem wrap_mf (n : Nat) : IntKind.u64.wrap ((n : Int) * 15485907386658061715) = ((Mixn.mf n : Nat) : Int) := by
  rw [IntKind.wrap_u64]
  rfl
theorem refmix_eq (x : Nat) (hx : x < 18446744073709551616) : windroseref01_Mix.f (x : Int) = some ((Mixn.mix x : Nat) : Int) := by
  unfold windroseref01_Mix.f
  rw [shift_eq x hx]; simp only [Option.bind_some]
  rw [wrap_mf, shift_eq _ (Mixn.mf_lt _)]; simp only [Option.bind_some]
  rw [wrap_mf, shift_eq _ (Mixn.mf_lt _)]; simp only [Option.bind_some]
  rfl

/-! folds over a list -/
def toN (l : List Int) : List Nat := l.map Int.toNat
theorem rd_cons (a : Int) (l : List Int) : rd (a :: l) 0 = a := rfl
theorem wadd (s n : Nat) (hs : s < 18446744073709551616) (hn : n < 18446744073709551616) :
    IntKind.u64.wrap ((Go.bits .xor .u64 (s : Int) (n : Int)) + 11400714819323198485) = ((((s ^^^ n) + 11400714819323198485) % 18446744073709551616 : Nat) : Int) := by
  rw [bits_xor_u64_nat _ _ hs hn, IntKind.wrap_u64]
  rfl
theorem drop_at (l : List Int) (i : Nat) (h : i < l.length) : l.drop i = rd l (i : Int) :: l.drop (i + 1) := by
  rw [List.drop_eq_getElem_cons h]
  congr 1
  unfold rd
  rw [Int.toNat_natCast, List.getD_eq_getElem?_getD, List.getElem?_eq_getElem h]
  rfl
theorem rd_u64 (l : List Int) (hl : ∀ x ∈ l, (Lit.int .u64 x).wf = true) (i : Nat) (h : i < l.length) : ∃ n : Nat, rd l (i : Int) = n ∧ n < 18446744073709551616 := by
  apply u64_at
  apply hl
  unfold rd
  rw [Int.toNat_natCast, List.getD_eq_getElem?_getD, List.getElem?_eq_getElem h]
  exact List.getElem_mem h
theorem wrap_succ (i n : Nat) (h : i < n) (hn : n ≤ 1152921504606846976) : wrap64 ((i : Int) + 1) = ((i + 1 : Nat) : Int) := by unfold wrap64; omega
theorem fold_l0 (l : List Int) (hl : ∀ x ∈ l, (Lit.int .u64 x).wf = true) (hn : l.length ≤ 1152921504606846976) (d : Nat) : ∀ (k i s : Nat), i + d = l.length → d + 4 ≤ k → s < 18446744073709551616 →
    mix_Fold.l0 k (s : Int) l (l.length : Int) (i : Int) = some (((toN (l.drop i)).foldl Mixn.step s : Nat) : Int) := by
  induction d with
  | zero =>
    intro k i s hi hk hs
    obtain ⟨k, rfl⟩ : ∃ m, k = m + 1 := ⟨k - 1, by omega⟩
    simp only [mix_Fold.l0]
    rw [if_neg (by omega), List.drop_of_length_le (by omega)]
    rfl
  | succ d ih =>
    intro k i s hi hk hs
    obtain ⟨k, rfl⟩ : ∃ m, k = m + 1 := ⟨k - 1, by omega⟩
    obtain ⟨k3, hk3⟩ : ∃ m, k = m + 3 := ⟨k - 3, by omega⟩
    have hil : i < l.length := by omega
    obtain ⟨n, en, hn'⟩ := rd_u64 l hl i hil
    simp only [mix_Fold.l0]
    have em := mix_eq _ (Nat.mod_lt ((s ^^^ n) + 11400714819323198485) (show 18446744073709551616 > 0 by decide)) k3
    rw [← hk3] at em
    rw [if_pos (by omega), if_pos (by omega), if_pos (by omega), en, wadd s n hs hn', em]
    simp only [Option.bind_some]
    rw [wrap_succ i l.length hil hn, ih _ (i + 1) _ (by omega) (by omega) (Mixn.mix_lt _), drop_at l i hil, en]
    rfl
theorem fold_eq (s : Nat) (hs : s < 18446744073709551616) (l : List Int) (hl : ∀ x ∈ l, (Lit.int .u64 x).wf = true) (hn : l.length ≤ 1152921504606846976) (k : Nat) (hk : l.length + 4 ≤ k) :
    mix_Fold.f k (s : Int) l = some ((Mixn.fold s (toN l) : Nat) : Int) := by
  obtain ⟨m, rfl⟩ : ∃ m, k = m + 3 := ⟨k - 3, by omega⟩
  unfold mix_Fold.f
  rw [mix_eq s hs m]
  simp only [Option.bind_some]
  exact fold_l0 l hl hn l.length (m + 3) 0 _ (by omega) hk (Mixn.mix_lt _)
theorem reffold_l0 (l : List Int) (hl : ∀ x ∈ l, (Lit.int .u64 x).wf = true) (hn : l.length ≤ 1152921504606846976) (d : Nat) : ∀ (k i s : Nat), i + d = l.length → d < k → s < 18446744073709551616 →
    windroseref01_Fold.l0 k l (s : Int) (i : Int) = some (((toN (l.drop i)).foldl Mixn.step s : Nat) : Int) := by
  induction d with
  | zero =>
    intro k i s hi hk hs
    obtain ⟨k, rfl⟩ : ∃ m, k = m + 1 := ⟨k - 1, by omega⟩
    simp only [windroseref01_Fold.l0]
    rw [if_neg (by omega), List.drop_of_length_le (by omega)]
    rfl
  | succ d ih =>
    intro k i s hi hk hs
    obtain ⟨k, rfl⟩ : ∃ m, k = m + 1 := ⟨k - 1, by omega⟩
    have hil : i < l.length := by omega
    obtain ⟨n, en, hn'⟩ := rd_u64 l hl i hil
    simp only [windroseref01_Fold.l0]
    rw [if_pos (by omega), if_pos (by omega), en, wadd s n hs hn', refmix_eq _ (Nat.mod_lt _ (by decide))]
    simp only [Option.bind_some]
    rw [wrap_succ i l.length hil hn, ih _ (i + 1) _ (by omega) (by omega) (Mixn.mix_lt _), drop_at l i hil, en]
    rfl
theorem reffold_eq (s : Nat) (hs : s < 18446744073709551616) (l : List Int) (hl : ∀ x ∈ l, (Lit.int .u64 x).wf = true) (hn : l.length ≤ 1152921504606846976) (k : Nat) (hk : l.length < k) :
    windroseref01_Fold.f k (s : Int) l = some ((Mixn.fold s (toN l) : Nat) : Int) := by
  unfold windroseref01_Fold.f
  rw [refmix_eq s hs]
  simp only [Option.bind_some]
  exact reffold_l0 l hl hn l.length k 0 _ (by omega) hk (Mixn.mix_lt _)

/-! a text's pieces, as both make them -/
def bN (s : ByteArray) (i : Nat) : Nat := (bt s (i : Int)).toNat
theorem bt_eq (s : ByteArray) (i : Nat) : bt s (i : Int) = (bN s i : Int) := by
  unfold bN bt
  split
  · simp
  · simp
theorem bN_lt (s : ByteArray) (i : Nat) : bN s i < 256 := by
  unfold bN bt
  split
  · rename_i h
    rw [Int.toNat_natCast]
    exact UInt8.toNat_lt _
  · simp
theorem bN_zero (s : ByteArray) (i : Nat) (h : s.size ≤ i) : bN s i = 0 := by
  unfold bN bt
  rw [Int.toNat_natCast, dif_neg (by omega)]
  rfl
def toI (l : List Nat) : List Int := l.map fun n : Nat => (n : Int)
theorem toN_toI (l : List Nat) : toN (toI l) = l := by
  unfold toN toI
  rw [List.map_map]
  exact (List.map_congr_left fun a _ => Int.toNat_natCast a).trans (List.map_id l)
theorem toI_append (a b : List Nat) : toI (a ++ b) = toI a ++ toI b := List.map_append
theorem toI_length (a : List Nat) : (toI a).length = a.length := List.length_map _
theorem toI_wf (l : List Nat) (h : ∀ x ∈ l, x < 18446744073709551616) : ∀ x ∈ toI l, (Lit.int .u64 x).wf = true := by
  intro x hx
  obtain ⟨n, hn, rfl⟩ := List.mem_map.1 hx
  have := h n hn
  simp only [Lit.wf, IntKind.min, IntKind.max, IntKind.signed, IntKind.bits, Bool.and_eq_true]
  simp
  omega
theorem wrap_u64_nat (n : Nat) (h : n < 18446744073709551616) : IntKind.u64.wrap (n : Int) = n := by rw [IntKind.wrap_u64]; omega
theorem shl_byte (c r : Nat) (hc : c < 256) (hr : r < 8) : shl .u64 (IntKind.u64.wrap (c : Int)) (wrap64 (8 * (r : Int))) = ((c * 2 ^ (8 * r) : Nat) : Int) := by
  have hw : wrap64 (8 * (r : Int)) = ((8 * r : Nat) : Int) := by unfold wrap64; omega
  have hm : min (8 * r) (IntKind.bits .u64) = 8 * r := by simp only [IntKind.bits]; omega
  have hp : c * 2 ^ (8 * r) < 18446744073709551616 := by
    have h1 : c * 2 ^ (8 * r) ≤ 255 * 2 ^ (8 * r) := Nat.mul_le_mul_right _ (by omega)
    have h2 : 2 ^ (8 * r) ≤ 2 ^ 56 := Nat.pow_le_pow_right (by decide) (by omega)
    have h3 : (255 : Nat) * 2 ^ 56 < 18446744073709551616 := by decide
    exact Nat.lt_of_le_of_lt (Nat.le_trans h1 (Nat.mul_le_mul_left _ h2)) h3
  unfold shl
  rw [wrap_u64_nat c (by omega), hw, Int.toNat_natCast, hm]
  have e : (c : Int) * 2 ^ (8 * r) = ((c * 2 ^ (8 * r) : Nat) : Int) := by simp
  rw [e, wrap_u64_nat _ hp]
theorem or_nat (a b : Nat) (ha : a < 18446744073709551616) (hb : b < 18446744073709551616) : Go.bits .or .u64 (a : Int) (b : Int) = ((a ||| b : Nat) : Int) :=
  (bits_nat .u64 64 (by decide) (fun n h0 h1 => by rw [IntKind.wrap_u64]; omega) a b (by omega) (by omega)).2
theorem set_last (A : List Int) (v u : Int) (n : Nat) (h : n = A.length) : (A ++ [v]).set n u = A ++ [u] := by
  subst h
  rw [List.set_append_right _ _ (Nat.le_refl _), Nat.sub_self]
  rfl
theorem rd_last (A : List Int) (v : Int) (n : Nat) (h : n = A.length) : rd (A ++ [v]) (n : Int) = v := by
  subst h
  unfold rd
  rw [Int.toNat_natCast, List.getD_eq_getElem?_getD, List.getElem?_append_right (Nat.le_refl _), Nat.sub_self]
  rfl
theorem len_last (A : List Int) (v : Int) (h : A.length ≤ 1152921504606846976) : wrap64 ((((A ++ [v]).length : Nat) : Int) - 1) = ((A.length : Nat) : Int) := by
  rw [List.length_append, List.length_singleton]
  unfold wrap64
  omega
theorem tmod8 (i : Nat) : Int.tmod (i : Int) 8 = ((i % 8 : Nat) : Int) := by rw [Int.tmod_eq_emod_of_nonneg (Int.natCast_nonneg _), Int.natCast_emod]; rfl
/-- One round of the text's loop, where the last one is there. -/
theorem round (s : ByteArray) (A : List Int) (v i r : Nat) (hA : A.length ≤ 1152921504606846976) (hr : r < 8) (hv : v < 256 ^ r) :
    (A ++ [(v : Int)]).set (wrap64 ((((A ++ [(v : Int)]).length : Nat) : Int) - 1)).toNat (Go.bits .or .u64 (rd (A ++ [(v : Int)]) (wrap64 ((((A ++ [(v : Int)]).length : Nat) : Int) - 1))) (shl .u64 (IntKind.u64.wrap (bt s (i : Int))) (wrap64 (8 * ((r : Nat) : Int))))) =
      A ++ [((v + bN s i * 256 ^ r : Nat) : Int)] := by
  have hp : 256 ^ r ≤ 72057594037927936 := Nat.le_trans (Nat.pow_le_pow_right (by decide) (show r ≤ 7 by omega)) (by decide)
  have hq : bN s i * 2 ^ (8 * r) < 18446744073709551616 := by
    have h0 := bN_lt s i
    have h1 : bN s i * 2 ^ (8 * r) ≤ 255 * 2 ^ (8 * r) := Nat.mul_le_mul_right _ (by omega)
    have h2 : 2 ^ (8 * r) ≤ 2 ^ 56 := Nat.pow_le_pow_right (by decide) (by omega)
    have h3 : (255 : Nat) * 2 ^ 56 < 18446744073709551616 := by decide
    exact Nat.lt_of_le_of_lt (Nat.le_trans h1 (Nat.mul_le_mul_left _ h2)) h3
  rw [len_last A _ hA, Int.toNat_natCast, rd_last A _ _ rfl, bt_eq, shl_byte _ _ (bN_lt s i) hr, or_nat v _ (by omega) hq, Mixn.or_byte v _ r hv, set_last A _ _ _ rfl]
theorem text_l0 (s : ByteArray) (x : Nat) (hx : x < 18446744073709551616) (hn : s.size ≤ 140737488351232) (d : Nat) : ∀ (k i : Nat), i + d = s.size → d + s.size + 8 ≤ k →
    mix_Text.l0 k (x : Int) s (toI (Mixn.lst (bN s) s.size i)) (s.size : Int) (i : Int) = some ((Mixn.fold x (Mixn.lst (bN s) s.size s.size) : Nat) : Int) := by
  have hw : ∀ i, ∀ y ∈ Mixn.lst (bN s) s.size i, y < 18446744073709551616 := fun i => Mixn.lst_lt _ (bN_lt s) _ i (by omega)
  induction d with
  | zero =>
    intro k i hi hk
    obtain rfl : i = s.size := by omega
    obtain ⟨k, rfl⟩ : ∃ m, k = m + 1 := ⟨k - 1, by omega⟩
    have hl := Mixn.lst_length (bN s) s.size s.size
    have hf := fold_eq x hx (toI (Mixn.lst (bN s) s.size s.size)) (toI_wf _ (hw _)) (by rw [toI_length]; omega) k (by rw [toI_length]; omega)
    rw [toN_toI] at hf
    simp only [mix_Text.l0]
    rw [if_neg (by omega), hf]
    rfl
  | succ d ih =>
    intro k i hi hk
    obtain ⟨k, rfl⟩ : ∃ m, k = m + 1 := ⟨k - 1, by omega⟩
    have hl := Mixn.lst_length (bN s) s.size i
    have hi1 := ih k (i + 1) (by omega) (by omega)
    have hws : wrap64 ((i : Int) + 1) = ((i + 1 : Nat) : Int) := wrap_succ i s.size (by omega) (by omega)
    simp only [mix_Text.l0]
    rw [if_pos (by omega), tmod8, hws]
    by_cases h8 : i % 8 = 0
    · have hr := round s (toI (Mixn.lst (bN s) s.size i)) 0 i (i % 8) (by rw [toI_length]; omega) (by omega) (Nat.pow_pos (by decide))
      rw [Mixn.lst_first _ _ _ h8, toI_append] at hi1
      rw [h8] at hr ⊢
      rw [if_pos (by rfl), if_pos (by rw [toI_length]; omega), Option.bind_some, if_pos (by rw [len_last _ _ (by rw [toI_length]; omega)]; exact Int.natCast_nonneg _), if_pos (by rw [len_last _ _ (by rw [toI_length]; omega), List.length_append, List.length_singleton]; omega), if_pos (Int.natCast_nonneg _), if_pos (by omega), if_pos (by unfold wrap64; omega)]
      have e0 : (0 : Int) = ((0 : Nat) : Int) := rfl
      rw [show ([0] : List Int) = [((0 : Nat) : Int)] from rfl, hr]
      rw [show 0 + bN s i * 256 ^ 0 = bN s i by simp]
      exact hi1
    · obtain ⟨A, e1, e2⟩ := Mixn.lst_more (bN s) s.size i h8
      have hA : (toI A).length ≤ 1152921504606846976 := by
        rw [toI_length]
        have : (A ++ [Mixn.pc (bN s) (i / 8) (i % 8)]).length ≤ i / 8 + 2 := e1 ▸ hl
        rw [List.length_append] at this
        omega
      have hr := round s (toI A) (Mixn.pc (bN s) (i / 8) (i % 8)) i (i % 8) hA (by omega) (Mixn.pc_lt (bN_lt s) _ _)
      rw [e2, toI_append] at hi1
      rw [e1, toI_append, show toI [Mixn.pc (bN s) (i / 8) (i % 8)] = [((Mixn.pc (bN s) (i / 8) (i % 8) : Nat) : Int)] from rfl]
      rw [if_neg (by omega), if_pos (by rw [len_last _ _ hA]; exact Int.natCast_nonneg _), if_pos (by rw [len_last _ _ hA, List.length_append, List.length_singleton]; omega), if_pos (Int.natCast_nonneg _), if_pos (by omega), if_pos (by unfold wrap64; omega), hr]
      exact hi1
theorem text_eq (s : ByteArray) (x : Nat) (hx : x < 18446744073709551616) (hn : s.size ≤ 140737488351232) (k : Nat) (hk : s.size + s.size + 8 ≤ k) :
    mix_Text.f k (x : Int) s = some ((Mixn.fold x (Mixn.lst (bN s) s.size s.size) : Nat) : Int) := by
  unfold mix_Text.f
  have h := text_l0 s x hx hn s.size k 0 (by omega) hk
  rw [Mixn.lst_zero] at h
  rw [wrap_u64_nat _ (by omega)]
  exact h

theorem inner (s : ByteArray) (hn : s.size ≤ 140737488351232) (X : List Int) (i v t k : Nat) (hi : i < s.size) (ht : t < 8) (hv : v < 72057594037927936) :
    windroseref01_Pieces.l1 (k + 1) s X (i : Int) (v : Int) (t : Int) = windroseref01_Pieces.l1 k s X (i : Int) ((v * 256 + bN s (i + t) : Nat) : Int) ((t : Int) - 1) := by
  have hb := bN_lt s (i + t)
  have h1 : wrap64 ((i : Int) + (t : Int)) = ((i + t : Nat) : Int) := by unfold wrap64; omega
  have h2 : wrap64 ((t : Int) - 1) = (t : Int) - 1 := by unfold wrap64; omega
  have h3 : IntKind.u64.wrap ((v : Int) * 256) = ((v * 256 : Nat) : Int) := by rw [IntKind.wrap_u64]; omega
  simp only [windroseref01_Pieces.l1]
  rw [if_pos (by omega), h1, h2, h3, bt_eq]
  by_cases hlt : i + t < s.size
  · have h4 : IntKind.u64.wrap (((v * 256 : Nat) : Int) + IntKind.u64.wrap (bN s (i + t) : Int)) = ((v * 256 + bN s (i + t) : Nat) : Int) := by
      rw [wrap_u64_nat _ (by omega), IntKind.wrap_u64]
      omega
    rw [if_pos (by omega), if_pos (Int.natCast_nonneg _), h4]
  · have h4 := bN_zero s (i + t) (by omega)
    rw [if_neg (by omega), h4, Nat.add_zero]
theorem inner' (s : ByteArray) (hn : s.size ≤ 140737488351232) (X : List Int) (i v t k u : Nat) (hi : i < s.size) (ht : t < 8) (hv : v < 72057594037927936) (hu : u = v * 256 + bN s (i + t)) :
    windroseref01_Pieces.l1 (k + 1) s X (i : Int) (v : Int) (t : Int) = windroseref01_Pieces.l1 k s X (i : Int) (u : Int) ((t : Int) - 1) := by
  rw [hu]
  exact inner s hn X i v t k hi ht hv
theorem chain (s : ByteArray) (hn : s.size ≤ 140737488351232) (X : List Int) (i k v7 v6 v5 v4 v3 v2 v1 v0 : Nat) (hi : i < s.size) (hX : X.length < 17592186044416)
    (h7 : v7 = 0 * 256 + bN s (i + 7)) (h6 : v6 = v7 * 256 + bN s (i + 6)) (h5 : v5 = v6 * 256 + bN s (i + 5)) (h4 : v4 = v5 * 256 + bN s (i + 4))
    (h3 : v3 = v4 * 256 + bN s (i + 3)) (h2 : v2 = v3 * 256 + bN s (i + 2)) (h1 : v1 = v2 * 256 + bN s (i + 1)) (h0 : v0 = v1 * 256 + bN s (i + 0)) :
    windroseref01_Pieces.l0 (k + 10) s X (i : Int) = windroseref01_Pieces.l0 k s (X ++ [(v0 : Int)]) ((i + 8 : Nat) : Int) := by
  have b0 := bN_lt s (i + 0); have b1 := bN_lt s (i + 1); have b2 := bN_lt s (i + 2); have b3 := bN_lt s (i + 3); have b4 := bN_lt s (i + 4); have b5 := bN_lt s (i + 5); have b6 := bN_lt s (i + 6); have b7 := bN_lt s (i + 7)
  have i7 := inner' s hn X i 0 7 (k + 8) v7 hi (by omega) (by omega) h7
  have i6 := inner' s hn X i v7 6 (k + 7) v6 hi (by omega) (by omega) h6
  have i5 := inner' s hn X i v6 5 (k + 6) v5 hi (by omega) (by omega) h5
  have i4 := inner' s hn X i v5 4 (k + 5) v4 hi (by omega) (by omega) h4
  have i3 := inner' s hn X i v4 3 (k + 4) v3 hi (by omega) (by omega) h3
  have i2 := inner' s hn X i v3 2 (k + 3) v2 hi (by omega) (by omega) h2
  have i1 := inner' s hn X i v2 1 (k + 2) v1 hi (by omega) (by omega) h1
  have i0 := inner' s hn X i v1 0 (k + 1) v0 hi (by omega) (by omega) h0
  clear b0 b1 b2 b3 b4 b5 b6 b7 h0 h1 h2 h3 h4 h5 h6 h7
  have hw : wrap64 ((i : Int) + 8) = ((i + 8 : Nat) : Int) := by unfold wrap64; omega
  have hend : windroseref01_Pieces.l1 (k + 1) s X (i : Int) (v0 : Int) (-1) = windroseref01_Pieces.l0 k s (X ++ [(v0 : Int)]) ((i + 8 : Nat) : Int) := by
    simp only [windroseref01_Pieces.l1]
    rw [if_neg (by omega), if_pos hX, hw]
  have hst : windroseref01_Pieces.l0 (k + 9 + 1) s X (i : Int) = windroseref01_Pieces.l1 (k + 9) s X (i : Int) 0 7 := by
    rw [windroseref01_Pieces.l0]
    rw [if_pos (by omega)]
  exact hst.trans (i7.trans (i6.trans (i5.trans (i4.trans (i3.trans (i2.trans (i1.trans (i0.trans hend))))))))
theorem step8 (s : ByteArray) (hn : s.size ≤ 140737488351232) (X : List Int) (j k : Nat) (hi : 8 * j < s.size) (hX : X.length < 17592186044416) :
    windroseref01_Pieces.l0 (k + 10) s X ((8 * j : Nat) : Int) = windroseref01_Pieces.l0 k s (X ++ [((Mixn.pc (bN s) j 8 : Nat) : Int)]) ((8 * (j + 1) : Nat) : Int) := by
  have h := chain s hn X (8 * j) k _ _ _ _ _ _ _ _ hi hX rfl rfl rfl rfl rfl rfl rfl rfl
  rw [Nat.zero_mul, Nat.zero_add, Mixn.horner] at h
  exact h
theorem pieces_l0 (s : ByteArray) (hn : s.size ≤ 140737488351232) (d : Nat) : ∀ (k j : Nat), j + d = (s.size + 7) / 8 → 10 * d < k →
    windroseref01_Pieces.l0 k s (toI (s.size :: (List.range j).map fun j => Mixn.pc (bN s) j 8)) ((8 * j : Nat) : Int) = some (toI (s.size :: (List.range ((s.size + 7) / 8)).map fun j => Mixn.pc (bN s) j 8)) := by
  induction d with
  | zero =>
    intro k j hj hk
    obtain rfl : j = (s.size + 7) / 8 := by omega
    obtain ⟨k, rfl⟩ : ∃ m, k = m + 1 := ⟨k - 1, by omega⟩
    rw [windroseref01_Pieces.l0]
    rw [if_neg (by omega)]
  | succ d ih =>
    intro k j hj hk
    obtain ⟨k, rfl⟩ : ∃ m, k = m + 10 := ⟨k - 10, by omega⟩
    rw [step8 s hn _ j k (by omega) (by simp [toI]; omega)]
    have h := ih k (j + 1) (by omega) (by omega)
    rw [List.range_succ, List.map_append, ← List.cons_append, toI_append] at h
    exact h
theorem pieces_eq (s : ByteArray) (hn : s.size ≤ 140737488351232) (k : Nat) (hk : 10 * ((s.size + 7) / 8) < k) :
    windroseref01_Pieces.f k s = some (toI (Mixn.lst (bN s) s.size s.size)) := by
  unfold windroseref01_Pieces.f
  rw [wrap_u64_nat _ (by omega), Mixn.lst_all _ _ (bN_zero s)]
  exact pieces_l0 s hn _ k 0 (by omega) hk

theorem reftext_eq (s : ByteArray) (x : Nat) (hx : x < 18446744073709551616) (hn : s.size ≤ 140737488351232) (k : Nat) (hk : 2 * s.size + 20 ≤ k) :
    windroseref01_Text.f k (x : Int) s = some ((Mixn.fold x (Mixn.lst (bN s) s.size s.size) : Nat) : Int) := by
  have hl := Mixn.lst_length (bN s) s.size s.size
  have hf := reffold_eq x hx (toI (Mixn.lst (bN s) s.size s.size)) (toI_wf _ (Mixn.lst_lt _ (bN_lt s) _ _ (by omega))) (by rw [toI_length]; omega) k (by rw [toI_length]; omega)
  rw [toN_toI] at hf
  unfold windroseref01_Text.f
  rw [pieces_eq s hn k (by omega), Option.bind_some, hf]
  rfl
end MixTextsAid
open MixTextsAid

theorem MixTexts : windroselaw01_MixTexts.Pure := by
  intro a0 s h0 hn
  obtain ⟨x, rfl, hx⟩ := u64_at h0
  refine ⟨2 * s.size + 20 + 3, ?_⟩
  have e1 := text_eq s x hx hn (2 * s.size + 20 + 3) (by omega)
  have e2 := reftext_eq s x hx hn (2 * s.size + 20 + 3) (by omega)
  have e5 := awake_eq (2 * s.size + 20)
  generalize Mixn.fold x (Mixn.lst (bN s) s.size s.size) = m at *
  unfold windroselaw01_MixTexts.f
  by_cases c : (s.size : Int) > 3000
  · rw [if_pos c, e5]; rfl
  · rw [if_neg c, e1, Option.bind_some, e2, Option.bind_some, if_pos rfl, e5]
    rfl
end Go.Proofs.Ytmcnllnfnlgpnaa.Pure
