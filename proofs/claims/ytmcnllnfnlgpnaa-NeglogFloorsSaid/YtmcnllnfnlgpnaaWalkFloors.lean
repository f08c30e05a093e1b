/- NeglogFloors: for every cost the law's body comes to true; no condition. -/
import Derived.Test.YtmcnllnfnlgpnaaPNeglogFloorsx1
import Derived.Test.YtmcnllnfnlgpnaaNegn
import Derived.IntWalk
import Derived.Lib.Hide
import Derived.Shelf.Abstract
namespace Go.Proofs.Ytmcnllnfnlgpnaa.Pure
open Go.RowKit Go.Proofs.Ytmcnllnfnlgpnaa.PNeglogFloors Go.Proofs.YtmcnllnfnlgpnaaW.PrintWords Go.Proofs.YtmcnllnfnlgpnaaW.PrintLast Go.Proofs.YtmcnllnfnlgpnaaW.PrintMore
namespace NeglogFloorsAid
/-! a cost, as printed, is what the plain numbers are -/
theorem u64_nat (n : Nat) (h : n < 18446744073709551616) : IntKind.u64.wrap (n : Int) = n := by rw [IntKind.wrap_u64]; omega
theorem sq_div (z : Nat) (hz : z ≤ 2147483648) : IntKind.u64.wrap (Int.tdiv (IntKind.u64.wrap ((z : Int) * (z : Int))) 2147483648) = ((z * z / 2147483648 : Nat) : Int) ∧ z * z / 2147483648 ≤ 2147483648 := by
  have h1 : z * z ≤ 2147483648 * 2147483648 := Nat.mul_le_mul hz hz
  have h2 : (2147483648 : Nat) * 2147483648 = 4611686018427387904 := by decide
  rw [h2] at h1
  have e : (z : Int) * (z : Int) = ((z * z : Nat) : Int) := by rw [Int.natCast_mul]
  have h3 : z * z / 2147483648 ≤ 2147483648 := by omega
  rw [e, u64_nat _ (by omega), Int.tdiv_eq_ediv_of_nonneg (Int.natCast_nonneg _)]
  have e2 : ((z * z : Nat) : Int) / 2147483648 = ((z * z / 2147483648 : Nat) : Int) := by rw [Int.natCast_ediv]; rfl
  rw [e2, u64_nat _ (by omega)]
  exact ⟨rfl, h3⟩
theorem cost_l1 (c : Nat) (hc : c ≤ 17) (d : Nat) : ∀ (k z f i : Nat), i + d = 16 → d < k → z ≤ 2147483648 → f < 2 ^ i →
    neglog_Cost.l1 k (c : Int) (z : Int) (f : Int) (i : Int) = some ((c * 65536 + Negn.bitsOf d z f : Nat) : Int) := by
  induction d with
  | zero =>
    intro k z f i hi hk hz hf
    obtain ⟨k, rfl⟩ : ∃ m, k = m + 1 := ⟨k - 1, by omega⟩
    obtain rfl : i = 16 := by omega
    have hw : wrap64 (wrap64 ((c : Int) * 65536) + (f : Int)) = ((c * 65536 + f : Nat) : Int) := by unfold wrap64; omega
    rw [neglog_Cost.l1]
    rw [if_neg (by omega), hw]
    rfl
  | succ d ih =>
    intro k z f i hi hk hz hf
    obtain ⟨k, rfl⟩ : ∃ m, k = m + 1 := ⟨k - 1, by omega⟩
    have p1 : (i : Int) < 16 := by omega
    have hp : 2 ^ i ≤ 65536 := Nat.le_trans (Nat.pow_le_pow_right (by decide) (show i ≤ 16 by omega)) (by decide)
    have hp2 : 2 ^ (i + 1) = 2 * 2 ^ i := by rw [Nat.pow_succ, Nat.mul_comm]
    have w1 : wrap64 ((i : Int) + 1) = ((i + 1 : Nat) : Int) := by unfold wrap64; omega
    have w2 : wrap64 ((f : Int) * 2) = ((2 * f : Nat) : Int) := by unfold wrap64; omega
    have w3 : wrap64 (((2 * f : Nat) : Int) + 1) = ((2 * f + 1 : Nat) : Int) := by unfold wrap64; omega
    obtain ⟨e1, h1⟩ := sq_div z hz
    rw [neglog_Cost.l1, Negn.bitsOf]
    rw [if_pos p1, e1, w1, w2, w3]
    clear w1 w2 w3
    generalize z * z / 2147483648 = y at *
    clear e1
    by_cases cy : y ≤ 1073741824
    · have w4 : IntKind.u64.wrap ((y : Int) * 2) = ((2 * y : Nat) : Int) := by rw [IntKind.wrap_u64]; omega
      rw [if_pos (by omega), if_pos cy, w4]
      exact ih k (2 * y) (2 * f + 1) (i + 1) (by omega) (by omega) (by omega) (by omega)
    · rw [if_neg (by omega), if_neg cy]
      exact ih k y (2 * f) (i + 1) (by omega) (by omega) (by omega) (by omega)
theorem cost_l0 (d : Nat) : ∀ (k u c : Nat), 32768 < u * 2 ^ d → u ≤ 65536 → c + d ≤ 16 → d + 18 < k →
    neglog_Cost.l0 k (u : Int) (c : Int) = some ((c * 65536 + Negn.cst (d + 1) u : Nat) : Int) := by
  induction d with
  | zero =>
    intro k u c h h1 hc hk
    rw [Nat.pow_zero, Nat.mul_one] at h
    obtain ⟨k, rfl⟩ : ∃ m, k = m + 1 := ⟨k - 1, by omega⟩
    have w1 : IntKind.u64.wrap (IntKind.u64.wrap (u : Int) * 32768) = ((u * 32768 : Nat) : Int) := by rw [u64_nat _ (by omega), IntKind.wrap_u64]; omega
    rw [neglog_Cost.l0, Negn.cst_succ]
    rw [if_neg (by omega), if_neg (by omega), w1]
    exact cost_l1 c (by omega) 16 k (u * 32768) 0 0 (by omega) (by omega) (by omega) (by decide)
  | succ d ih =>
    intro k u c h h1 hc hk
    obtain ⟨k, rfl⟩ : ∃ m, k = m + 1 := ⟨k - 1, by omega⟩
    have h2 : u * 2 ^ (d + 1) = 2 * u * 2 ^ d := by rw [Nat.pow_succ, Nat.mul_comm (2 ^ d) 2, ← Nat.mul_assoc, Nat.mul_comm u 2]
    rw [neglog_Cost.l0, Negn.cst_succ]
    by_cases cu : u ≤ 32768
    · have w1 : wrap64 ((u : Int) * 2) = ((2 * u : Nat) : Int) := by unfold wrap64; omega
      have w2 : wrap64 ((c : Int) + 1) = ((c + 1 : Nat) : Int) := by unfold wrap64; omega
      rw [if_pos (by omega), if_pos cu, w1, w2, ih k (2 * u) (c + 1) (by omega) (by omega) (by omega) (by omega), show (c + 1) * 65536 + Negn.cst (d + 1) (2 * u) = c * 65536 + (65536 + Negn.cst (d + 1) (2 * u)) by omega]
    · have w1 : IntKind.u64.wrap (IntKind.u64.wrap (u : Int) * 32768) = ((u * 32768 : Nat) : Int) := by rw [u64_nat _ (by omega), IntKind.wrap_u64]; omega
      rw [if_neg (by omega), if_neg cu, w1]
      exact cost_l1 c (by omega) 16 k (u * 32768) 0 0 (by omega) (by omega) (by omega) (by decide)
/-- A number's cost; 0, if it is none that has one. -/
def costI (a : Int) : Int := if 1 ≤ a ∧ a ≤ 65536 then ((Negn.cost a.toNat : Nat) : Int) else 0
theorem costI_nat (u : Nat) (h1 : 1 ≤ u) (h2 : u ≤ 65536) : costI (u : Int) = ((Negn.cost u : Nat) : Int) := by
  unfold costI
  rw [if_pos ⟨by omega, by omega⟩, Int.toNat_natCast]
theorem cost_eq (a : Int) (k : Nat) (hk : 40 ≤ k) : neglog_Cost.f k a = some (costI a) := by
  obtain ⟨k, rfl⟩ : ∃ m, k = m + 1 := ⟨k - 1, by omega⟩
  unfold neglog_Cost.f
  by_cases c1 : a < 1
  · rw [if_pos c1, neglog_Cost.j0]
    rw [if_pos rfl]
    unfold costI
    rw [if_neg (by omega)]
  rw [if_neg c1, neglog_Cost.j0]
  by_cases c2 : a > 65536
  · rw [if_pos (decide_eq_true c2)]
    unfold costI
    rw [if_neg (by omega)]
  obtain ⟨u, rfl⟩ : ∃ u : Nat, a = u := ⟨a.toNat, by omega⟩
  rw [if_neg (by simpa using c2), costI_nat u (by omega) (by omega)]
  have h := cost_l0 16 k u 0 (by omega) (by omega) (by omega) (by omega)
  rw [Nat.zero_mul, Nat.zero_add] at h
  exact h
theorem awake_eq (k : Nat) (hk : 40 ≤ k) : windroselaw04_awake.f k = some true := by
  have h1 : costI 32768 = 65536 := by
    rw [show (32768 : Int) = ((32768 : Nat) : Int) from rfl, costI_nat 32768 (by decide) (by decide), Negn.cost_half_one]
    rfl
  have h2 : costI 1 = 1048576 := by
    rw [show (1 : Int) = ((1 : Nat) : Int) from rfl, costI_nat 1 (by decide) (by decide), Negn.cost_one]
    rfl
  unfold windroselaw04_awake.f
  rw [cost_eq _ k hk, Option.bind_some, h1, if_pos rfl, cost_eq _ k hk, Option.bind_some, h2]
  rfl

theorem ref_l0 (d : Nat) : ∀ (k z f i : Nat), i + d = 16 → d < k → z ≤ 2147483648 → f < 2 ^ i →
    windroseref04_Cost.l0 k (z : Int) (f : Int) (i : Int) = some ((Negn.bitsOf d z f : Nat) : Int) := by
  induction d with
  | zero =>
    intro k z f i hi hk hz hf
    obtain ⟨k, rfl⟩ : ∃ m, k = m + 1 := ⟨k - 1, by omega⟩
    rw [windroseref04_Cost.l0]
    rw [if_neg (by omega)]
    rfl
  | succ d ih =>
    intro k z f i hi hk hz hf
    obtain ⟨k, rfl⟩ : ∃ m, k = m + 1 := ⟨k - 1, by omega⟩
    have p1 : (i : Int) < 16 := by omega
    have hp : 2 ^ i ≤ 65536 := Nat.le_trans (Nat.pow_le_pow_right (by decide) (show i ≤ 16 by omega)) (by decide)
    have hp2 : 2 ^ (i + 1) = 2 * 2 ^ i := by rw [Nat.pow_succ, Nat.mul_comm]
    have w1 : wrap64 ((i : Int) + 1) = ((i + 1 : Nat) : Int) := by unfold wrap64; omega
    have w2 : wrap64 (2 * (f : Int)) = ((2 * f : Nat) : Int) := by unfold wrap64; omega
    have w3 : wrap64 (((2 * f : Nat) : Int) + 1) = ((2 * f + 1 : Nat) : Int) := by unfold wrap64; omega
    obtain ⟨e1, h1⟩ := sq_div z hz
    rw [windroseref04_Cost.l0, Negn.bitsOf]
    rw [if_pos p1, e1, w1, w2, w3]
    clear w1 w2 w3
    generalize z * z / 2147483648 = y at *
    clear e1
    by_cases cy : y ≤ 1073741824
    · have w4 : IntKind.u64.wrap (2 * (y : Int)) = ((2 * y : Nat) : Int) := by rw [IntKind.wrap_u64]; omega
      rw [if_pos (by omega), if_pos cy, w4]
      exact ih k (2 * y) (2 * f + 1) (i + 1) (by omega) (by omega) (by omega) (by omega)
    · rw [if_neg (by omega), if_neg cy]
      exact ih k y (2 * f) (i + 1) (by omega) (by omega) (by omega) (by omega)
theorem refcost_nat (d : Nat) : ∀ (k u : Nat), 32768 < u * 2 ^ d → 1 ≤ u → u ≤ 65536 → d ≤ 16 → 2 * d + 20 ≤ k →
    windroseref04_Cost.f k (u : Int) = some ((Negn.cst (d + 1) u : Nat) : Int) := by
  have base : ∀ (k u n : Nat), 32768 < u → u ≤ 65536 → 20 ≤ k → windroseref04_Cost.f k (u : Int) = some ((Negn.cst (n + 1) u : Nat) : Int) := by
    intro k u n h h1 hk
    obtain ⟨k, rfl⟩ : ∃ m, k = m + 1 + 1 := ⟨k - 2, by omega⟩
    have w1 : IntKind.u64.wrap (IntKind.u64.wrap (u : Int) * 32768) = ((u * 32768 : Nat) : Int) := by rw [u64_nat _ (by omega), IntKind.wrap_u64]; omega
    rw [windroseref04_Cost.f, Negn.cst_succ]
    rw [if_neg (by omega), windroseref04_Cost.j0]
    rw [if_neg (by rw [decide_eq_true_eq]; omega), if_neg (by omega), if_neg (by omega), w1]
    exact ref_l0 16 k (u * 32768) 0 0 (by omega) (by omega) (by omega) (by decide)
  induction d with
  | zero =>
    intro k u h h0 h1 hd hk
    rw [Nat.pow_zero, Nat.mul_one] at h
    exact base k u 0 h h1 (by omega)
  | succ d ih =>
    intro k u h h0 h1 hd hk
    by_cases cu : u ≤ 32768
    · obtain ⟨k, rfl⟩ : ∃ m, k = m + 1 + 1 := ⟨k - 2, by omega⟩
      have h2 : u * 2 ^ (d + 1) = 2 * u * 2 ^ d := by rw [Nat.pow_succ, Nat.mul_comm (2 ^ d) 2, ← Nat.mul_assoc, Nat.mul_comm u 2]
      have w1 : wrap64 (2 * (u : Int)) = ((2 * u : Nat) : Int) := by unfold wrap64; omega
      have hc := Negn.cst_le (d + 1) (2 * u)
      have w2 : wrap64 (65536 + ((Negn.cst (d + 1) (2 * u) : Nat) : Int)) = ((65536 + Negn.cst (d + 1) (2 * u) : Nat) : Int) := by unfold wrap64; omega
      rw [windroseref04_Cost.f, Negn.cst_succ]
      rw [if_neg (by omega), windroseref04_Cost.j0]
      rw [if_neg (by rw [decide_eq_true_eq]; omega), if_pos (by omega), if_pos cu, w1, ih k (2 * u) (by omega) (by omega) (by omega) (by omega) (by omega), Option.bind_some, w2]
    · exact base k u (d + 1) (by omega) h1 (by omega)
theorem refcost_eq (a : Int) (k : Nat) (hk : 60 ≤ k) : windroseref04_Cost.f k a = some (costI a) := by
  by_cases c : 1 ≤ a ∧ a ≤ 65536
  · obtain ⟨u, rfl⟩ : ∃ u : Nat, a = u := ⟨a.toNat, by omega⟩
    rw [costI_nat u (by omega) (by omega)]
    exact refcost_nat 16 k u (by omega) (by omega) (by omega) (by omega) (by omega)
  · obtain ⟨k, rfl⟩ : ∃ m, k = m + 1 + 1 := ⟨k - 2, by omega⟩
    unfold costI
    rw [if_neg c, windroseref04_Cost.f]
    by_cases c1 : a < 1
    · rw [if_pos c1, windroseref04_Cost.j0]
      rw [if_pos rfl]
    · rw [if_neg c1, windroseref04_Cost.j0]
      rw [if_pos (decide_eq_true (by omega))]

theorem calls_cost (a : Int) (w : World) : Calls Try.prog 15 #[.int .i64 a] w fun e w' => e = .returned (.int .i64 (costI a)) ∧ Drawn0 w w' :=
  neglog_Cost.calls 60 a _ w (cost_eq a 60 (by decide))
theorem calls_cost' (a : Int) (w : World) : Calls Try.prog 15 #[.int .i64 a] w fun e w' => e = .returned (.int .i64 (costI a)) ∧ ∃ m, w' = w.drewN m :=
  (calls_cost a w).mono fun _ _ ⟨he, hw⟩ => ⟨he, hw.out⟩
theorem calls_ref (a : Int) (w : World) : Calls Try.prog 16 #[.int .i64 a] w fun e w' => e = .returned (.int .i64 (costI a)) ∧ Drawn0 w w' :=
  windroseref04_Cost.calls 60 a _ w (refcost_eq a 60 (by decide))
theorem calls_awake (w : World) : Calls Try.prog 17 #[] w fun e w' => e = .returned (.bool true) ∧ Drawn0 w w' :=
  windroselaw04_awake.calls 60 true w (awake_eq 60 (by decide))
/-- The function that the search asks: is the cost of the next number the given one or less? -/
theorem calls_asked (c i : Int) (B : Nat) (w : World) (hc : w.cell? ⟨B, 0, none⟩ = some (.int .i64 c)) (h0 : 0 ≤ i) (h1 : i ≤ 65535) :
    Calls Try.prog 32 #[.int .i64 i, .pointer (some ⟨B, 0, none⟩)] w fun e w' => e = .returned (.bool (decide (costI (1 + i) ≤ c))) ∧ Drawn0 w w' := by
  go_enter Try.func32, Try.ntmps32
  have e1 : IntKind.i64.wrap (1 + i) = 1 + i := IntWalk.i64_in _ (by omega)
  go_wp2_with fail
  go_quiet ((go_at_call 15; exact Calls.quiet_of (calls_cost' _ _)))
  go_wp2
  go_ret
  exact ⟨rfl, ⟨nq, rfl⟩⟩
/-- What the search tells: of the number ahead of it the answer is no, of its own it is yes (if there are such). -/
def SearchPost (c : Int) (w : World) (e : Ending) (w' : World) : Prop :=
  ∃ r : Int, e = .returned (.int .i64 r) ∧ 0 ≤ r ∧ r ≤ 65535 ∧ (r = 0 ∨ c < costI r) ∧ (r = 65535 ∨ costI (1 + r) ≤ c) ∧ Drawn0 w w'
def Mid (c : Int) (w : World) (i j : Value) (w' : World) : Prop :=
  ∃ a b : Int, i = .int .i64 a ∧ j = .int .i64 b ∧ 0 ≤ a ∧ a ≤ b ∧ b ≤ 65535 ∧ (a = 0 ∨ c < costI a) ∧ (b = 65535 ∨ costI (1 + b) ≤ c) ∧ Drawn0 w w'
theorem drawn_trans {w v u : World} (h : Drawn0 w v) (g : Drawn0 v u) : Drawn0 w u := by
  obtain ⟨n, rfl⟩ := g.out
  exact h.step n
theorem cell_drawn {w w' : World} (h : Drawn0 w w') (p : Addr) : w'.cell? p = w.cell? p := by
  obtain ⟨n, rfl⟩ := h.out
  rfl
theorem search_at (c : Int) (B : Nat) (w : World) (hc : w.cell? ⟨B, 0, none⟩ = some (.int .i64 c)) :
    Calls Try.prog 31 #[.int .i64 65535, .func (.func 32) #[] #[.pointer (some ⟨B, 0, none⟩)]] w (SearchPost c w) := by
  have eg := Go.Proofs.enters_of Try.func32 (by kernel_rfl) rfl
  go_enter Try.func31, Try.ntmps31
  go_wp2
  go_loopw [5, 6] (fun i j wr => Mid c w i j wr) (fun i j _ => (intOf j - intOf i).toNat)
  case atStart => exact ⟨0, 65535, rfl, rfl, by omega, by omega, by omega, .inl rfl, .inl rfl, Drawn0.refl _⟩
  case round =>
    obtain ⟨a, b, rfl, rfl, h0, h1, h2, h3, h4, hd⟩ := hrel
    have H3 := Lib.hid h3
    have H4 := Lib.hid h4
    have hcr := (cell_drawn hd ⟨B, 0, none⟩).trans hc
    clear h3 h4 hc
    by_cases hlt : a < b
    · obtain ⟨m, hm⟩ : ∃ m : Int, m = (a + b) / 2 := ⟨_, rfl⟩
      have g0 : a ≤ (a + b) / 2 := by omega
      have g1 : (a + b) / 2 < b := by omega
      have hcall := calls_asked c ((a + b) / 2) B wr hcr (by omega) (by omega)
      cases hp : decide (costI (1 + (a + b) / 2) ≤ c) with
      | true =>
        rw [hp] at hcall
        have P := Lib.hid (of_decide_eq_true hp)
        clear hp hm
        go_wp2_with (go_at_call 32; refine hcall.mono ?_; rintro e w' ⟨rfl, hd2⟩)
        go_roundw
        case rel => exact ⟨a, (a + b) / 2, rfl, rfl, h0, g0, by omega, H3.out, .inr P.out, drawn_trans hd hd2⟩
        case measure => simp [intOf]; omega
      | false =>
        rw [hp] at hcall
        have P := Lib.hid (of_decide_eq_false hp)
        clear hp hm
        go_wp2_with (go_at_call 32; refine hcall.mono ?_; rintro e w' ⟨rfl, hd2⟩)
        go_roundw
        case rel => exact ⟨(a + b) / 2 + 1, b, rfl, rfl, by omega, by omega, h2, .inr (by have := P.out; rw [Int.add_comm]; omega), H4.out, drawn_trans hd hd2⟩
        case measure => simp [intOf]; omega
    · obtain rfl : a = b := by omega
      go_wp2
      go_ret
      exact ⟨a, by simp, h0, h2, H3.out, H4.out, hd⟩
/-- What Floor tells. -/
def FloorIs (c u : Int) : Prop := (c < 0 → u = 65536) ∧ (0 ≤ c → 1 ≤ u ∧ u ≤ 65536 ∧ costI u ≤ c ∧ (u = 1 ∨ c < costI (u - 1)))
def FloorPost (c : Int) (w : World) (e : Ending) (w' : World) : Prop := ∃ u : Int, e = .returned (.int .i64 u) ∧ FloorIs c u ∧ Below w.heap.size w w'
theorem floor_is (c r : Int) (hc : 0 ≤ c) (h0 : 0 ≤ r) (h1 : r ≤ 65535) (h2 : r = 0 ∨ c < costI r) (h3 : r = 65535 ∨ costI (1 + r) ≤ c) : FloorIs c (1 + r) := by
  refine ⟨fun h => by omega, fun _ => ⟨by omega, by omega, ?_, ?_⟩⟩
  · rcases h3 with h3 | h3
    · subst h3
      rw [show (1 : Int) + 65535 = ((65536 : Nat) : Int) from rfl, costI_nat 65536 (by decide) (by decide), Negn.cost_top]
      exact hc
    · exact h3
  · rcases h2 with h2 | h2
    · left; omega
    · right; rwa [show 1 + r - 1 = r by omega]
set_option maxHeartbeats 1000000 in
theorem floor_calls (c : Int) (w : World) : Calls Try.prog 28 #[.int .i64 c] w (FloorPost c w) := by
  by_cases hc : c < 0
  · go_enter Try.func28, Try.ntmps28
    go_wp2
    go_ret
    exact ⟨65536, by simp, ⟨fun _ => rfl, fun h => by omega⟩, below_alloc (Below.refl _ _) _⟩
  · have hs := fun W h => search_at c w.heap.size W h
    have Hs := Lib.hid hs
    have h0 : 0 ≤ c := by omega
    clear hs
    go_enter Try.func28, Try.ntmps28
    go_wp2_with fail
    refine (Hs.out _ (by simp)).mono ?_
    rintro e w' ⟨r, rfl, h1, h2, h3, h4, hd⟩
    have F := Lib.hid (floor_is c r h0 h1 h2 h3 h4)
    have hb := hd.below
    clear h3 h4 hd
    go_wp2
    go_ret
    exact ⟨1 + r, by simp, F.out, (below_alloc (Below.refl _ _) _).trans (hb.mono (by simp))⟩
set_option maxHeartbeats 1000000 in
theorem walk (c : Int) (w : World) : Calls Try.prog 11 #[.int .i64 c] w fun e w' => e = .returned (.bool true) ∧ Below w.heap.size w w' := by
  go_enter Try.func11, Try.ntmps11
  go_wp2_with fail
  refine (floor_calls c _).mono ?_
  rintro e w1 ⟨u, rfl, ⟨f1, f2⟩, hb⟩
  by_cases hc : c < 0
  · obtain rfl := f1 hc
    clear f1 f2
    go_wp2_with (go_at_call 17; refine (calls_awake _).mono ?_; rintro e w' ⟨rfl, ⟨nd, rfl⟩⟩)
    go_ret
    exact ⟨by simp, pw_below_drewN hb _⟩
  · obtain ⟨g1, g2, g3, g4⟩ := f2 (by omega)
    have q1 : decide (costI u ≤ c) = true := decide_eq_true g3
    have hc0 : 0 ≤ c := by omega
    clear f1 f2 hc g3
    by_cases hu : u = 1
    · subst hu
      clear g4
      go_wp2_with (first | (go_at_call 17; refine (calls_awake _).mono ?_; rintro e w' ⟨rfl, ⟨nd, rfl⟩⟩) | (go_at_call 16; refine (calls_ref _ _).mono ?_; rintro e w' ⟨rfl, ⟨nd, rfl⟩⟩))
      go_ret
      exact ⟨by simp, pw_below_drewN hb _⟩
    · have q2 : decide (c < costI (u - 1)) = true := decide_eq_true (g4.resolve_left hu)
      have q3 : (u == 1) = false := beq_eq_false_iff_ne.2 hu
      clear g4 hu
      go_wp2_with (first | (go_at_call 17; refine (calls_awake _).mono ?_; rintro e w' ⟨rfl, ⟨nd, rfl⟩⟩) | (go_at_call 16; refine (calls_ref _ _).mono ?_; rintro e w' ⟨rfl, ⟨nd, rfl⟩⟩))
      go_ret
      exact ⟨by simp, pw_below_drewN hb _⟩
end NeglogFloorsAid
end Go.Proofs.Ytmcnllnfnlgpnaa.Pure
