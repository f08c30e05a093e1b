/- Functions of the program, what each computes (written by wip/s/sl.py). -/
import Derived.Test.YtilgmccdpddeoaaSX0
namespace Go.Proofs.Ytilgmccdpddeoaa.SX
open Go Go.RowKit Go.Proofs.Ytilgmccdpddeoaa.Sl
set_option linter.unusedVariables false
set_option linter.unusedSimpArgs false
/-! ### windrose/windroselaw16.Light: function 17 -/
mutual
def windroselaw16_Light.l7 : Nat → S24 → Int → Option Bool
  | 0, _, _ => none
  | k + 1, x0_, x6 => if x6 < (x0_.f1.length : Int) then (windroselaw16_Light.j15 k x0_ x6 (decide (x6 < 300))) else (windroselaw16_Light.j15 k x0_ x6 false)
def windroselaw16_Light.j15 : Nat → S24 → Int → Bool → Option Bool
  | 0, _, _, _ => none
  | k + 1, x0_, x6, y14 => if y14 = true then (if 0 ≤ x6 ∧ x6 < (x0_.f1.length : Int) then (if (((nth z49 x0_.f1 x6).f1.f6).length : Int) > 20 then (some false) else (windroselaw16_Light.l7 k x0_ (w64 (x6 + 1)))) else (none)) else (some (decide ((x0_.f1.length : Int) ≤ 300)))
end
theorem windroselaw16_Light.l7_s (k : Nat) (x0_ : S24) (x6 : Int) : windroselaw16_Light.l7 (k + 1) x0_ x6 = (if x6 < (x0_.f1.length : Int) then (windroselaw16_Light.j15 k x0_ x6 (decide (x6 < 300))) else (windroselaw16_Light.j15 k x0_ x6 false)) := by kernel_rfl
theorem windroselaw16_Light.j15_s (k : Nat) (x0_ : S24) (x6 : Int) (y14 : Bool) : windroselaw16_Light.j15 (k + 1) x0_ x6 y14 = (if y14 = true then (if 0 ≤ x6 ∧ x6 < (x0_.f1.length : Int) then (if (((nth z49 x0_.f1 x6).f1.f6).length : Int) > 20 then (some false) else (windroselaw16_Light.l7 k x0_ (w64 (x6 + 1)))) else (none)) else (some (decide ((x0_.f1.length : Int) ≤ 300)))) := by kernel_rfl
def windroselaw16_Light.f (k : Nat) (x0_ : S24) : Option Bool := windroselaw16_Light.l7 k x0_ 0
def windroselaw16_Light.Post (W F : World) (r : Bool) (v : Value) (w' : World) : Prop := ∃ (F' : World), v = .bool r ∧ St W (mine W []) F w' F' []
set_option maxHeartbeats 4000000 in
set_option maxRecDepth 100000 in
theorem windroselaw16_Light.calls (k : Nat) (x0_ : S24) (A0_1 : Option Addr) (c0_1 : Nat) (r : Bool) (W F : World) (hsub : Sub F W) (g0_1 : Rd k49 F A0_1 c0_1 x0_.f1) (H : windroselaw16_Light.f k x0_ = some r) :
    Calls Try.prog 17 #[.agg #[.int .i64 x0_.f0, .slice A0_1 x0_.f1.length c0_1]] W fun e w' => ∃ v, e = .returned v ∧ windroselaw16_Light.Post W F r v w' := by
  have hS := St.start (Own.nil hsub)
  unfold windroselaw16_Light.f at H
  refine enter (n := 28) rfl rfl rfl (Nat.le_of_ble_eq_true rfl) (fun a hE => ?_)
  refine wp_seq_k fun K1 hK1 => ?_
  refine plain (L := [0, 1]) rfl ?_
  refine ops_eff 0 hE (some 1) rfl rfl rfl rfl (e_box hS rfl rfl #[.int .i64 x0_.f0, .slice A0_1 x0_.f1.length c0_1] rfl) ?_
  rintro _ u3 a ⟨b2, rfl, hb2, hS, hg⟩ hE
  refine ops_chain (S := Agr _) (.k 1 1 [(2, .bool false)] (by kernel_rfl) .nil) (rest := []) hE (Agr.refl _) (fun a hE => ?_)
  refine ops_done ?_
  refine hK1 _ _ ?_
  refine wp_seq_k fun K4 hK4 => ?_
  refine wp_seq_k fun K5 hK5 => ?_
  refine plain (L := [0]) rfl ?_
  refine ops_chain (S := Agr _) (.k 0 1 [(3, .int .i64 0)] (by kernel_rfl) .nil) (rest := []) hE (Agr.refl _) (fun a hE => ?_)
  refine ops_done ?_
  refine hK5 _ _ ?_
  refine wp_block ?_
  obtain ⟨J, hE⟩ := hE.norm [(0, .agg #[.int .i64 x0_.f0, .slice A0_1 x0_.f1.length c0_1]), (1, .pointer (some ⟨b2, 0, none⟩)), (2, .bool false), (3, .int .i64 0)] (.cons rfl <| .cons rfl <| .cons rfl <| .cons rfl .nil)
  refine wp_loop_ghost (fun kq8 a w' => ∃ (J : Nat → Value) (x6 : Int), Env 28 (updL J [(0, .agg #[.int .i64 x0_.f0, .slice A0_1 x0_.f1.length c0_1]), (1, .pointer (some ⟨b2, 0, none⟩)), (2, .bool false), (3, .int .i64 x6)]) a ∧ St W (mine W []) F w' F [box b2 #[.int .i64 x0_.f0, .slice A0_1 x0_.f1.length c0_1] 24] ∧  windroselaw16_Light.l7 kq8 x0_ x6 = some r) k ⟨J, 0, hE, hS, H⟩ ?_
  rintro kq8 a u10 ⟨J, x6, hE, hS, H⟩
  cases kq8 with
  | zero => cases (show none = some r from H)
  | succ k9 =>
    rw [windroselaw16_Light.l7_s] at H
    refine wp_seq_k fun K11 hK11 => ?_
    refine wp_seq_k fun K12 hK12 => ?_
    have J18 : ∀ kq16, kq16 ≤ k9 → ∀ (J : Nat → Value) (y14 : Bool) (a : Act) (w' : World), Env 28 (updL J [(0, .agg #[.int .i64 x0_.f0, .slice A0_1 x0_.f1.length c0_1]), (1, .pointer (some ⟨b2, 0, none⟩)), (2, .bool false), (3, .int .i64 x6), (12, .bool y14)]) a → St W (mine W []) F w' F [box b2 #[.int .i64 x0_.f0, .slice A0_1 x0_.f1.length c0_1] 24] → windroselaw16_Light.j15 kq16 x0_ x6 y14 = some r → K12 a w' := by
      intro kq16 hkq J y14 a u19 hE hS H
      cases kq16 with
      | zero => cases (show none = some r from H)
      | succ k17 =>
        rw [windroselaw16_Light.j15_s] at H
        refine hK12 _ _ ?_
        by_cases c20 : y14 = true
        · rw [if_pos c20] at H
          refine cond_t hE (b := y14) rfl c20 ?_
          refine wp_skip ?_
          refine hK11 _ _ ?_
          refine wp_seq_k fun K21 hK21 => ?_
          refine wp_block ?_
          refine wp_seq_k fun K22 hK22 => ?_
          refine plain (L := [0, 1, 2, 3, 4, 5, 6, 7, 8]) rfl ?_
          have hb2 := hS.blk_at (i := 0) rfl
          by_cases c23 : 0 ≤ x6 ∧ x6 < (x0_.f1.length : Int)
          rotate_left
          · rw [if_neg c23] at H; cases H
          rw [if_pos c23] at H
          obtain ⟨ad24, rfl⟩ := g0_1.addr c23.1 c23.2
          obtain ⟨cs26, ⟨A28, c29, rfl, g30⟩, hc27⟩ := g0_1.el z49 x6 c23.1 c23.2
          refine ops_chain (S := Agr _) (.k 0 1 [(15, .pointer (some ⟨b2, 1, none⟩))] (by kernel_rfl) <| .v 1 16 rfl rfl rfl rfl (lb1 1 (.slice (some ad24) x0_.f1.length c0_1) rfl rfl ag22 hb2 rfl) <| .k 2 1 [(17, .int .i64 x6)] (by kernel_rfl) <| .v 3 18 rfl rfl rfl rfl (YA.s (ix 8 rfl rfl rfl ud22 sz49 c23.1 c23.2)) <| .k 4 2 [(19, .pointer (some ((ad24.add (x6.toNat * 8)).add 1))), (20, .pointer (some (((ad24.add (x6.toNat * 8)).add 1).add 6)))] (by kernel_rfl) <| .v 6 21 rfl rfl rfl rfl (lf1 (.slice A28 (((nth z49 x0_.f1 x6).f1.f6).length) c29) rfl rfl ag26 hS.own.sub (cell_at hc27 1 6 rfl)) <| .v 7 22 rfl rfl rfl rfl (YA.s (len_sl rfl rfl ud26)) <| .k 8 1 [(23, .bool (decide ((((nth z49 x0_.f1 x6).f1.f6).length : Int) > 20)))] (by kernel_rfl) .nil) (rest := []) hE (Agr.refl _) (fun a hE => ?_)
          refine ops_done ?_
          refine hK22 _ _ ?_
          by_cases c31 : (((nth z49 x0_.f1 x6).f1.f6).length : Int) > 20
          · rw [if_pos c31] at H
            refine cond_t hE (b := (decide ((((nth z49 x0_.f1 x6).f1.f6).length : Int) > 20))) rfl (decide_eq_true c31) ?_
            refine wp_seq_k fun K32 hK32 => ?_
            refine plain (L := [0]) rfl ?_
            refine ops_chain (S := Agr _) (.k 0 1 [(2, .bool false)] (by kernel_rfl) .nil) (rest := []) hE (Agr.refl _) (fun a hE => ?_)
            refine ops_done ?_
            refine hK32 _ _ ?_
            refine wp_ret (block_ret (then_ret (then_ret (block_ret (then_ret ?_)))))
            replace hS := hS.tail
            obtain rfl := Option.some.inj H
            exact ret1 hE rfl (.tmp rfl .nil) ⟨_, rfl, _, rfl, hS⟩
          · rw [if_neg c31] at H
            refine cond_f hE (b := (decide ((((nth z49 x0_.f1 x6).f1.f6).length : Int) > 20))) rfl (decide_eq_false c31) ?_
            refine wp_skip ?_
            refine hK21 _ _ ?_
            refine plain (L := [0, 1, 2]) rfl ?_
            refine ops_chain (S := Agr _) (.k 0 3 [(13, .int .i64 x6), (14, .int .i64 (w64 (x6 + 1))), (3, .int .i64 (w64 (x6 + 1)))] (by kernel_rfl) .nil) (rest := []) hE (Agr.refl _) (fun a hE => ?_)
            refine ops_done ?_
            obtain ⟨J, hE⟩ := hE.norm [(0, .agg #[.int .i64 x0_.f0, .slice (some ad24) x0_.f1.length c0_1]), (1, .pointer (some ⟨b2, 0, none⟩)), (2, .bool false), (3, .int .i64 (w64 (x6 + 1)))] (.cons rfl <| .cons rfl <| .cons rfl <| .cons rfl .nil)
            exact then_n ⟨k17, by omega, J, (w64 (x6 + 1)), hE, hS, H⟩
        · rw [if_neg c20] at H
          refine cond_f hE (b := y14) rfl (eq_false_of_ne_true c20) ?_
          refine wp_exit ?_
          refine hK4 _ _ ?_
          refine wp_seq_k fun K33 hK33 => ?_
          refine plain (L := [0, 1, 2, 3, 4]) rfl ?_
          have hb2 := hS.blk_at (i := 0) rfl
          refine ops_chain (S := Agr _) (.k 0 1 [(24, .pointer (some ⟨b2, 1, none⟩))] (by kernel_rfl) <| .v 1 25 rfl rfl rfl rfl (lb1 1 (.slice A0_1 x0_.f1.length c0_1) rfl rfl ag22 hb2 rfl) <| .v 2 26 rfl rfl rfl rfl (YA.s (len_sl rfl rfl ud22)) <| .k 3 2 [(27, .bool (decide ((x0_.f1.length : Int) ≤ 300))), (2, .bool (decide ((x0_.f1.length : Int) ≤ 300)))] (by kernel_rfl) .nil) (rest := []) hE (Agr.refl _) (fun a hE => ?_)
          refine ops_done ?_
          refine hK33 _ _ ?_
          refine wp_ret ?_
          replace hS := hS.tail
          obtain rfl := Option.some.inj H
          exact ret1 hE rfl (.tmp rfl .nil) ⟨_, rfl, _, rfl, hS⟩
    refine plain (L := [0, 1, 2, 3, 4, 5, 6, 7, 8]) rfl ?_
    have hb2 := hS.blk_at (i := 0) rfl
    refine ops_chain (S := Agr _) (.k 0 2 [(4, .int .i64 x6), (5, .pointer (some ⟨b2, 1, none⟩))] (by kernel_rfl) <| .v 2 6 rfl rfl rfl rfl (lb1 1 (.slice A0_1 x0_.f1.length c0_1) rfl rfl ag22 hb2 rfl) <| .v 3 7 rfl rfl rfl rfl (YA.s (len_sl rfl rfl ud22)) <| .k 4 2 [(8, .bool (decide (x6 < (x0_.f1.length : Int)))), (9, .bool (decide (x6 < (x0_.f1.length : Int))))] (by kernel_rfl) .nil) (rest := [6, 7, 8]) hE (Agr.refl _) (fun a hE => ?_)
    by_cases c13 : x6 < (x0_.f1.length : Int)
    · rw [if_pos c13] at H
      obtain ⟨J, hE⟩ := hE.norm [(0, .agg #[.int .i64 x0_.f0, .slice A0_1 x0_.f1.length c0_1]), (1, .pointer (some ⟨b2, 0, none⟩)), (2, .bool false), (3, .int .i64 x6), (9, .bool true)] (.cons rfl <| .cons rfl <| .cons rfl <| .cons rfl <| .cons (Eq.trans (b := .bool (decide (x6 < (x0_.f1.length : Int)))) rfl (congrArg Value.bool (decide_eq_true c13))) .nil)
      refine ops_chain (S := Agr _) (.k 6 3 [(10, .int .i64 x6), (11, .bool (decide (x6 < 300))), (12, .bool (decide (x6 < 300)))] (by kernel_rfl) .nil) (rest := []) hE (Agr.refl _) (fun a hE => ?_)
      refine ops_done ?_
      obtain ⟨J, hE⟩ := hE.norm [(0, .agg #[.int .i64 x0_.f0, .slice A0_1 x0_.f1.length c0_1]), (1, .pointer (some ⟨b2, 0, none⟩)), (2, .bool false), (3, .int .i64 x6), (12, .bool (decide (x6 < 300)))] (.cons rfl <| .cons rfl <| .cons rfl <| .cons rfl <| .cons rfl .nil)
      exact J18 _ (by omega) J (decide (x6 < 300)) _ _ hE hS H
    · rw [if_neg c13] at H
      obtain ⟨J, hE⟩ := hE.norm [(0, .agg #[.int .i64 x0_.f0, .slice A0_1 x0_.f1.length c0_1]), (1, .pointer (some ⟨b2, 0, none⟩)), (2, .bool false), (3, .int .i64 x6), (9, .bool false)] (.cons rfl <| .cons rfl <| .cons rfl <| .cons rfl <| .cons (Eq.trans (b := .bool (decide (x6 < (x0_.f1.length : Int)))) rfl (congrArg Value.bool (decide_eq_false c13))) .nil)
      refine ops_chain (S := Agr _) (.k 6 3 [(10, undef), (11, undef), (12, .bool false)] (by kernel_rfl) .nil) (rest := []) hE (Agr.refl _) (fun a hE => ?_)
      refine ops_done ?_
      obtain ⟨J, hE⟩ := hE.norm [(0, .agg #[.int .i64 x0_.f0, .slice A0_1 x0_.f1.length c0_1]), (1, .pointer (some ⟨b2, 0, none⟩)), (2, .bool false), (3, .int .i64 x6), (12, .bool false)] (.cons rfl <| .cons rfl <| .cons rfl <| .cons rfl <| .cons rfl .nil)
      exact J18 _ (by omega) J false _ _ hE hS H

/-! ### windrose/acceptor.in: function 71 -/
def acceptor_in.f (x0_ : Int) (x1_ : Int) (x2_ : Int) : Option Bool := if x0_ ≥ x1_ then (some (decide (x0_ ≤ x2_))) else (some false)
def acceptor_in.Post (W F : World) (r : Bool) (v : Value) (w' : World) : Prop := ∃ (F' : World), v = .bool r ∧ St W (mine W []) F w' F' []
set_option maxHeartbeats 4000000 in
set_option maxRecDepth 100000 in
theorem acceptor_in.calls (x0_ : Int) (x1_ : Int) (x2_ : Int) (r : Bool) (W F : World) (hsub : Sub F W) (H : acceptor_in.f x0_ x1_ x2_ = some r) :
    Calls Try.prog 71 #[.int .i64 x0_, .int .i64 x1_, .int .i64 x2_] W fun e w' => ∃ v, e = .returned v ∧ acceptor_in.Post W F r v w' := by
  have hS := St.start (Own.nil hsub)
  unfold acceptor_in.f at H
  refine enter (n := 15) rfl rfl rfl (Nat.le_of_ble_eq_true rfl) (fun a hE => ?_)
  refine wp_seq_k fun K1 hK1 => ?_
  refine plain (L := [0]) rfl ?_
  refine ops_chain (S := Agr _) (.k 0 1 [(6, .bool false)] (by kernel_rfl) .nil) (rest := []) hE (Agr.refl _) (fun a hE => ?_)
  refine ops_done ?_
  refine hK1 _ _ ?_
  refine wp_seq_k fun K2 hK2 => ?_
  refine plain (L := [0, 1, 2, 3, 4, 5, 6, 7, 8]) rfl ?_
  refine ops_chain (S := Agr _) (.k 0 4 [(7, .int .i64 x0_), (8, .int .i64 x1_), (9, .bool (decide (x0_ ≥ x1_))), (10, .bool (decide (x0_ ≥ x1_)))] (by kernel_rfl) .nil) (rest := [4, 5, 6, 7, 8]) hE (Agr.refl _) (fun a hE => ?_)
  by_cases c3 : x0_ ≥ x1_
  · rw [if_pos c3] at H
    obtain ⟨J, hE⟩ := hE.norm [(0, .int .i64 x0_), (1, .int .i64 x1_), (2, .int .i64 x2_), (6, .bool false), (10, .bool true)] (.cons rfl <| .cons rfl <| .cons rfl <| .cons rfl <| .cons (Eq.trans (b := .bool (decide (x0_ ≥ x1_))) rfl (congrArg Value.bool (decide_eq_true c3))) .nil)
    refine ops_chain (S := Agr _) (.k 4 5 [(11, .int .i64 x0_), (12, .int .i64 x2_), (13, .bool (decide (x0_ ≤ x2_))), (14, .bool (decide (x0_ ≤ x2_))), (6, .bool (decide (x0_ ≤ x2_)))] (by kernel_rfl) .nil) (rest := []) hE (Agr.refl _) (fun a hE => ?_)
    refine ops_done ?_
    refine hK2 _ _ ?_
    refine wp_ret ?_
    obtain rfl := Option.some.inj H
    exact ret1 hE rfl (.tmp rfl .nil) ⟨_, rfl, _, rfl, hS⟩
  · rw [if_neg c3] at H
    obtain ⟨J, hE⟩ := hE.norm [(0, .int .i64 x0_), (1, .int .i64 x1_), (2, .int .i64 x2_), (6, .bool false), (10, .bool false)] (.cons rfl <| .cons rfl <| .cons rfl <| .cons rfl <| .cons (Eq.trans (b := .bool (decide (x0_ ≥ x1_))) rfl (congrArg Value.bool (decide_eq_false c3))) .nil)
    refine ops_chain (S := Agr _) (.k 4 5 [(11, undef), (12, undef), (13, undef), (14, .bool false), (6, .bool false)] (by kernel_rfl) .nil) (rest := []) hE (Agr.refl _) (fun a hE => ?_)
    refine ops_done ?_
    refine hK2 _ _ ?_
    refine wp_ret ?_
    obtain rfl := Option.some.inj H
    exact ret1 hE rfl (.tmp rfl .nil) ⟨_, rfl, _, rfl, hS⟩

/-! ### slices.Equal[[]int,int]: function 110 -/
def slices_Equal__int_int.l9 : Nat → List Int → List Int → Int → Option Bool
  | 0, _, _, _ => none
  | k + 1, x0_, x1_, x8 => if x8 < (x0_.length : Int) then (if 0 ≤ x8 ∧ x8 < (x0_.length : Int) then (if 0 ≤ x8 ∧ x8 < (x1_.length : Int) then (if (nth 0 x0_ x8) = (nth 0 x1_ x8) then (slices_Equal__int_int.l9 k x0_ x1_ (w64 (x8 + 1))) else (some false)) else (none)) else (none)) else (some true)
theorem slices_Equal__int_int.l9_s (k : Nat) (x0_ : List Int) (x1_ : List Int) (x8 : Int) : slices_Equal__int_int.l9 (k + 1) x0_ x1_ x8 = (if x8 < (x0_.length : Int) then (if 0 ≤ x8 ∧ x8 < (x0_.length : Int) then (if 0 ≤ x8 ∧ x8 < (x1_.length : Int) then (if (nth 0 x0_ x8) = (nth 0 x1_ x8) then (slices_Equal__int_int.l9 k x0_ x1_ (w64 (x8 + 1))) else (some false)) else (none)) else (none)) else (some true)) := by kernel_rfl
def slices_Equal__int_int.f (k : Nat) (x0_ : List Int) (x1_ : List Int) : Option Bool := if (x0_.length : Int) = (x1_.length : Int) then (slices_Equal__int_int.l9 k x0_ x1_ 0) else (some false)
def slices_Equal__int_int.Post (W F : World) (r : Bool) (v : Value) (w' : World) : Prop := ∃ (F' : World), v = .bool r ∧ St W (mine W []) F w' F' []
set_option maxHeartbeats 4000000 in
set_option maxRecDepth 100000 in
theorem slices_Equal__int_int.calls (k : Nat) (x0_ : List Int) (x1_ : List Int) (A0_0 : Option Addr) (c0_0 : Nat) (A1_0 : Option Addr) (c1_0 : Nat) (r : Bool) (W F : World) (hsub : Sub F W) (g0_0 : Rd (Kn.int .i64) F A0_0 c0_0 x0_) (g1_0 : Rd (Kn.int .i64) F A1_0 c1_0 x1_) (H : slices_Equal__int_int.f k x0_ x1_ = some r) :
    Calls Try.prog 110 #[.slice A0_0 x0_.length c0_0, .slice A1_0 x1_.length c1_0] W fun e w' => ∃ v, e = .returned v ∧ slices_Equal__int_int.Post W F r v w' := by
  have hS := St.start (Own.nil hsub)
  unfold slices_Equal__int_int.f at H
  refine enter (n := 26) rfl rfl rfl (Nat.le_of_ble_eq_true rfl) (fun a hE => ?_)
  refine wp_seq_k fun K1 hK1 => ?_
  refine plain (L := [0]) rfl ?_
  refine ops_chain (S := Agr _) (.k 0 1 [(4, .bool false)] (by kernel_rfl) .nil) (rest := []) hE (Agr.refl _) (fun a hE => ?_)
  refine ops_done ?_
  refine hK1 _ _ ?_
  refine wp_seq_k fun K2 hK2 => ?_
  refine wp_seq_k fun K3 hK3 => ?_
  refine plain (L := [0, 1, 2, 3, 4]) rfl ?_
  refine ops_chain (S := Agr _) (.k 0 1 [(6, .slice A0_0 x0_.length c0_0)] (by kernel_rfl) <| .v 1 7 rfl rfl rfl rfl (YA.s (len_sl rfl rfl ud26)) <| .k 2 1 [(8, .slice A1_0 x1_.length c1_0)] (by kernel_rfl) <| .v 3 9 rfl rfl rfl rfl (YA.s (len_sl rfl rfl ud26)) <| .k 4 1 [(10, .bool (!((x0_.length : Int) == (x1_.length : Int))))] (by kernel_rfl) .nil) (rest := []) hE (Agr.refl _) (fun a hE => ?_)
  refine ops_done ?_
  refine hK3 _ _ ?_
  by_cases c4 : (x0_.length : Int) = (x1_.length : Int)
  · rw [if_pos c4] at H
    refine cond_f hE (b := (!((x0_.length : Int) == (x1_.length : Int)))) rfl (congrArg not (beq_iff_eq.2 c4)) ?_
    refine wp_skip ?_
    refine hK2 _ _ ?_
    refine wp_seq_k fun K6 hK6 => ?_
    refine wp_seq_k fun K7 hK7 => ?_
    refine plain (L := [0, 1, 2]) rfl ?_
    refine ops_chain (S := Agr _) (.k 0 1 [(11, .slice A0_0 x0_.length c0_0)] (by kernel_rfl) <| .v 1 12 rfl rfl rfl rfl (YA.s (len_sl rfl rfl ud26)) <| .k 2 1 [(13, .int .i64 0)] (by kernel_rfl) .nil) (rest := []) hE (Agr.refl _) (fun a hE => ?_)
    refine ops_done ?_
    refine hK7 _ _ ?_
    refine wp_block ?_
    obtain ⟨J, hE⟩ := hE.norm [(0, .slice A0_0 x0_.length c0_0), (1, .slice A1_0 x1_.length c1_0), (4, .bool false), (10, .bool (!((x0_.length : Int) == (x1_.length : Int)))), (12, .int .i64 (x0_.length : Int)), (13, .int .i64 0)] (.cons rfl <| .cons rfl <| .cons rfl <| .cons rfl <| .cons rfl <| .cons rfl .nil)
    refine wp_loop_ghost (fun kq10 a w' => ∃ (J : Nat → Value) (x8 : Int), Env 26 (updL J [(0, .slice A0_0 x0_.length c0_0), (1, .slice A1_0 x1_.length c1_0), (4, .bool false), (10, .bool (!((x0_.length : Int) == (x1_.length : Int)))), (12, .int .i64 (x0_.length : Int)), (13, .int .i64 x8)]) a ∧ St W (mine W []) F w' F [] ∧  slices_Equal__int_int.l9 kq10 x0_ x1_ x8 = some r) k ⟨J, 0, hE, hS, H⟩ ?_
    rintro kq10 a u12 ⟨J, x8, hE, hS, H⟩
    cases kq10 with
    | zero => cases (show none = some r from H)
    | succ k11 =>
      rw [slices_Equal__int_int.l9_s] at H
      refine wp_seq_k fun K13 hK13 => ?_
      refine plain (L := [0]) rfl ?_
      refine ops_chain (S := Agr _) (.k 0 1 [(14, .bool (decide (x8 < (x0_.length : Int))))] (by kernel_rfl) .nil) (rest := []) hE (Agr.refl _) (fun a hE => ?_)
      refine ops_done ?_
      refine hK13 _ _ ?_
      refine wp_seq_k fun K14 hK14 => ?_
      by_cases c15 : x8 < (x0_.length : Int)
      · rw [if_pos c15] at H
        refine cond_t hE (b := (decide (x8 < (x0_.length : Int)))) rfl (decide_eq_true c15) ?_
        refine wp_skip ?_
        refine hK14 _ _ ?_
        refine wp_seq_k fun K16 hK16 => ?_
        refine wp_block ?_
        refine wp_seq_k fun K17 hK17 => ?_
        refine plain (L := [0, 1]) rfl ?_
        refine ops_chain (S := Agr _) (.k 0 2 [(15, .int .i64 x8), (5, .int .i64 x8)] (by kernel_rfl) .nil) (rest := []) hE (Agr.refl _) (fun a hE => ?_)
        refine ops_done ?_
        refine hK17 _ _ ?_
        refine wp_seq_k fun K18 hK18 => ?_
        refine drawn 9 [] mixed rfl (by kernel_rfl) (fun hst => ?_)
        replace hS := hS.drew
        by_cases c19 : 0 ≤ x8 ∧ x8 < (x0_.length : Int)
        rotate_left
        · rw [if_neg c19] at H; cases H
        rw [if_pos c19] at H
        obtain ⟨ad20, rfl⟩ := g0_0.addr c19.1 c19.2
        obtain ⟨cs22, rfl, hc23⟩ := g0_0.el 0 x8 c19.1 c19.2
        by_cases c24 : 0 ≤ x8 ∧ x8 < (x1_.length : Int)
        rotate_left
        · rw [if_neg c24] at H; cases H
        rw [if_pos c24] at H
        obtain ⟨ad25, rfl⟩ := g1_0.addr c24.1 c24.2
        obtain ⟨cs27, rfl, hc28⟩ := g1_0.el 0 x8 c24.1 c24.2
        refine many 511 hst hE (.k 0 2 [(16, .slice (some ad20) x0_.length c0_0), (17, .int .i64 x8)] (by kernel_rfl) <| .q 2 18 rfl rfl rfl rfl (ix 1 rfl rfl rfl ud26 sz3 c19.1 c19.2) <| .v 3 19 rfl rfl rfl rfl (lf1 (.int .i64 (nth 0 x0_ x8)) rfl rfl ag3 hS.own.sub (hc23 0 _ rfl)) <| .k 4 2 [(20, .slice (some ad25) x1_.length c1_0), (21, .int .i64 x8)] (by kernel_rfl) <| .q 6 22 rfl rfl rfl rfl (ix 1 rfl rfl rfl ud26 sz3 c24.1 c24.2) <| .v 7 23 rfl rfl rfl rfl (lf1 (.int .i64 (nth 0 x1_ x8)) rfl rfl ag3 hS.own.sub (hc28 0 _ rfl)) <| .k 8 1 [(24, .bool (!((nth 0 x0_ x8) == (nth 0 x1_ x8))))] (by kernel_rfl) .nil) (by kernel_rfl) (fun a hE => ?_)
        refine all_done (by kernel_rfl) ?_
        refine hK18 _ _ ?_
        by_cases c29 : (nth 0 x0_ x8) = (nth 0 x1_ x8)
        · rw [if_pos c29] at H
          refine cond_f hE (b := (!((nth 0 x0_ x8) == (nth 0 x1_ x8)))) rfl (congrArg not (beq_iff_eq.2 c29)) ?_
          refine wp_skip ?_
          refine hK16 _ _ ?_
          refine plain (L := [0, 1]) rfl ?_
          refine ops_chain (S := Agr _) (.k 0 2 [(25, .int .i64 (w64 (x8 + 1))), (13, .int .i64 (w64 (x8 + 1)))] (by kernel_rfl) .nil) (rest := []) hE (Agr.refl _) (fun a hE => ?_)
          refine ops_done ?_
          obtain ⟨J, hE⟩ := hE.norm [(0, .slice (some ad20) x0_.length c0_0), (1, .slice (some ad25) x1_.length c1_0), (4, .bool false), (10, .bool (!((x0_.length : Int) == (x1_.length : Int)))), (12, .int .i64 (x0_.length : Int)), (13, .int .i64 (w64 (x8 + 1)))] (.cons rfl <| .cons rfl <| .cons rfl <| .cons rfl <| .cons rfl <| .cons rfl .nil)
          exact then_n ⟨k11, by omega, J, (w64 (x8 + 1)), hE, hS, H⟩
        · rw [if_neg c29] at H
          refine cond_t hE (b := (!((nth 0 x0_ x8) == (nth 0 x1_ x8)))) rfl (congrArg not (beq_eq_false_iff_ne.2 c29)) ?_
          refine wp_seq_k fun K30 hK30 => ?_
          refine plain (L := [0]) rfl ?_
          refine ops_chain (S := Agr _) (.k 0 1 [(4, .bool false)] (by kernel_rfl) .nil) (rest := []) hE (Agr.refl _) (fun a hE => ?_)
          refine ops_done ?_
          refine hK30 _ _ ?_
          refine wp_ret (block_ret (then_ret (then_ret (block_ret (then_ret ?_)))))
          obtain rfl := Option.some.inj H
          exact ret1 hE rfl (.tmp rfl .nil) ⟨_, rfl, _, rfl, hS⟩
      · rw [if_neg c15] at H
        refine cond_f hE (b := (decide (x8 < (x0_.length : Int)))) rfl (decide_eq_false c15) ?_
        refine wp_exit ?_
        refine hK6 _ _ ?_
        refine wp_seq_k fun K31 hK31 => ?_
        refine plain (L := [0]) rfl ?_
        refine ops_chain (S := Agr _) (.k 0 1 [(4, .bool true)] (by kernel_rfl) .nil) (rest := []) hE (Agr.refl _) (fun a hE => ?_)
        refine ops_done ?_
        refine hK31 _ _ ?_
        refine wp_ret ?_
        obtain rfl := Option.some.inj H
        exact ret1 hE rfl (.tmp rfl .nil) ⟨_, rfl, _, rfl, hS⟩
  · rw [if_neg c4] at H
    refine cond_t hE (b := (!((x0_.length : Int) == (x1_.length : Int)))) rfl (congrArg not (beq_eq_false_iff_ne.2 c4)) ?_
    refine wp_seq_k fun K5 hK5 => ?_
    refine plain (L := [0]) rfl ?_
    refine ops_chain (S := Agr _) (.k 0 1 [(4, .bool false)] (by kernel_rfl) .nil) (rest := []) hE (Agr.refl _) (fun a hE => ?_)
    refine ops_done ?_
    refine hK5 _ _ ?_
    refine wp_ret (then_ret ?_)
    obtain rfl := Option.some.inj H
    exact ret1 hE rfl (.tmp rfl .nil) ⟨_, rfl, _, rfl, hS⟩

/-! ### windrose/acceptor.SameDelta: function 76 -/
def acceptor_SameDelta.f (k : Nat) (x0_ : S28) (x1_ : S28) : Option Bool := if x0_.f0 = x1_.f0 then (if x0_.f1 = x1_.f1 then (if x0_.f2 = x1_.f2 then (if x0_.f3 = x1_.f3 then (if x0_.f4 = x1_.f4 then (if x0_.f5 = x1_.f5 then ((slices_Equal__int_int.f k x0_.f6 x1_.f6).bind fun t13 => (some t13)) else (some false)) else (some false)) else (some false)) else (some false)) else (some false)) else (some false)
def acceptor_SameDelta.Post (W F : World) (r : Bool) (v : Value) (w' : World) : Prop := ∃ (F' : World), v = .bool r ∧ St W (mine W []) F w' F' []
set_option maxHeartbeats 4000000 in
set_option maxRecDepth 100000 in
theorem acceptor_SameDelta.calls (k : Nat) (x0_ : S28) (x1_ : S28) (A0_6 : Option Addr) (c0_6 : Nat) (A1_6 : Option Addr) (c1_6 : Nat) (r : Bool) (W F : World) (hsub : Sub F W) (g0_6 : Rd (Kn.int .i64) F A0_6 c0_6 x0_.f6) (g1_6 : Rd (Kn.int .i64) F A1_6 c1_6 x1_.f6) (H : acceptor_SameDelta.f k x0_ x1_ = some r) :
    Calls Try.prog 76 #[.agg #[.int .i64 x0_.f0, .int .i64 x0_.f1, .int .i64 x0_.f2, .int .i64 x0_.f3, .int .i64 x0_.f4, .int .i64 x0_.f5, .slice A0_6 x0_.f6.length c0_6], .agg #[.int .i64 x1_.f0, .int .i64 x1_.f1, .int .i64 x1_.f2, .int .i64 x1_.f3, .int .i64 x1_.f4, .int .i64 x1_.f5, .slice A1_6 x1_.f6.length c1_6]] W fun e w' => ∃ v, e = .returned v ∧ acceptor_SameDelta.Post W F r v w' := by
  have hS := St.start (Own.nil hsub)
  unfold acceptor_SameDelta.f at H
  refine enter (n := 52) rfl rfl rfl (Nat.le_of_ble_eq_true rfl) (fun a hE => ?_)
  refine wp_seq_k fun K1 hK1 => ?_
  refine plain (L := [0, 1, 2]) rfl ?_
  refine ops_eff 0 hE (some 2) rfl rfl rfl rfl (e_box hS rfl rfl #[.int .i64 x0_.f0, .int .i64 x0_.f1, .int .i64 x0_.f2, .int .i64 x0_.f3, .int .i64 x0_.f4, .int .i64 x0_.f5, .slice A0_6 x0_.f6.length c0_6] rfl) ?_
  rintro _ u3 a ⟨b2, rfl, hb2, hS, hg⟩ hE
  refine ops_eff 1 hE (some 3) rfl rfl rfl rfl (e_box hS rfl rfl #[.int .i64 x1_.f0, .int .i64 x1_.f1, .int .i64 x1_.f2, .int .i64 x1_.f3, .int .i64 x1_.f4, .int .i64 x1_.f5, .slice A1_6 x1_.f6.length c1_6] rfl) ?_
  rintro _ u5 a ⟨b4, rfl, hb4, hS, hg⟩ hE
  refine ops_chain (S := Agr _) (.k 2 1 [(4, .bool false)] (by kernel_rfl) .nil) (rest := []) hE (Agr.refl _) (fun a hE => ?_)
  refine ops_done ?_
  refine hK1 _ _ ?_
  refine wp_seq_k fun K6 hK6 => ?_
  refine plain (L := [0, 1, 2, 3, 4, 5, 6, 7, 8, 9, 10, 11, 12, 13, 14, 15, 16, 17, 18, 19, 20, 21, 22, 23, 24, 25, 26, 27, 28, 29, 30, 31, 32, 33, 34, 35, 36, 37, 38, 39, 40, 41, 42, 43, 44, 45, 46, 47]) rfl ?_
  have hb2 := hS.blk_at (i := 1) rfl
  refine ops_chain (S := Agr _) (.k 0 1 [(5, .pointer (some ⟨b2, 0, none⟩))] (by kernel_rfl) <| .v 1 6 rfl rfl rfl rfl (lb1 0 (.int .i64 x0_.f0) rfl rfl ag3 hb2 rfl) <| .k 2 1 [(7, .pointer (some ⟨b4, 0, none⟩))] (by kernel_rfl) <| .v 3 8 rfl rfl rfl rfl (lb1 0 (.int .i64 x1_.f0) rfl rfl ag3 hb4 rfl) <| .k 4 2 [(9, .bool (x0_.f0 == x1_.f0)), (10, .bool (x0_.f0 == x1_.f0))] (by kernel_rfl) .nil) (rest := [6, 7, 8, 9, 10, 11, 12, 13, 14, 15, 16, 17, 18, 19, 20, 21, 22, 23, 24, 25, 26, 27, 28, 29, 30, 31, 32, 33, 34, 35, 36, 37, 38, 39, 40, 41, 42, 43, 44, 45, 46, 47]) hE (Agr.refl _) (fun a hE => ?_)
  by_cases c7 : x0_.f0 = x1_.f0
  · rw [if_pos c7] at H
    obtain ⟨J, hE⟩ := hE.norm [(0, .agg #[.int .i64 x0_.f0, .int .i64 x0_.f1, .int .i64 x0_.f2, .int .i64 x0_.f3, .int .i64 x0_.f4, .int .i64 x0_.f5, .slice A0_6 x0_.f6.length c0_6]), (1, .agg #[.int .i64 x1_.f0, .int .i64 x1_.f1, .int .i64 x1_.f2, .int .i64 x1_.f3, .int .i64 x1_.f4, .int .i64 x1_.f5, .slice A1_6 x1_.f6.length c1_6]), (2, .pointer (some ⟨b2, 0, none⟩)), (3, .pointer (some ⟨b4, 0, none⟩)), (4, .bool false), (10, .bool true)] (.cons rfl <| .cons rfl <| .cons rfl <| .cons rfl <| .cons rfl <| .cons (Eq.trans (b := .bool (x0_.f0 == x1_.f0)) rfl (congrArg Value.bool (beq_iff_eq.2 c7))) .nil)
    refine ops_chain (S := Agr _) (.k 6 1 [(11, .pointer (some ⟨b2, 1, none⟩))] (by kernel_rfl) <| .v 7 12 rfl rfl rfl rfl (lb1 1 (.int .i64 x0_.f1) rfl rfl ag3 hb2 rfl) <| .k 8 1 [(13, .pointer (some ⟨b4, 1, none⟩))] (by kernel_rfl) <| .v 9 14 rfl rfl rfl rfl (lb1 1 (.int .i64 x1_.f1) rfl rfl ag3 hb4 rfl) <| .k 10 3 [(15, .bool (x0_.f1 == x1_.f1)), (16, .bool (x0_.f1 == x1_.f1)), (17, .bool (x0_.f1 == x1_.f1))] (by kernel_rfl) .nil) (rest := [13, 14, 15, 16, 17, 18, 19, 20, 21, 22, 23, 24, 25, 26, 27, 28, 29, 30, 31, 32, 33, 34, 35, 36, 37, 38, 39, 40, 41, 42, 43, 44, 45, 46, 47]) hE (Agr.refl _) (fun a hE => ?_)
    by_cases c8 : x0_.f1 = x1_.f1
    · rw [if_pos c8] at H
      obtain ⟨J, hE⟩ := hE.norm [(0, .agg #[.int .i64 x0_.f0, .int .i64 x0_.f1, .int .i64 x0_.f2, .int .i64 x0_.f3, .int .i64 x0_.f4, .int .i64 x0_.f5, .slice A0_6 x0_.f6.length c0_6]), (1, .agg #[.int .i64 x1_.f0, .int .i64 x1_.f1, .int .i64 x1_.f2, .int .i64 x1_.f3, .int .i64 x1_.f4, .int .i64 x1_.f5, .slice A1_6 x1_.f6.length c1_6]), (2, .pointer (some ⟨b2, 0, none⟩)), (3, .pointer (some ⟨b4, 0, none⟩)), (4, .bool false), (11, .pointer (some ⟨b2, 1, none⟩)), (12, .int .i64 x0_.f1), (13, .pointer (some ⟨b4, 1, none⟩)), (14, .int .i64 x1_.f1), (15, .bool true), (17, .bool true)] (.cons rfl <| .cons rfl <| .cons rfl <| .cons rfl <| .cons rfl <| .cons rfl <| .cons rfl <| .cons rfl <| .cons rfl <| .cons (Eq.trans (b := .bool (x0_.f1 == x1_.f1)) rfl (congrArg Value.bool (beq_iff_eq.2 c8))) <| .cons (Eq.trans (b := .bool (x0_.f1 == x1_.f1)) rfl (congrArg Value.bool (beq_iff_eq.2 c8))) .nil)
      refine ops_chain (S := Agr _) (.k 13 1 [(18, .pointer (some ⟨b2, 2, none⟩))] (by kernel_rfl) <| .v 14 19 rfl rfl rfl rfl (lb1 2 (.int .i64 x0_.f2) rfl rfl ag3 hb2 rfl) <| .k 15 1 [(20, .pointer (some ⟨b4, 2, none⟩))] (by kernel_rfl) <| .v 16 21 rfl rfl rfl rfl (lb1 2 (.int .i64 x1_.f2) rfl rfl ag3 hb4 rfl) <| .k 17 3 [(22, .bool (x0_.f2 == x1_.f2)), (23, .bool (x0_.f2 == x1_.f2)), (24, .bool (x0_.f2 == x1_.f2))] (by kernel_rfl) .nil) (rest := [20, 21, 22, 23, 24, 25, 26, 27, 28, 29, 30, 31, 32, 33, 34, 35, 36, 37, 38, 39, 40, 41, 42, 43, 44, 45, 46, 47]) hE (Agr.refl _) (fun a hE => ?_)
      by_cases c9 : x0_.f2 = x1_.f2
      · rw [if_pos c9] at H
        obtain ⟨J, hE⟩ := hE.norm [(0, .agg #[.int .i64 x0_.f0, .int .i64 x0_.f1, .int .i64 x0_.f2, .int .i64 x0_.f3, .int .i64 x0_.f4, .int .i64 x0_.f5, .slice A0_6 x0_.f6.length c0_6]), (1, .agg #[.int .i64 x1_.f0, .int .i64 x1_.f1, .int .i64 x1_.f2, .int .i64 x1_.f3, .int .i64 x1_.f4, .int .i64 x1_.f5, .slice A1_6 x1_.f6.length c1_6]), (2, .pointer (some ⟨b2, 0, none⟩)), (3, .pointer (some ⟨b4, 0, none⟩)), (4, .bool false), (11, .pointer (some ⟨b2, 1, none⟩)), (12, .int .i64 x0_.f1), (13, .pointer (some ⟨b4, 1, none⟩)), (14, .int .i64 x1_.f1), (15, .bool true), (18, .pointer (some ⟨b2, 2, none⟩)), (19, .int .i64 x0_.f2), (20, .pointer (some ⟨b4, 2, none⟩)), (21, .int .i64 x1_.f2), (22, .bool true), (24, .bool true)] (.cons rfl <| .cons rfl <| .cons rfl <| .cons rfl <| .cons rfl <| .cons rfl <| .cons rfl <| .cons rfl <| .cons rfl <| .cons rfl <| .cons rfl <| .cons rfl <| .cons rfl <| .cons rfl <| .cons (Eq.trans (b := .bool (x0_.f2 == x1_.f2)) rfl (congrArg Value.bool (beq_iff_eq.2 c9))) <| .cons (Eq.trans (b := .bool (x0_.f2 == x1_.f2)) rfl (congrArg Value.bool (beq_iff_eq.2 c9))) .nil)
        refine ops_chain (S := Agr _) (.k 20 1 [(25, .pointer (some ⟨b2, 3, none⟩))] (by kernel_rfl) <| .v 21 26 rfl rfl rfl rfl (lb1 3 (.int .i64 x0_.f3) rfl rfl ag3 hb2 rfl) <| .k 22 1 [(27, .pointer (some ⟨b4, 3, none⟩))] (by kernel_rfl) <| .v 23 28 rfl rfl rfl rfl (lb1 3 (.int .i64 x1_.f3) rfl rfl ag3 hb4 rfl) <| .k 24 3 [(29, .bool (x0_.f3 == x1_.f3)), (30, .bool (x0_.f3 == x1_.f3)), (31, .bool (x0_.f3 == x1_.f3))] (by kernel_rfl) .nil) (rest := [27, 28, 29, 30, 31, 32, 33, 34, 35, 36, 37, 38, 39, 40, 41, 42, 43, 44, 45, 46, 47]) hE (Agr.refl _) (fun a hE => ?_)
        by_cases c10 : x0_.f3 = x1_.f3
        · rw [if_pos c10] at H
          obtain ⟨J, hE⟩ := hE.norm [(0, .agg #[.int .i64 x0_.f0, .int .i64 x0_.f1, .int .i64 x0_.f2, .int .i64 x0_.f3, .int .i64 x0_.f4, .int .i64 x0_.f5, .slice A0_6 x0_.f6.length c0_6]), (1, .agg #[.int .i64 x1_.f0, .int .i64 x1_.f1, .int .i64 x1_.f2, .int .i64 x1_.f3, .int .i64 x1_.f4, .int .i64 x1_.f5, .slice A1_6 x1_.f6.length c1_6]), (2, .pointer (some ⟨b2, 0, none⟩)), (3, .pointer (some ⟨b4, 0, none⟩)), (4, .bool false), (11, .pointer (some ⟨b2, 1, none⟩)), (12, .int .i64 x0_.f1), (13, .pointer (some ⟨b4, 1, none⟩)), (14, .int .i64 x1_.f1), (15, .bool true), (18, .pointer (some ⟨b2, 2, none⟩)), (19, .int .i64 x0_.f2), (20, .pointer (some ⟨b4, 2, none⟩)), (21, .int .i64 x1_.f2), (22, .bool true), (25, .pointer (some ⟨b2, 3, none⟩)), (26, .int .i64 x0_.f3), (27, .pointer (some ⟨b4, 3, none⟩)), (28, .int .i64 x1_.f3), (29, .bool true), (31, .bool true)] (.cons rfl <| .cons rfl <| .cons rfl <| .cons rfl <| .cons rfl <| .cons rfl <| .cons rfl <| .cons rfl <| .cons rfl <| .cons rfl <| .cons rfl <| .cons rfl <| .cons rfl <| .cons rfl <| .cons rfl <| .cons rfl <| .cons rfl <| .cons rfl <| .cons rfl <| .cons (Eq.trans (b := .bool (x0_.f3 == x1_.f3)) rfl (congrArg Value.bool (beq_iff_eq.2 c10))) <| .cons (Eq.trans (b := .bool (x0_.f3 == x1_.f3)) rfl (congrArg Value.bool (beq_iff_eq.2 c10))) .nil)
          refine ops_chain (S := Agr _) (.k 27 1 [(32, .pointer (some ⟨b2, 4, none⟩))] (by kernel_rfl) <| .v 28 33 rfl rfl rfl rfl (lb1 4 (.int .i64 x0_.f4) rfl rfl ag3 hb2 rfl) <| .k 29 1 [(34, .pointer (some ⟨b4, 4, none⟩))] (by kernel_rfl) <| .v 30 35 rfl rfl rfl rfl (lb1 4 (.int .i64 x1_.f4) rfl rfl ag3 hb4 rfl) <| .k 31 3 [(36, .bool (x0_.f4 == x1_.f4)), (37, .bool (x0_.f4 == x1_.f4)), (38, .bool (x0_.f4 == x1_.f4))] (by kernel_rfl) .nil) (rest := [34, 35, 36, 37, 38, 39, 40, 41, 42, 43, 44, 45, 46, 47]) hE (Agr.refl _) (fun a hE => ?_)
          by_cases c11 : x0_.f4 = x1_.f4
          · rw [if_pos c11] at H
            obtain ⟨J, hE⟩ := hE.norm [(0, .agg #[.int .i64 x0_.f0, .int .i64 x0_.f1, .int .i64 x0_.f2, .int .i64 x0_.f3, .int .i64 x0_.f4, .int .i64 x0_.f5, .slice A0_6 x0_.f6.length c0_6]), (1, .agg #[.int .i64 x1_.f0, .int .i64 x1_.f1, .int .i64 x1_.f2, .int .i64 x1_.f3, .int .i64 x1_.f4, .int .i64 x1_.f5, .slice A1_6 x1_.f6.length c1_6]), (2, .pointer (some ⟨b2, 0, none⟩)), (3, .pointer (some ⟨b4, 0, none⟩)), (4, .bool false), (11, .pointer (some ⟨b2, 1, none⟩)), (12, .int .i64 x0_.f1), (13, .pointer (some ⟨b4, 1, none⟩)), (14, .int .i64 x1_.f1), (15, .bool true), (18, .pointer (some ⟨b2, 2, none⟩)), (19, .int .i64 x0_.f2), (20, .pointer (some ⟨b4, 2, none⟩)), (21, .int .i64 x1_.f2), (22, .bool true), (25, .pointer (some ⟨b2, 3, none⟩)), (26, .int .i64 x0_.f3), (27, .pointer (some ⟨b4, 3, none⟩)), (28, .int .i64 x1_.f3), (29, .bool true), (32, .pointer (some ⟨b2, 4, none⟩)), (33, .int .i64 x0_.f4), (34, .pointer (some ⟨b4, 4, none⟩)), (35, .int .i64 x1_.f4), (36, .bool true), (38, .bool true)] (.cons rfl <| .cons rfl <| .cons rfl <| .cons rfl <| .cons rfl <| .cons rfl <| .cons rfl <| .cons rfl <| .cons rfl <| .cons rfl <| .cons rfl <| .cons rfl <| .cons rfl <| .cons rfl <| .cons rfl <| .cons rfl <| .cons rfl <| .cons rfl <| .cons rfl <| .cons rfl <| .cons rfl <| .cons rfl <| .cons rfl <| .cons rfl <| .cons (Eq.trans (b := .bool (x0_.f4 == x1_.f4)) rfl (congrArg Value.bool (beq_iff_eq.2 c11))) <| .cons (Eq.trans (b := .bool (x0_.f4 == x1_.f4)) rfl (congrArg Value.bool (beq_iff_eq.2 c11))) .nil)
            refine ops_chain (S := Agr _) (.k 34 1 [(39, .pointer (some ⟨b2, 5, none⟩))] (by kernel_rfl) <| .v 35 40 rfl rfl rfl rfl (lb1 5 (.int .i64 x0_.f5) rfl rfl ag3 hb2 rfl) <| .k 36 1 [(41, .pointer (some ⟨b4, 5, none⟩))] (by kernel_rfl) <| .v 37 42 rfl rfl rfl rfl (lb1 5 (.int .i64 x1_.f5) rfl rfl ag3 hb4 rfl) <| .k 38 3 [(43, .bool (x0_.f5 == x1_.f5)), (44, .bool (x0_.f5 == x1_.f5)), (45, .bool (x0_.f5 == x1_.f5))] (by kernel_rfl) .nil) (rest := [41, 42, 43, 44, 45, 46, 47]) hE (Agr.refl _) (fun a hE => ?_)
            by_cases c12 : x0_.f5 = x1_.f5
            · rw [if_pos c12] at H
              obtain ⟨J, hE⟩ := hE.norm [(0, .agg #[.int .i64 x0_.f0, .int .i64 x0_.f1, .int .i64 x0_.f2, .int .i64 x0_.f3, .int .i64 x0_.f4, .int .i64 x0_.f5, .slice A0_6 x0_.f6.length c0_6]), (1, .agg #[.int .i64 x1_.f0, .int .i64 x1_.f1, .int .i64 x1_.f2, .int .i64 x1_.f3, .int .i64 x1_.f4, .int .i64 x1_.f5, .slice A1_6 x1_.f6.length c1_6]), (2, .pointer (some ⟨b2, 0, none⟩)), (3, .pointer (some ⟨b4, 0, none⟩)), (4, .bool false), (11, .pointer (some ⟨b2, 1, none⟩)), (12, .int .i64 x0_.f1), (13, .pointer (some ⟨b4, 1, none⟩)), (14, .int .i64 x1_.f1), (15, .bool true), (18, .pointer (some ⟨b2, 2, none⟩)), (19, .int .i64 x0_.f2), (20, .pointer (some ⟨b4, 2, none⟩)), (21, .int .i64 x1_.f2), (22, .bool true), (25, .pointer (some ⟨b2, 3, none⟩)), (26, .int .i64 x0_.f3), (27, .pointer (some ⟨b4, 3, none⟩)), (28, .int .i64 x1_.f3), (29, .bool true), (32, .pointer (some ⟨b2, 4, none⟩)), (33, .int .i64 x0_.f4), (34, .pointer (some ⟨b4, 4, none⟩)), (35, .int .i64 x1_.f4), (36, .bool true), (39, .pointer (some ⟨b2, 5, none⟩)), (40, .int .i64 x0_.f5), (41, .pointer (some ⟨b4, 5, none⟩)), (42, .int .i64 x1_.f5), (43, .bool true), (45, .bool true)] (.cons rfl <| .cons rfl <| .cons rfl <| .cons rfl <| .cons rfl <| .cons rfl <| .cons rfl <| .cons rfl <| .cons rfl <| .cons rfl <| .cons rfl <| .cons rfl <| .cons rfl <| .cons rfl <| .cons rfl <| .cons rfl <| .cons rfl <| .cons rfl <| .cons rfl <| .cons rfl <| .cons rfl <| .cons rfl <| .cons rfl <| .cons rfl <| .cons rfl <| .cons rfl <| .cons rfl <| .cons rfl <| .cons rfl <| .cons (Eq.trans (b := .bool (x0_.f5 == x1_.f5)) rfl (congrArg Value.bool (beq_iff_eq.2 c12))) <| .cons (Eq.trans (b := .bool (x0_.f5 == x1_.f5)) rfl (congrArg Value.bool (beq_iff_eq.2 c12))) .nil)
              refine ops_chain (S := Agr _) (.k 41 1 [(46, .pointer (some ⟨b2, 6, none⟩))] (by kernel_rfl) <| .v 42 47 rfl rfl rfl rfl (lb1 6 (.slice A0_6 x0_.f6.length c0_6) rfl rfl ag26 hb2 rfl) <| .k 43 1 [(48, .pointer (some ⟨b4, 6, none⟩))] (by kernel_rfl) <| .v 44 49 rfl rfl rfl rfl (lb1 6 (.slice A1_6 x1_.f6.length c1_6) rfl rfl ag26 hb4 rfl) .nil) (rest := [45, 46, 47]) hE (Agr.refl _) (fun a hE => ?_)
              obtain ⟨t13, h14, H⟩ := Option.bind_eq_some_iff.mp H
              refine ops_eff 45 hE (some 50) rfl rfl rfl rfl (Eff.call en110 rfl [.slice A0_6 x0_.f6.length c0_6, .slice A1_6 x1_.f6.length c1_6] rfl (slices_Equal__int_int.calls k x0_.f6 x1_.f6 _ _ _ _ _ _ _ hS.own.sub g0_6 g1_6 h14)) ?_
              rintro _ u15 a ⟨_, rfl, hC⟩ hE
              replace hS := hS.lent hC
              refine ops_chain (S := Agr _) (.k 46 2 [(51, .bool t13), (4, .bool t13)] (by kernel_rfl) .nil) (rest := []) hE (Agr.refl _) (fun a hE => ?_)
              refine ops_done ?_
              refine hK6 _ _ ?_
              refine wp_ret ?_
              replace hS := hS.tail
              replace hS := hS.tail
              obtain rfl := Option.some.inj H
              exact ret1 hE rfl (.tmp rfl .nil) ⟨_, rfl, _, rfl, hS⟩
            · rw [if_neg c12] at H
              obtain ⟨J, hE⟩ := hE.norm [(0, .agg #[.int .i64 x0_.f0, .int .i64 x0_.f1, .int .i64 x0_.f2, .int .i64 x0_.f3, .int .i64 x0_.f4, .int .i64 x0_.f5, .slice A0_6 x0_.f6.length c0_6]), (1, .agg #[.int .i64 x1_.f0, .int .i64 x1_.f1, .int .i64 x1_.f2, .int .i64 x1_.f3, .int .i64 x1_.f4, .int .i64 x1_.f5, .slice A1_6 x1_.f6.length c1_6]), (2, .pointer (some ⟨b2, 0, none⟩)), (3, .pointer (some ⟨b4, 0, none⟩)), (4, .bool false), (11, .pointer (some ⟨b2, 1, none⟩)), (12, .int .i64 x0_.f1), (13, .pointer (some ⟨b4, 1, none⟩)), (14, .int .i64 x1_.f1), (15, .bool true), (18, .pointer (some ⟨b2, 2, none⟩)), (19, .int .i64 x0_.f2), (20, .pointer (some ⟨b4, 2, none⟩)), (21, .int .i64 x1_.f2), (22, .bool true), (25, .pointer (some ⟨b2, 3, none⟩)), (26, .int .i64 x0_.f3), (27, .pointer (some ⟨b4, 3, none⟩)), (28, .int .i64 x1_.f3), (29, .bool true), (32, .pointer (some ⟨b2, 4, none⟩)), (33, .int .i64 x0_.f4), (34, .pointer (some ⟨b4, 4, none⟩)), (35, .int .i64 x1_.f4), (36, .bool true), (39, .pointer (some ⟨b2, 5, none⟩)), (40, .int .i64 x0_.f5), (41, .pointer (some ⟨b4, 5, none⟩)), (42, .int .i64 x1_.f5), (43, .bool false), (45, .bool false)] (.cons rfl <| .cons rfl <| .cons rfl <| .cons rfl <| .cons rfl <| .cons rfl <| .cons rfl <| .cons rfl <| .cons rfl <| .cons rfl <| .cons rfl <| .cons rfl <| .cons rfl <| .cons rfl <| .cons rfl <| .cons rfl <| .cons rfl <| .cons rfl <| .cons rfl <| .cons rfl <| .cons rfl <| .cons rfl <| .cons rfl <| .cons rfl <| .cons rfl <| .cons rfl <| .cons rfl <| .cons rfl <| .cons rfl <| .cons (Eq.trans (b := .bool (x0_.f5 == x1_.f5)) rfl (congrArg Value.bool (beq_eq_false_iff_ne.2 c12))) <| .cons (Eq.trans (b := .bool (x0_.f5 == x1_.f5)) rfl (congrArg Value.bool (beq_eq_false_iff_ne.2 c12))) .nil)
              refine ops_chain (S := Agr _) (.k 41 7 [(46, undef), (47, undef), (48, undef), (49, undef), (50, undef), (51, .bool false), (4, .bool false)] (by kernel_rfl) .nil) (rest := []) hE (Agr.refl _) (fun a hE => ?_)
              refine ops_done ?_
              refine hK6 _ _ ?_
              refine wp_ret ?_
              replace hS := hS.tail
              replace hS := hS.tail
              obtain rfl := Option.some.inj H
              exact ret1 hE rfl (.tmp rfl .nil) ⟨_, rfl, _, rfl, hS⟩
          · rw [if_neg c11] at H
            obtain ⟨J, hE⟩ := hE.norm [(0, .agg #[.int .i64 x0_.f0, .int .i64 x0_.f1, .int .i64 x0_.f2, .int .i64 x0_.f3, .int .i64 x0_.f4, .int .i64 x0_.f5, .slice A0_6 x0_.f6.length c0_6]), (1, .agg #[.int .i64 x1_.f0, .int .i64 x1_.f1, .int .i64 x1_.f2, .int .i64 x1_.f3, .int .i64 x1_.f4, .int .i64 x1_.f5, .slice A1_6 x1_.f6.length c1_6]), (2, .pointer (some ⟨b2, 0, none⟩)), (3, .pointer (some ⟨b4, 0, none⟩)), (4, .bool false), (11, .pointer (some ⟨b2, 1, none⟩)), (12, .int .i64 x0_.f1), (13, .pointer (some ⟨b4, 1, none⟩)), (14, .int .i64 x1_.f1), (15, .bool true), (18, .pointer (some ⟨b2, 2, none⟩)), (19, .int .i64 x0_.f2), (20, .pointer (some ⟨b4, 2, none⟩)), (21, .int .i64 x1_.f2), (22, .bool true), (25, .pointer (some ⟨b2, 3, none⟩)), (26, .int .i64 x0_.f3), (27, .pointer (some ⟨b4, 3, none⟩)), (28, .int .i64 x1_.f3), (29, .bool true), (32, .pointer (some ⟨b2, 4, none⟩)), (33, .int .i64 x0_.f4), (34, .pointer (some ⟨b4, 4, none⟩)), (35, .int .i64 x1_.f4), (36, .bool false), (38, .bool false)] (.cons rfl <| .cons rfl <| .cons rfl <| .cons rfl <| .cons rfl <| .cons rfl <| .cons rfl <| .cons rfl <| .cons rfl <| .cons rfl <| .cons rfl <| .cons rfl <| .cons rfl <| .cons rfl <| .cons rfl <| .cons rfl <| .cons rfl <| .cons rfl <| .cons rfl <| .cons rfl <| .cons rfl <| .cons rfl <| .cons rfl <| .cons rfl <| .cons (Eq.trans (b := .bool (x0_.f4 == x1_.f4)) rfl (congrArg Value.bool (beq_eq_false_iff_ne.2 c11))) <| .cons (Eq.trans (b := .bool (x0_.f4 == x1_.f4)) rfl (congrArg Value.bool (beq_eq_false_iff_ne.2 c11))) .nil)
            refine ops_chain (S := Agr _) (.k 34 14 [(39, undef), (40, undef), (41, undef), (42, undef), (43, undef), (44, .bool false), (45, .bool false), (46, undef), (47, undef), (48, undef), (49, undef), (50, undef), (51, .bool false), (4, .bool false)] (by kernel_rfl) .nil) (rest := []) hE (Agr.refl _) (fun a hE => ?_)
            refine ops_done ?_
            refine hK6 _ _ ?_
            refine wp_ret ?_
            replace hS := hS.tail
            replace hS := hS.tail
            obtain rfl := Option.some.inj H
            exact ret1 hE rfl (.tmp rfl .nil) ⟨_, rfl, _, rfl, hS⟩
        · rw [if_neg c10] at H
          obtain ⟨J, hE⟩ := hE.norm [(0, .agg #[.int .i64 x0_.f0, .int .i64 x0_.f1, .int .i64 x0_.f2, .int .i64 x0_.f3, .int .i64 x0_.f4, .int .i64 x0_.f5, .slice A0_6 x0_.f6.length c0_6]), (1, .agg #[.int .i64 x1_.f0, .int .i64 x1_.f1, .int .i64 x1_.f2, .int .i64 x1_.f3, .int .i64 x1_.f4, .int .i64 x1_.f5, .slice A1_6 x1_.f6.length c1_6]), (2, .pointer (some ⟨b2, 0, none⟩)), (3, .pointer (some ⟨b4, 0, none⟩)), (4, .bool false), (11, .pointer (some ⟨b2, 1, none⟩)), (12, .int .i64 x0_.f1), (13, .pointer (some ⟨b4, 1, none⟩)), (14, .int .i64 x1_.f1), (15, .bool true), (18, .pointer (some ⟨b2, 2, none⟩)), (19, .int .i64 x0_.f2), (20, .pointer (some ⟨b4, 2, none⟩)), (21, .int .i64 x1_.f2), (22, .bool true), (25, .pointer (some ⟨b2, 3, none⟩)), (26, .int .i64 x0_.f3), (27, .pointer (some ⟨b4, 3, none⟩)), (28, .int .i64 x1_.f3), (29, .bool false), (31, .bool false)] (.cons rfl <| .cons rfl <| .cons rfl <| .cons rfl <| .cons rfl <| .cons rfl <| .cons rfl <| .cons rfl <| .cons rfl <| .cons rfl <| .cons rfl <| .cons rfl <| .cons rfl <| .cons rfl <| .cons rfl <| .cons rfl <| .cons rfl <| .cons rfl <| .cons rfl <| .cons (Eq.trans (b := .bool (x0_.f3 == x1_.f3)) rfl (congrArg Value.bool (beq_eq_false_iff_ne.2 c10))) <| .cons (Eq.trans (b := .bool (x0_.f3 == x1_.f3)) rfl (congrArg Value.bool (beq_eq_false_iff_ne.2 c10))) .nil)
          refine ops_chain (S := Agr _) (.k 27 21 [(32, undef), (33, undef), (34, undef), (35, undef), (36, undef), (37, .bool false), (38, .bool false), (39, undef), (40, undef), (41, undef), (42, undef), (43, undef), (44, .bool false), (45, .bool false), (46, undef), (47, undef), (48, undef), (49, undef), (50, undef), (51, .bool false), (4, .bool false)] (by kernel_rfl) .nil) (rest := []) hE (Agr.refl _) (fun a hE => ?_)
          refine ops_done ?_
          refine hK6 _ _ ?_
          refine wp_ret ?_
          replace hS := hS.tail
          replace hS := hS.tail
          obtain rfl := Option.some.inj H
          exact ret1 hE rfl (.tmp rfl .nil) ⟨_, rfl, _, rfl, hS⟩
      · rw [if_neg c9] at H
        obtain ⟨J, hE⟩ := hE.norm [(0, .agg #[.int .i64 x0_.f0, .int .i64 x0_.f1, .int .i64 x0_.f2, .int .i64 x0_.f3, .int .i64 x0_.f4, .int .i64 x0_.f5, .slice A0_6 x0_.f6.length c0_6]), (1, .agg #[.int .i64 x1_.f0, .int .i64 x1_.f1, .int .i64 x1_.f2, .int .i64 x1_.f3, .int .i64 x1_.f4, .int .i64 x1_.f5, .slice A1_6 x1_.f6.length c1_6]), (2, .pointer (some ⟨b2, 0, none⟩)), (3, .pointer (some ⟨b4, 0, none⟩)), (4, .bool false), (11, .pointer (some ⟨b2, 1, none⟩)), (12, .int .i64 x0_.f1), (13, .pointer (some ⟨b4, 1, none⟩)), (14, .int .i64 x1_.f1), (15, .bool true), (18, .pointer (some ⟨b2, 2, none⟩)), (19, .int .i64 x0_.f2), (20, .pointer (some ⟨b4, 2, none⟩)), (21, .int .i64 x1_.f2), (22, .bool false), (24, .bool false)] (.cons rfl <| .cons rfl <| .cons rfl <| .cons rfl <| .cons rfl <| .cons rfl <| .cons rfl <| .cons rfl <| .cons rfl <| .cons rfl <| .cons rfl <| .cons rfl <| .cons rfl <| .cons rfl <| .cons (Eq.trans (b := .bool (x0_.f2 == x1_.f2)) rfl (congrArg Value.bool (beq_eq_false_iff_ne.2 c9))) <| .cons (Eq.trans (b := .bool (x0_.f2 == x1_.f2)) rfl (congrArg Value.bool (beq_eq_false_iff_ne.2 c9))) .nil)
        refine ops_chain (S := Agr _) (.k 20 28 [(25, undef), (26, undef), (27, undef), (28, undef), (29, undef), (30, .bool false), (31, .bool false), (32, undef), (33, undef), (34, undef), (35, undef), (36, undef), (37, .bool false), (38, .bool false), (39, undef), (40, undef), (41, undef), (42, undef), (43, undef), (44, .bool false), (45, .bool false), (46, undef), (47, undef), (48, undef), (49, undef), (50, undef), (51, .bool false), (4, .bool false)] (by kernel_rfl) .nil) (rest := []) hE (Agr.refl _) (fun a hE => ?_)
        refine ops_done ?_
        refine hK6 _ _ ?_
        refine wp_ret ?_
        replace hS := hS.tail
        replace hS := hS.tail
        obtain rfl := Option.some.inj H
        exact ret1 hE rfl (.tmp rfl .nil) ⟨_, rfl, _, rfl, hS⟩
    · rw [if_neg c8] at H
      obtain ⟨J, hE⟩ := hE.norm [(0, .agg #[.int .i64 x0_.f0, .int .i64 x0_.f1, .int .i64 x0_.f2, .int .i64 x0_.f3, .int .i64 x0_.f4, .int .i64 x0_.f5, .slice A0_6 x0_.f6.length c0_6]), (1, .agg #[.int .i64 x1_.f0, .int .i64 x1_.f1, .int .i64 x1_.f2, .int .i64 x1_.f3, .int .i64 x1_.f4, .int .i64 x1_.f5, .slice A1_6 x1_.f6.length c1_6]), (2, .pointer (some ⟨b2, 0, none⟩)), (3, .pointer (some ⟨b4, 0, none⟩)), (4, .bool false), (11, .pointer (some ⟨b2, 1, none⟩)), (12, .int .i64 x0_.f1), (13, .pointer (some ⟨b4, 1, none⟩)), (14, .int .i64 x1_.f1), (15, .bool false), (17, .bool false)] (.cons rfl <| .cons rfl <| .cons rfl <| .cons rfl <| .cons rfl <| .cons rfl <| .cons rfl <| .cons rfl <| .cons rfl <| .cons (Eq.trans (b := .bool (x0_.f1 == x1_.f1)) rfl (congrArg Value.bool (beq_eq_false_iff_ne.2 c8))) <| .cons (Eq.trans (b := .bool (x0_.f1 == x1_.f1)) rfl (congrArg Value.bool (beq_eq_false_iff_ne.2 c8))) .nil)
      refine ops_chain (S := Agr _) (.k 13 35 [(18, undef), (19, undef), (20, undef), (21, undef), (22, undef), (23, .bool false), (24, .bool false), (25, undef), (26, undef), (27, undef), (28, undef), (29, undef), (30, .bool false), (31, .bool false), (32, undef), (33, undef), (34, undef), (35, undef), (36, undef), (37, .bool false), (38, .bool false), (39, undef), (40, undef), (41, undef), (42, undef), (43, undef), (44, .bool false), (45, .bool false), (46, undef), (47, undef), (48, undef), (49, undef), (50, undef), (51, .bool false), (4, .bool false)] (by kernel_rfl) .nil) (rest := []) hE (Agr.refl _) (fun a hE => ?_)
      refine ops_done ?_
      refine hK6 _ _ ?_
      refine wp_ret ?_
      replace hS := hS.tail
      replace hS := hS.tail
      obtain rfl := Option.some.inj H
      exact ret1 hE rfl (.tmp rfl .nil) ⟨_, rfl, _, rfl, hS⟩
  · rw [if_neg c7] at H
    obtain ⟨J, hE⟩ := hE.norm [(0, .agg #[.int .i64 x0_.f0, .int .i64 x0_.f1, .int .i64 x0_.f2, .int .i64 x0_.f3, .int .i64 x0_.f4, .int .i64 x0_.f5, .slice A0_6 x0_.f6.length c0_6]), (1, .agg #[.int .i64 x1_.f0, .int .i64 x1_.f1, .int .i64 x1_.f2, .int .i64 x1_.f3, .int .i64 x1_.f4, .int .i64 x1_.f5, .slice A1_6 x1_.f6.length c1_6]), (2, .pointer (some ⟨b2, 0, none⟩)), (3, .pointer (some ⟨b4, 0, none⟩)), (4, .bool false), (10, .bool false)] (.cons rfl <| .cons rfl <| .cons rfl <| .cons rfl <| .cons rfl <| .cons (Eq.trans (b := .bool (x0_.f0 == x1_.f0)) rfl (congrArg Value.bool (beq_eq_false_iff_ne.2 c7))) .nil)
    refine ops_chain (S := Agr _) (.k 6 42 [(11, undef), (12, undef), (13, undef), (14, undef), (15, undef), (16, .bool false), (17, .bool false), (18, undef), (19, undef), (20, undef), (21, undef), (22, undef), (23, .bool false), (24, .bool false), (25, undef), (26, undef), (27, undef), (28, undef), (29, undef), (30, .bool false), (31, .bool false), (32, undef), (33, undef), (34, undef), (35, undef), (36, undef), (37, .bool false), (38, .bool false), (39, undef), (40, undef), (41, undef), (42, undef), (43, undef), (44, .bool false), (45, .bool false), (46, undef), (47, undef), (48, undef), (49, undef), (50, undef), (51, .bool false), (4, .bool false)] (by kernel_rfl) .nil) (rest := []) hE (Agr.refl _) (fun a hE => ?_)
    refine ops_done ?_
    refine hK6 _ _ ?_
    refine wp_ret ?_
    replace hS := hS.tail
    replace hS := hS.tail
    obtain rfl := Option.some.inj H
    exact ret1 hE rfl (.tmp rfl .nil) ⟨_, rfl, _, rfl, hS⟩

/-! ### windrose/acceptor.bare: function 77 -/
def acceptor_bare.j34 : Nat → S28 → Int → Int → Int → Int → Int → List Int → Option S28
  | 0, _, _, _, _, _, _, _ => none
  | k + 1, x0_, x25, x26, x27, x28, x29, l32 => some (⟨x0_.f0, x25, x26, x27, x28, x29, l32⟩ : S28)
theorem acceptor_bare.j34_s (k : Nat) (x0_ : S28) (x25 : Int) (x26 : Int) (x27 : Int) (x28 : Int) (x29 : Int) (l32 : List Int) : acceptor_bare.j34 (k + 1) x0_ x25 x26 x27 x28 x29 l32 = (some (⟨x0_.f0, x25, x26, x27, x28, x29, l32⟩ : S28)) := by kernel_rfl
def acceptor_bare.f (k : Nat) (x0_ : S28) : Option S28 := if x0_.f0 = 1 then (acceptor_bare.j34 k x0_ x0_.f1 x0_.f2 x0_.f3 x0_.f4 0 []) else (if x0_.f0 = 2 then (acceptor_bare.j34 k x0_ x0_.f1 0 0 x0_.f4 0 []) else (if x0_.f0 = 8 then (acceptor_bare.j34 k x0_ 0 0 0 0 x0_.f5 x0_.f6) else (if x0_.f0 = 9 then (acceptor_bare.j34 k x0_ 0 0 0 0 0 []) else (if x0_.f0 = 10 then (acceptor_bare.j34 k x0_ 0 0 0 x0_.f4 x0_.f5 []) else (acceptor_bare.j34 k x0_ x0_.f1 0 0 0 0 [])))))
def acceptor_bare.Post (W F : World) (r : S28) (v : Value) (w' : World) : Prop := ∃ (F' : World) (A0_6 : Option Addr) (c0_6 : Nat), v = .agg #[.int .i64 r.f0, .int .i64 r.f1, .int .i64 r.f2, .int .i64 r.f3, .int .i64 r.f4, .int .i64 r.f5, .slice A0_6 r.f6.length c0_6] ∧ St W (mine W []) F w' F' [] ∧ Rd (Kn.int .i64) F' A0_6 c0_6 r.f6
set_option maxHeartbeats 4000000 in
set_option maxRecDepth 100000 in
theorem acceptor_bare.calls (k : Nat) (x0_ : S28) (A0_6 : Option Addr) (c0_6 : Nat) (r : S28) (W F : World) (hsub : Sub F W) (g0_6 : Rd (Kn.int .i64) F A0_6 c0_6 x0_.f6) (H : acceptor_bare.f k x0_ = some r) :
    Calls Try.prog 77 #[.agg #[.int .i64 x0_.f0, .int .i64 x0_.f1, .int .i64 x0_.f2, .int .i64 x0_.f3, .int .i64 x0_.f4, .int .i64 x0_.f5, .slice A0_6 x0_.f6.length c0_6]] W fun e w' => ∃ v, e = .returned v ∧ acceptor_bare.Post W F r v w' := by
  have hS := St.start (Own.nil hsub)
  unfold acceptor_bare.f at H
  refine enter (n := 47) rfl rfl rfl (Nat.le_of_ble_eq_true rfl) (fun a hE => ?_)
  refine wp_seq_k fun K1 hK1 => ?_
  refine plain (L := [0, 1]) rfl ?_
  refine ops_eff 0 hE (some 1) rfl rfl rfl rfl (e_box hS rfl rfl #[.int .i64 x0_.f0, .int .i64 x0_.f1, .int .i64 x0_.f2, .int .i64 x0_.f3, .int .i64 x0_.f4, .int .i64 x0_.f5, .slice A0_6 x0_.f6.length c0_6] rfl) ?_
  rintro _ u3 a ⟨b2, rfl, hb2, hS, hg⟩ hE
  refine ops_eff 1 hE (some 2) rfl rfl rfl rfl (e_alloc hS rfl z28z #[.int .i64 0, .int .i64 0, .int .i64 0, .int .i64 0, .int .i64 0, .int .i64 0, .slice none 0 0] rfl) ?_
  rintro _ u5 a ⟨b4, rfl, hb4, hS, hg⟩ hE
  refine ops_done ?_
  refine hK1 _ _ ?_
  refine wp_seq_k fun K6 hK6 => ?_
  have J37 : ∀ kq35, kq35 ≤ k → ∀ (J : Nat → Value) (x25 : Int) (x26 : Int) (x27 : Int) (x28 : Int) (x29 : Int) (A30 : Option Addr) (c31 : Nat) (l32 : List Int) (a : Act) (w' : World), Env 47 (updL J [(0, .agg #[.int .i64 x0_.f0, .int .i64 x0_.f1, .int .i64 x0_.f2, .int .i64 x0_.f3, .int .i64 x0_.f4, .int .i64 x0_.f5, .slice A0_6 x0_.f6.length c0_6]), (1, .pointer (some ⟨b2, 0, none⟩)), (2, .pointer (some ⟨b4, 0, none⟩)), (4, .int .i64 x0_.f0), (10, .bool (x0_.f0 == 1))]) a → St W (mine W []) F w' F [box b2 #[.int .i64 x0_.f0, .int .i64 x25, .int .i64 x26, .int .i64 x27, .int .i64 x28, .int .i64 x29, .slice A30 l32.length c31] 28, box b4 #[.int .i64 0, .int .i64 0, .int .i64 0, .int .i64 0, .int .i64 0, .int .i64 0, .slice none 0 0] 28] → Rd (Kn.int .i64) F A30 c31 l32 → acceptor_bare.j34 kq35 x0_ x25 x26 x27 x28 x29 l32 = some r → K6 a w' := by
    intro kq35 hkq J x25 x26 x27 x28 x29 A30 c31 l32 a u38 hE hS g33 H
    cases kq35 with
    | zero => cases (show none = some r from H)
    | succ k36 =>
      rw [acceptor_bare.j34_s] at H
      refine hK6 _ _ ?_
      refine wp_seq_k fun K39 hK39 => ?_
      refine plain (L := [0, 1]) rfl ?_
      have hb2 := hS.blk_at (i := 0) rfl
      refine ops_chain (S := Agr _) (.v 0 46 rfl rfl rfl rfl (lbn 0 [.int .i64 x0_.f0, .int .i64 x25, .int .i64 x26, .int .i64 x27, .int .i64 x28, .int .i64 x29, .slice A30 l32.length c31] rfl rfl ag28 sz28 hb2 rfl) .nil) (rest := [1]) hE (Agr.refl _) (fun a hE => ?_)
      replace hS := hS.front 1 rfl
      refine ops_eff 1 hE none rfl rfl rfl rfl (e_store (off := 0) hS rfl rfl rfl sz28 (Nat.le_of_ble_eq_true rfl) (all_one rfl) #[.int .i64 x0_.f0, .int .i64 x25, .int .i64 x26, .int .i64 x27, .int .i64 x28, .int .i64 x29, .slice A30 l32.length c31] rfl) ?_
      rintro _ u40 a ⟨rfl, hb4, hS, hz⟩ hE
      refine ops_done ?_
      refine hK39 _ _ ?_
      refine wp_ret ?_
      replace hS := hS.tail
      replace hS := hS.tail
      obtain rfl := Option.some.inj H
      exact ret1 hE rfl (.cell rfl (res_blk [.int .i64 x0_.f0, .int .i64 x25, .int .i64 x26, .int .i64 x27, .int .i64 x28, .int .i64 x29, .slice A30 l32.length c31] ag28 sz28 hb4 rfl) .nil) ⟨_, rfl, _, _, _, rfl, hS, g33⟩
  refine wp_seq_k fun K7 hK7 => ?_
  refine plain (L := [0, 1]) rfl ?_
  have hb2 := hS.blk_at (i := 1) rfl
  refine ops_chain (S := Agr _) (.k 0 1 [(3, .pointer (some ⟨b2, 0, none⟩))] (by kernel_rfl) <| .v 1 4 rfl rfl rfl rfl (lb1 0 (.int .i64 x0_.f0) rfl rfl ag3 hb2 rfl) .nil) (rest := []) hE (Agr.refl _) (fun a hE => ?_)
  refine ops_done ?_
  refine hK7 _ _ ?_
  refine wp_block ?_
  refine wp_seq_k fun K8 hK8 => ?_
  refine plain (L := [0, 1]) rfl ?_
  refine ops_chain (S := Agr _) (.k 0 2 [(11, .bool (x0_.f0 == 1)), (10, .bool (x0_.f0 == 1))] (by kernel_rfl) .nil) (rest := []) hE (Agr.refl _) (fun a hE => ?_)
  refine ops_done ?_
  refine hK8 _ _ ?_
  by_cases c9 : x0_.f0 = 1
  · rw [if_pos c9] at H
    refine cond_t hE (b := (x0_.f0 == 1)) rfl (beq_iff_eq.2 c9) ?_
    refine plain (L := [0, 1, 2, 3]) rfl ?_
    refine ops_chain (S := Agr _) (.k 0 1 [(12, .pointer (some ⟨b2, 5, none⟩))] (by kernel_rfl) .nil) (rest := [1, 2, 3]) hE (Agr.refl _) (fun a hE => ?_)
    replace hS := hS.front 1 rfl
    refine ops_eff 1 hE none rfl rfl rfl rfl (e_store (off := 5) hS rfl rfl rfl sz3 (Nat.le_of_ble_eq_true rfl) (all_one rfl) #[.int .i64 x0_.f0, .int .i64 x0_.f1, .int .i64 x0_.f2, .int .i64 x0_.f3, .int .i64 x0_.f4, .int .i64 0, .slice A0_6 x0_.f6.length c0_6] rfl) ?_
    rintro _ u10 a ⟨rfl, hb2, hS, hz⟩ hE
    refine ops_chain (S := Agr _) (.k 2 1 [(13, .pointer (some ⟨b2, 6, none⟩))] (by kernel_rfl) .nil) (rest := [3]) hE (Agr.refl _) (fun a hE => ?_)
    refine ops_eff 3 hE none rfl rfl rfl rfl (e_store (off := 6) hS rfl rfl rfl sz26 (Nat.le_of_ble_eq_true rfl) (all_one rfl) #[.int .i64 x0_.f0, .int .i64 x0_.f1, .int .i64 x0_.f2, .int .i64 x0_.f3, .int .i64 x0_.f4, .int .i64 0, .slice none 0 0] rfl) ?_
    rintro _ u11 a ⟨rfl, hb2, hS, hz⟩ hE
    refine ops_done ?_
    obtain ⟨J, hE⟩ := hE.norm [(0, .agg #[.int .i64 x0_.f0, .int .i64 x0_.f1, .int .i64 x0_.f2, .int .i64 x0_.f3, .int .i64 x0_.f4, .int .i64 x0_.f5, .slice A0_6 x0_.f6.length c0_6]), (1, .pointer (some ⟨b2, 0, none⟩)), (2, .pointer (some ⟨b4, 0, none⟩)), (4, .int .i64 x0_.f0), (10, .bool (x0_.f0 == 1))] (.cons rfl <| .cons rfl <| .cons rfl <| .cons rfl <| .cons rfl .nil)
    exact J37 _ (by omega) J x0_.f1 x0_.f2 x0_.f3 x0_.f4 0 none 0 [] _ _ hE hS (Rd.nil _ _) H
  · rw [if_neg c9] at H
    refine cond_f hE (b := (x0_.f0 == 1)) rfl (beq_eq_false_iff_ne.2 c9) ?_
    refine wp_seq_k fun K12 hK12 => ?_
    refine plain (L := [0, 1]) rfl ?_
    refine ops_chain (S := Agr _) (.k 0 2 [(15, .bool (x0_.f0 == 2)), (14, .bool (x0_.f0 == 2))] (by kernel_rfl) .nil) (rest := []) hE (Agr.refl _) (fun a hE => ?_)
    refine ops_done ?_
    refine hK12 _ _ ?_
    by_cases c13 : x0_.f0 = 2
    · rw [if_pos c13] at H
      refine cond_t hE (b := (x0_.f0 == 2)) rfl (beq_iff_eq.2 c13) ?_
      refine plain (L := [0, 1, 2, 3, 4, 5, 6, 7]) rfl ?_
      refine ops_chain (S := Agr _) (.k 0 1 [(16, .pointer (some ⟨b2, 0, none⟩))] (by kernel_rfl) <| .v 1 17 rfl rfl rfl rfl (lb1 0 (.int .i64 x0_.f0) rfl rfl ag3 hb2 rfl) <| .k 2 1 [(18, .pointer (some ⟨b2, 1, none⟩))] (by kernel_rfl) <| .v 3 19 rfl rfl rfl rfl (lb1 1 (.int .i64 x0_.f1) rfl rfl ag3 hb2 rfl) <| .k 4 1 [(20, .pointer (some ⟨b2, 4, none⟩))] (by kernel_rfl) <| .v 5 21 rfl rfl rfl rfl (lb1 4 (.int .i64 x0_.f4) rfl rfl ag3 hb2 rfl) <| .v 6 22 rfl rfl rfl rfl (YA.s (x_build [(0, .int .i64 x0_.f0), (1, .int .i64 x0_.f1), (4, .int .i64 x0_.f4)] (.agg #[.int .i64 x0_.f0, .int .i64 x0_.f1, .int .i64 0, .int .i64 0, .int .i64 x0_.f4, .int .i64 0, .slice none 0 0]) rfl rfl (fun w => by kernel_rfl))) .nil) (rest := [7]) hE (Agr.refl _) (fun a hE => ?_)
      replace hS := hS.front 1 rfl
      refine ops_eff 7 hE none rfl rfl rfl rfl (e_store (off := 0) hS rfl rfl rfl sz28 (Nat.le_of_ble_eq_true rfl) (all_one rfl) #[.int .i64 x0_.f0, .int .i64 x0_.f1, .int .i64 0, .int .i64 0, .int .i64 x0_.f4, .int .i64 0, .slice none 0 0] rfl) ?_
      rintro _ u14 a ⟨rfl, hb2, hS, hz⟩ hE
      refine ops_done ?_
      obtain ⟨J, hE⟩ := hE.norm [(0, .agg #[.int .i64 x0_.f0, .int .i64 x0_.f1, .int .i64 x0_.f2, .int .i64 x0_.f3, .int .i64 x0_.f4, .int .i64 x0_.f5, .slice A0_6 x0_.f6.length c0_6]), (1, .pointer (some ⟨b2, 0, none⟩)), (2, .pointer (some ⟨b4, 0, none⟩)), (4, .int .i64 x0_.f0), (10, .bool (x0_.f0 == 1))] (.cons rfl <| .cons rfl <| .cons rfl <| .cons rfl <| .cons rfl .nil)
      exact J37 _ (by omega) J x0_.f1 0 0 x0_.f4 0 none 0 [] _ _ hE hS (Rd.nil _ _) H
    · rw [if_neg c13] at H
      refine cond_f hE (b := (x0_.f0 == 2)) rfl (beq_eq_false_iff_ne.2 c13) ?_
      refine wp_seq_k fun K15 hK15 => ?_
      refine plain (L := [0, 1]) rfl ?_
      refine ops_chain (S := Agr _) (.k 0 2 [(24, .bool (x0_.f0 == 8)), (23, .bool (x0_.f0 == 8))] (by kernel_rfl) .nil) (rest := []) hE (Agr.refl _) (fun a hE => ?_)
      refine ops_done ?_
      refine hK15 _ _ ?_
      by_cases c16 : x0_.f0 = 8
      · rw [if_pos c16] at H
        refine cond_t hE (b := (x0_.f0 == 8)) rfl (beq_iff_eq.2 c16) ?_
        refine plain (L := [0, 1, 2, 3, 4, 5, 6, 7]) rfl ?_
        refine ops_chain (S := Agr _) (.k 0 1 [(25, .pointer (some ⟨b2, 0, none⟩))] (by kernel_rfl) <| .v 1 26 rfl rfl rfl rfl (lb1 0 (.int .i64 x0_.f0) rfl rfl ag3 hb2 rfl) <| .k 2 1 [(27, .pointer (some ⟨b2, 5, none⟩))] (by kernel_rfl) <| .v 3 28 rfl rfl rfl rfl (lb1 5 (.int .i64 x0_.f5) rfl rfl ag3 hb2 rfl) <| .k 4 1 [(29, .pointer (some ⟨b2, 6, none⟩))] (by kernel_rfl) <| .v 5 30 rfl rfl rfl rfl (lb1 6 (.slice A0_6 x0_.f6.length c0_6) rfl rfl ag26 hb2 rfl) <| .v 6 31 rfl rfl rfl rfl (YA.s (x_build [(0, .int .i64 x0_.f0), (5, .int .i64 x0_.f5), (6, .slice A0_6 x0_.f6.length c0_6)] (.agg #[.int .i64 x0_.f0, .int .i64 0, .int .i64 0, .int .i64 0, .int .i64 0, .int .i64 x0_.f5, .slice A0_6 x0_.f6.length c0_6]) rfl rfl (fun w => by kernel_rfl))) .nil) (rest := [7]) hE (Agr.refl _) (fun a hE => ?_)
        replace hS := hS.front 1 rfl
        refine ops_eff 7 hE none rfl rfl rfl rfl (e_store (off := 0) hS rfl rfl rfl sz28 (Nat.le_of_ble_eq_true rfl) (all_one rfl) #[.int .i64 x0_.f0, .int .i64 0, .int .i64 0, .int .i64 0, .int .i64 0, .int .i64 x0_.f5, .slice A0_6 x0_.f6.length c0_6] rfl) ?_
        rintro _ u17 a ⟨rfl, hb2, hS, hz⟩ hE
        refine ops_done ?_
        obtain ⟨J, hE⟩ := hE.norm [(0, .agg #[.int .i64 x0_.f0, .int .i64 x0_.f1, .int .i64 x0_.f2, .int .i64 x0_.f3, .int .i64 x0_.f4, .int .i64 x0_.f5, .slice A0_6 x0_.f6.length c0_6]), (1, .pointer (some ⟨b2, 0, none⟩)), (2, .pointer (some ⟨b4, 0, none⟩)), (4, .int .i64 x0_.f0), (10, .bool (x0_.f0 == 1))] (.cons rfl <| .cons rfl <| .cons rfl <| .cons rfl <| .cons rfl .nil)
        exact J37 _ (by omega) J 0 0 0 0 x0_.f5 A0_6 c0_6 x0_.f6 _ _ hE hS g0_6 H
      · rw [if_neg c16] at H
        refine cond_f hE (b := (x0_.f0 == 8)) rfl (beq_eq_false_iff_ne.2 c16) ?_
        refine wp_seq_k fun K18 hK18 => ?_
        refine plain (L := [0, 1]) rfl ?_
        refine ops_chain (S := Agr _) (.k 0 2 [(33, .bool (x0_.f0 == 9)), (32, .bool (x0_.f0 == 9))] (by kernel_rfl) .nil) (rest := []) hE (Agr.refl _) (fun a hE => ?_)
        refine ops_done ?_
        refine hK18 _ _ ?_
        by_cases c19 : x0_.f0 = 9
        · rw [if_pos c19] at H
          refine cond_t hE (b := (x0_.f0 == 9)) rfl (beq_iff_eq.2 c19) ?_
          refine plain (L := [0, 1, 2, 3]) rfl ?_
          refine ops_chain (S := Agr _) (.k 0 1 [(34, .pointer (some ⟨b2, 0, none⟩))] (by kernel_rfl) <| .v 1 35 rfl rfl rfl rfl (lb1 0 (.int .i64 x0_.f0) rfl rfl ag3 hb2 rfl) <| .v 2 36 rfl rfl rfl rfl (YA.s (x_build [(0, .int .i64 x0_.f0)] (.agg #[.int .i64 x0_.f0, .int .i64 0, .int .i64 0, .int .i64 0, .int .i64 0, .int .i64 0, .slice none 0 0]) rfl rfl (fun w => by kernel_rfl))) .nil) (rest := [3]) hE (Agr.refl _) (fun a hE => ?_)
          replace hS := hS.front 1 rfl
          refine ops_eff 3 hE none rfl rfl rfl rfl (e_store (off := 0) hS rfl rfl rfl sz28 (Nat.le_of_ble_eq_true rfl) (all_one rfl) #[.int .i64 x0_.f0, .int .i64 0, .int .i64 0, .int .i64 0, .int .i64 0, .int .i64 0, .slice none 0 0] rfl) ?_
          rintro _ u20 a ⟨rfl, hb2, hS, hz⟩ hE
          refine ops_done ?_
          obtain ⟨J, hE⟩ := hE.norm [(0, .agg #[.int .i64 x0_.f0, .int .i64 x0_.f1, .int .i64 x0_.f2, .int .i64 x0_.f3, .int .i64 x0_.f4, .int .i64 x0_.f5, .slice A0_6 x0_.f6.length c0_6]), (1, .pointer (some ⟨b2, 0, none⟩)), (2, .pointer (some ⟨b4, 0, none⟩)), (4, .int .i64 x0_.f0), (10, .bool (x0_.f0 == 1))] (.cons rfl <| .cons rfl <| .cons rfl <| .cons rfl <| .cons rfl .nil)
          exact J37 _ (by omega) J 0 0 0 0 0 none 0 [] _ _ hE hS (Rd.nil _ _) H
        · rw [if_neg c19] at H
          refine cond_f hE (b := (x0_.f0 == 9)) rfl (beq_eq_false_iff_ne.2 c19) ?_
          refine wp_seq_k fun K21 hK21 => ?_
          refine plain (L := [0, 1]) rfl ?_
          refine ops_chain (S := Agr _) (.k 0 2 [(38, .bool (x0_.f0 == 10)), (37, .bool (x0_.f0 == 10))] (by kernel_rfl) .nil) (rest := []) hE (Agr.refl _) (fun a hE => ?_)
          refine ops_done ?_
          refine hK21 _ _ ?_
          by_cases c22 : x0_.f0 = 10
          · rw [if_pos c22] at H
            refine cond_t hE (b := (x0_.f0 == 10)) rfl (beq_iff_eq.2 c22) ?_
            refine plain (L := [0, 1, 2, 3, 4, 5, 6, 7]) rfl ?_
            refine ops_chain (S := Agr _) (.k 0 1 [(39, .pointer (some ⟨b2, 0, none⟩))] (by kernel_rfl) <| .v 1 40 rfl rfl rfl rfl (lb1 0 (.int .i64 x0_.f0) rfl rfl ag3 hb2 rfl) <| .k 2 1 [(41, .pointer (some ⟨b2, 5, none⟩))] (by kernel_rfl) <| .v 3 42 rfl rfl rfl rfl (lb1 5 (.int .i64 x0_.f5) rfl rfl ag3 hb2 rfl) <| .k 4 1 [(43, .pointer (some ⟨b2, 4, none⟩))] (by kernel_rfl) <| .v 5 44 rfl rfl rfl rfl (lb1 4 (.int .i64 x0_.f4) rfl rfl ag3 hb2 rfl) <| .v 6 45 rfl rfl rfl rfl (YA.s (x_build [(0, .int .i64 x0_.f0), (5, .int .i64 x0_.f5), (4, .int .i64 x0_.f4)] (.agg #[.int .i64 x0_.f0, .int .i64 0, .int .i64 0, .int .i64 0, .int .i64 x0_.f4, .int .i64 x0_.f5, .slice none 0 0]) rfl rfl (fun w => by kernel_rfl))) .nil) (rest := [7]) hE (Agr.refl _) (fun a hE => ?_)
            replace hS := hS.front 1 rfl
            refine ops_eff 7 hE none rfl rfl rfl rfl (e_store (off := 0) hS rfl rfl rfl sz28 (Nat.le_of_ble_eq_true rfl) (all_one rfl) #[.int .i64 x0_.f0, .int .i64 0, .int .i64 0, .int .i64 0, .int .i64 x0_.f4, .int .i64 x0_.f5, .slice none 0 0] rfl) ?_
            rintro _ u23 a ⟨rfl, hb2, hS, hz⟩ hE
            refine ops_done ?_
            obtain ⟨J, hE⟩ := hE.norm [(0, .agg #[.int .i64 x0_.f0, .int .i64 x0_.f1, .int .i64 x0_.f2, .int .i64 x0_.f3, .int .i64 x0_.f4, .int .i64 x0_.f5, .slice A0_6 x0_.f6.length c0_6]), (1, .pointer (some ⟨b2, 0, none⟩)), (2, .pointer (some ⟨b4, 0, none⟩)), (4, .int .i64 x0_.f0), (10, .bool (x0_.f0 == 1))] (.cons rfl <| .cons rfl <| .cons rfl <| .cons rfl <| .cons rfl .nil)
            exact J37 _ (by omega) J 0 0 0 x0_.f4 x0_.f5 none 0 [] _ _ hE hS (Rd.nil _ _) H
          · rw [if_neg c22] at H
            refine cond_f hE (b := (x0_.f0 == 10)) rfl (beq_eq_false_iff_ne.2 c22) ?_
            refine plain (L := [0, 1, 2, 3, 4, 5]) rfl ?_
            refine ops_chain (S := Agr _) (.k 0 1 [(5, .pointer (some ⟨b2, 0, none⟩))] (by kernel_rfl) <| .v 1 6 rfl rfl rfl rfl (lb1 0 (.int .i64 x0_.f0) rfl rfl ag3 hb2 rfl) <| .k 2 1 [(7, .pointer (some ⟨b2, 1, none⟩))] (by kernel_rfl) <| .v 3 8 rfl rfl rfl rfl (lb1 1 (.int .i64 x0_.f1) rfl rfl ag3 hb2 rfl) <| .v 4 9 rfl rfl rfl rfl (YA.s (x_build [(0, .int .i64 x0_.f0), (1, .int .i64 x0_.f1)] (.agg #[.int .i64 x0_.f0, .int .i64 x0_.f1, .int .i64 0, .int .i64 0, .int .i64 0, .int .i64 0, .slice none 0 0]) rfl rfl (fun w => by kernel_rfl))) .nil) (rest := [5]) hE (Agr.refl _) (fun a hE => ?_)
            replace hS := hS.front 1 rfl
            refine ops_eff 5 hE none rfl rfl rfl rfl (e_store (off := 0) hS rfl rfl rfl sz28 (Nat.le_of_ble_eq_true rfl) (all_one rfl) #[.int .i64 x0_.f0, .int .i64 x0_.f1, .int .i64 0, .int .i64 0, .int .i64 0, .int .i64 0, .slice none 0 0] rfl) ?_
            rintro _ u24 a ⟨rfl, hb2, hS, hz⟩ hE
            refine ops_done ?_
            obtain ⟨J, hE⟩ := hE.norm [(0, .agg #[.int .i64 x0_.f0, .int .i64 x0_.f1, .int .i64 x0_.f2, .int .i64 x0_.f3, .int .i64 x0_.f4, .int .i64 x0_.f5, .slice A0_6 x0_.f6.length c0_6]), (1, .pointer (some ⟨b2, 0, none⟩)), (2, .pointer (some ⟨b4, 0, none⟩)), (4, .int .i64 x0_.f0), (10, .bool (x0_.f0 == 1))] (.cons rfl <| .cons rfl <| .cons rfl <| .cons rfl <| .cons rfl .nil)
            exact J37 _ (by omega) J x0_.f1 0 0 0 0 none 0 [] _ _ hE hS (Rd.nil _ _) H

/-! ### windrose/acceptor.CheckDelta: function 23 -/
mutual
def acceptor_CheckDelta.j23 : Nat → S28 → Bool → Option Int
  | 0, _, _ => none
  | k + 1, x0_, y21 => if y21 = true then (some 1) else (if (([x0_.f1, x0_.f2, x0_.f3, x0_.f4, x0_.f5].length : Int) + (x0_.f6.length : Int)) * 8 ≤ 140737488355328 then (acceptor_CheckDelta.l41 k x0_ 0) else (none))
def acceptor_CheckDelta.l41 : Nat → S28 → Int → Option Int
  | 0, _, _ => none
  | k + 1, x0_, x40 => if x40 < (([x0_.f1, x0_.f2, x0_.f3, x0_.f4, x0_.f5] ++ x0_.f6).length : Int) then (if 0 ≤ x40 ∧ x40 < (([x0_.f1, x0_.f2, x0_.f3, x0_.f4, x0_.f5] ++ x0_.f6).length : Int) then ((acceptor_in.f (nth 0 ([x0_.f1, x0_.f2, x0_.f3, x0_.f4, x0_.f5] ++ x0_.f6) x40) 0 2147483647).bind fun t57 => (if t57 = true then (acceptor_CheckDelta.l41 k x0_ (w64 (x40 + 1))) else (some 1))) else (none)) else (some 0)
end
theorem acceptor_CheckDelta.j23_s (k : Nat) (x0_ : S28) (y21 : Bool) : acceptor_CheckDelta.j23 (k + 1) x0_ y21 = (if y21 = true then (some 1) else (if (([x0_.f1, x0_.f2, x0_.f3, x0_.f4, x0_.f5].length : Int) + (x0_.f6.length : Int)) * 8 ≤ 140737488355328 then (acceptor_CheckDelta.l41 k x0_ 0) else (none))) := by kernel_rfl
theorem acceptor_CheckDelta.l41_s (k : Nat) (x0_ : S28) (x40 : Int) : acceptor_CheckDelta.l41 (k + 1) x0_ x40 = (if x40 < (([x0_.f1, x0_.f2, x0_.f3, x0_.f4, x0_.f5] ++ x0_.f6).length : Int) then (if 0 ≤ x40 ∧ x40 < (([x0_.f1, x0_.f2, x0_.f3, x0_.f4, x0_.f5] ++ x0_.f6).length : Int) then ((acceptor_in.f (nth 0 ([x0_.f1, x0_.f2, x0_.f3, x0_.f4, x0_.f5] ++ x0_.f6) x40) 0 2147483647).bind fun t57 => (if t57 = true then (acceptor_CheckDelta.l41 k x0_ (w64 (x40 + 1))) else (some 1))) else (none)) else (some 0)) := by kernel_rfl
def acceptor_CheckDelta.f (k : Nat) (x0_ : S28) : Option Int := (acceptor_in.f x0_.f0 1 10).bind fun t6 => (if t6 = true then ((acceptor_bare.f k x0_).bind fun t10 => ((acceptor_SameDelta.f k x0_ t10).bind fun t17 => (if t17 = true then (acceptor_CheckDelta.j23 k x0_ (decide ((x0_.f6.length : Int) > 3))) else (acceptor_CheckDelta.j23 k x0_ true)))) else (acceptor_CheckDelta.j23 k x0_ true))
def acceptor_CheckDelta.Post (W F : World) (r : Int) (v : Value) (w' : World) : Prop := ∃ (F' : World), v = .int .i64 r ∧ St W (mine W []) F w' F' []
set_option maxHeartbeats 4000000 in
set_option maxRecDepth 100000 in
theorem acceptor_CheckDelta.calls (k : Nat) (x0_ : S28) (A0_6 : Option Addr) (c0_6 : Nat) (r : Int) (W F : World) (hsub : Sub F W) (g0_6 : Rd (Kn.int .i64) F A0_6 c0_6 x0_.f6) (H : acceptor_CheckDelta.f k x0_ = some r) :
    Calls Try.prog 23 #[.agg #[.int .i64 x0_.f0, .int .i64 x0_.f1, .int .i64 x0_.f2, .int .i64 x0_.f3, .int .i64 x0_.f4, .int .i64 x0_.f5, .slice A0_6 x0_.f6.length c0_6]] W fun e w' => ∃ v, e = .returned v ∧ acceptor_CheckDelta.Post W F r v w' := by
  have hS := St.start (Own.nil hsub)
  unfold acceptor_CheckDelta.f at H
  refine enter (n := 45) rfl rfl rfl (Nat.le_of_ble_eq_true rfl) (fun a hE => ?_)
  refine wp_seq_k fun K1 hK1 => ?_
  refine plain (L := [0, 1]) rfl ?_
  refine ops_eff 0 hE (some 1) rfl rfl rfl rfl (e_box hS rfl rfl #[.int .i64 x0_.f0, .int .i64 x0_.f1, .int .i64 x0_.f2, .int .i64 x0_.f3, .int .i64 x0_.f4, .int .i64 x0_.f5, .slice A0_6 x0_.f6.length c0_6] rfl) ?_
  rintro _ u3 a ⟨b2, rfl, hb2, hS, hg⟩ hE
  refine ops_chain (S := Agr _) (.k 1 1 [(2, .int .i64 0)] (by kernel_rfl) .nil) (rest := []) hE (Agr.refl _) (fun a hE => ?_)
  refine ops_done ?_
  refine hK1 _ _ ?_
  refine wp_seq_k fun K4 hK4 => ?_
  refine wp_seq_k fun K5 hK5 => ?_
  have J26 : ∀ kq24, kq24 ≤ k → ∀ (J : Nat → Value) (y21 : Bool) (F22 : World) (a : Act) (w' : World), Env 45 (updL J [(0, .agg #[.int .i64 x0_.f0, .int .i64 x0_.f1, .int .i64 x0_.f2, .int .i64 x0_.f3, .int .i64 x0_.f4, .int .i64 x0_.f5, .slice A0_6 x0_.f6.length c0_6]), (1, .pointer (some ⟨b2, 0, none⟩)), (2, .int .i64 0), (21, .bool y21)]) a → St W (mine W []) F w' F22 [box b2 #[.int .i64 x0_.f0, .int .i64 x0_.f1, .int .i64 x0_.f2, .int .i64 x0_.f3, .int .i64 x0_.f4, .int .i64 x0_.f5, .slice A0_6 x0_.f6.length c0_6] 28] → Rd (Kn.int .i64) F22 A0_6 c0_6 x0_.f6 → acceptor_CheckDelta.j23 kq24 x0_ y21 = some r → K5 a w' := by
    intro kq24 hkq J y21 F22 a u27 hE hS g0_6 H
    cases kq24 with
    | zero => cases (show none = some r from H)
    | succ k25 =>
      rw [acceptor_CheckDelta.j23_s] at H
      refine hK5 _ _ ?_
      by_cases c28 : y21 = true
      · rw [if_pos c28] at H
        refine cond_t hE (b := y21) rfl c28 ?_
        refine wp_seq_k fun K29 hK29 => ?_
        refine plain (L := [0]) rfl ?_
        refine ops_chain (S := Agr _) (.k 0 1 [(2, .int .i64 1)] (by kernel_rfl) .nil) (rest := []) hE (Agr.refl _) (fun a hE => ?_)
        refine ops_done ?_
        refine hK29 _ _ ?_
        refine wp_ret (then_ret ?_)
        replace hS := hS.tail
        obtain rfl := Option.some.inj H
        exact ret1 hE rfl (.tmp rfl .nil) ⟨_, rfl, _, rfl, hS⟩
      · rw [if_neg c28] at H
        refine cond_f hE (b := y21) rfl (eq_false_of_ne_true c28) ?_
        refine wp_skip ?_
        refine hK4 _ _ ?_
        refine wp_seq_k fun K30 hK30 => ?_
        refine wp_seq_k fun K31 hK31 => ?_
        refine plain (L := [0, 1, 2, 3, 4, 5, 6, 7, 8, 9, 10, 11, 12, 13, 14, 15]) rfl ?_
        have hb2 := hS.blk_at (i := 0) rfl
        refine ops_chain (S := Agr _) (.k 0 1 [(22, .pointer (some ⟨b2, 1, none⟩))] (by kernel_rfl) <| .v 1 23 rfl rfl rfl rfl (lb1 1 (.int .i64 x0_.f1) rfl rfl ag3 hb2 rfl) <| .k 2 1 [(24, .pointer (some ⟨b2, 2, none⟩))] (by kernel_rfl) <| .v 3 25 rfl rfl rfl rfl (lb1 2 (.int .i64 x0_.f2) rfl rfl ag3 hb2 rfl) <| .k 4 1 [(26, .pointer (some ⟨b2, 3, none⟩))] (by kernel_rfl) <| .v 5 27 rfl rfl rfl rfl (lb1 3 (.int .i64 x0_.f3) rfl rfl ag3 hb2 rfl) <| .k 6 1 [(28, .pointer (some ⟨b2, 4, none⟩))] (by kernel_rfl) <| .v 7 29 rfl rfl rfl rfl (lb1 4 (.int .i64 x0_.f4) rfl rfl ag3 hb2 rfl) <| .k 8 1 [(30, .pointer (some ⟨b2, 5, none⟩))] (by kernel_rfl) <| .v 9 31 rfl rfl rfl rfl (lb1 5 (.int .i64 x0_.f5) rfl rfl ag3 hb2 rfl) .nil) (rest := [10, 11, 12, 13, 14, 15]) hE (Agr.refl _) (fun a hE => ?_)
        refine ops_eff 10 hE (some 32) rfl rfl rfl rfl (e_lit (d := (Kn.int .i64)) (e := 3) hS [(0, .int .i64 x0_.f1), (1, .int .i64 x0_.f2), (2, .int .i64 x0_.f3), (3, .int .i64 x0_.f4), (4, .int .i64 x0_.f5)] [x0_.f1, x0_.f2, x0_.f3, x0_.f4, x0_.f5] (.cons rfl <| .cons rfl <| .cons rfl <| .cons rfl <| .cons rfl .nil) rfl rfl rfl rfl (by kernel_rfl)) ?_
        rintro _ u32 a ⟨A33, c34, rfl, hS, hg⟩ hE
        have hb2 := hS.blk_at (i := 1) rfl
        refine ops_chain (S := Agr _) (.k 11 1 [(33, .pointer (some ⟨b2, 6, none⟩))] (by kernel_rfl) <| .v 12 34 rfl rfl rfl rfl (lb1 6 (.slice A0_6 x0_.f6.length c0_6) rfl rfl ag26 hb2 rfl) .nil) (rest := [13, 14, 15]) hE (Agr.refl _) (fun a hE => ?_)
        by_cases c36 : (([x0_.f1, x0_.f2, x0_.f3, x0_.f4, x0_.f5].length : Int) + (x0_.f6.length : Int)) * 8 ≤ 140737488355328
        rotate_left
        · rw [if_neg c36] at H; cases H
        rw [if_pos c36] at H
        refine ops_eff 13 hE (some 35) rfl rfl rfl rfl (e_append (d := (Kn.int .i64)) hS rfl rfl rfl ud26 in3 rfl rfl rfl (g0_6.src hS.own.sub) c36) ?_
        rintro _ u39 a ⟨A37, c38, rfl, hS, hz⟩ hE
        refine ops_chain (S := Agr _) (.v 14 36 rfl rfl rfl rfl (YA.s (len_sl rfl rfl ud26)) <| .k 15 1 [(37, .int .i64 0)] (by kernel_rfl) .nil) (rest := []) hE (Agr.refl _) (fun a hE => ?_)
        refine ops_done ?_
        refine hK31 _ _ ?_
        refine wp_block ?_
        replace hS := hS.front 1 rfl
        obtain ⟨J, hE⟩ := hE.norm [(0, .agg #[.int .i64 x0_.f0, .int .i64 x0_.f1, .int .i64 x0_.f2, .int .i64 x0_.f3, .int .i64 x0_.f4, .int .i64 x0_.f5, .slice A0_6 x0_.f6.length c0_6]), (1, .pointer (some ⟨b2, 0, none⟩)), (2, .int .i64 0), (21, .bool y21), (35, .slice A37 (([x0_.f1, x0_.f2, x0_.f3, x0_.f4, x0_.f5] ++ x0_.f6).length) c38), (36, .int .i64 (([x0_.f1, x0_.f2, x0_.f3, x0_.f4, x0_.f5] ++ x0_.f6).length : Int)), (37, .int .i64 0)] (.cons rfl <| .cons rfl <| .cons rfl <| .cons rfl <| .cons rfl <| .cons rfl <| .cons rfl .nil)
        refine wp_loop_ghost (fun kq42 a w' => ∃ (J : Nat → Value) (x40 : Int), Env 45 (updL J [(0, .agg #[.int .i64 x0_.f0, .int .i64 x0_.f1, .int .i64 x0_.f2, .int .i64 x0_.f3, .int .i64 x0_.f4, .int .i64 x0_.f5, .slice A0_6 x0_.f6.length c0_6]), (1, .pointer (some ⟨b2, 0, none⟩)), (2, .int .i64 0), (21, .bool y21), (35, .slice A37 (([x0_.f1, x0_.f2, x0_.f3, x0_.f4, x0_.f5] ++ x0_.f6).length) c38), (36, .int .i64 (([x0_.f1, x0_.f2, x0_.f3, x0_.f4, x0_.f5] ++ x0_.f6).length : Int)), (37, .int .i64 x40)]) a ∧ St W (mine W []) F w' F22 [box b2 #[.int .i64 x0_.f0, .int .i64 x0_.f1, .int .i64 x0_.f2, .int .i64 x0_.f3, .int .i64 x0_.f4, .int .i64 x0_.f5, .slice A0_6 x0_.f6.length c0_6] 28, row (Kn.int .i64) 3 (.slice A37 (([x0_.f1, x0_.f2, x0_.f3, x0_.f4, x0_.f5] ++ x0_.f6).length) c38) ([x0_.f1, x0_.f2, x0_.f3, x0_.f4, x0_.f5] ++ x0_.f6)] ∧  acceptor_CheckDelta.l41 kq42 x0_ x40 = some r) k25 ⟨J, 0, hE, hS, H⟩ ?_
        rintro kq42 a u44 ⟨J, x40, hE, hS, H⟩
        cases kq42 with
        | zero => cases (show none = some r from H)
        | succ k43 =>
          rw [acceptor_CheckDelta.l41_s] at H
          refine wp_seq_k fun K45 hK45 => ?_
          refine plain (L := [0]) rfl ?_
          refine ops_chain (S := Agr _) (.k 0 1 [(38, .bool (decide (x40 < (([x0_.f1, x0_.f2, x0_.f3, x0_.f4, x0_.f5] ++ x0_.f6).length : Int))))] (by kernel_rfl) .nil) (rest := []) hE (Agr.refl _) (fun a hE => ?_)
          refine ops_done ?_
          refine hK45 _ _ ?_
          refine wp_seq_k fun K46 hK46 => ?_
          by_cases c47 : x40 < (([x0_.f1, x0_.f2, x0_.f3, x0_.f4, x0_.f5] ++ x0_.f6).length : Int)
          · rw [if_pos c47] at H
            refine cond_t hE (b := (decide (x40 < (([x0_.f1, x0_.f2, x0_.f3, x0_.f4, x0_.f5] ++ x0_.f6).length : Int)))) rfl (decide_eq_true c47) ?_
            refine wp_skip ?_
            refine hK46 _ _ ?_
            refine wp_seq_k fun K48 hK48 => ?_
            refine wp_block ?_
            refine wp_seq_k fun K49 hK49 => ?_
            refine plain (L := [0, 1, 2]) rfl ?_
            by_cases c50 : 0 ≤ x40 ∧ x40 < (([x0_.f1, x0_.f2, x0_.f3, x0_.f4, x0_.f5] ++ x0_.f6).length : Int)
            rotate_left
            · rw [if_neg c50] at H; cases H
            rw [if_pos c50] at H
            have hr51 := hS.row_at (i := 1) rfl
            obtain ⟨b52, rfl⟩ := row_addr hr51 c50.1 c50.2
            have hr_ := hS.row_at (i := 1) rfl
            obtain ⟨cs54, rfl, hc55⟩ := row_el hr_ 0 x40 c50.1 c50.2
            refine ops_chain (S := Agr _) (.v 0 39 rfl rfl rfl rfl (YA.s (ix 1 rfl rfl rfl ud26 sz3 c50.1 c50.2)) <| .v 1 40 rfl rfl rfl rfl (lo1 (.int .i64 (nth 0 ([x0_.f1, x0_.f2, x0_.f3, x0_.f4, x0_.f5] ++ x0_.f6) x40)) rfl rfl ag3 (hc55 0 _ rfl)) <| .k 2 1 [(4, .int .i64 (nth 0 ([x0_.f1, x0_.f2, x0_.f3, x0_.f4, x0_.f5] ++ x0_.f6) x40))] (by kernel_rfl) .nil) (rest := []) hE (Agr.refl _) (fun a hE => ?_)
            refine ops_done ?_
            refine hK49 _ _ ?_
            refine wp_seq_k fun K56 hK56 => ?_
            refine plain (L := [0, 1, 2]) rfl ?_
            refine ops_chain (S := Agr _) (.k 0 1 [(41, .int .i64 (nth 0 ([x0_.f1, x0_.f2, x0_.f3, x0_.f4, x0_.f5] ++ x0_.f6) x40))] (by kernel_rfl) .nil) (rest := [1, 2]) hE (Agr.refl _) (fun a hE => ?_)
            obtain ⟨t57, h58, H⟩ := Option.bind_eq_some_iff.mp H
            refine ops_eff 1 hE (some 42) rfl rfl rfl rfl (Eff.call en71 rfl [.int .i64 (nth 0 ([x0_.f1, x0_.f2, x0_.f3, x0_.f4, x0_.f5] ++ x0_.f6) x40), .int .i64 0, .int .i64 2147483647] rfl (acceptor_in.calls (nth 0 ([x0_.f1, x0_.f2, x0_.f3, x0_.f4, x0_.f5] ++ x0_.f6) x40) 0 2147483647 _ _ _ hS.own.sub h58)) ?_
            rintro _ u59 a ⟨_, rfl, hC⟩ hE
            replace hS := hS.lent hC
            refine ops_chain (S := Agr _) (.k 2 1 [(43, .bool (!t57))] (by kernel_rfl) .nil) (rest := []) hE (Agr.refl _) (fun a hE => ?_)
            refine ops_done ?_
            refine hK56 _ _ ?_
            by_cases c60 : t57 = true
            · rw [if_pos c60] at H
              refine cond_f hE (b := (!t57)) rfl (congrArg not c60) ?_
              refine wp_skip ?_
              refine hK48 _ _ ?_
              refine plain (L := [0, 1]) rfl ?_
              refine ops_chain (S := Agr _) (.k 0 2 [(44, .int .i64 (w64 (x40 + 1))), (37, .int .i64 (w64 (x40 + 1)))] (by kernel_rfl) .nil) (rest := []) hE (Agr.refl _) (fun a hE => ?_)
              refine ops_done ?_
              obtain ⟨J, hE⟩ := hE.norm [(0, .agg #[.int .i64 x0_.f0, .int .i64 x0_.f1, .int .i64 x0_.f2, .int .i64 x0_.f3, .int .i64 x0_.f4, .int .i64 x0_.f5, .slice A0_6 x0_.f6.length c0_6]), (1, .pointer (some ⟨b2, 0, none⟩)), (2, .int .i64 0), (21, .bool y21), (35, .slice (some ⟨b52, 0, none⟩) (([x0_.f1, x0_.f2, x0_.f3, x0_.f4, x0_.f5] ++ x0_.f6).length) c38), (36, .int .i64 (([x0_.f1, x0_.f2, x0_.f3, x0_.f4, x0_.f5] ++ x0_.f6).length : Int)), (37, .int .i64 (w64 (x40 + 1)))] (.cons rfl <| .cons rfl <| .cons rfl <| .cons rfl <| .cons rfl <| .cons rfl <| .cons rfl .nil)
              exact then_n ⟨k43, by omega, J, (w64 (x40 + 1)), hE, hS, H⟩
            · rw [if_neg c60] at H
              refine cond_t hE (b := (!t57)) rfl (congrArg not (eq_false_of_ne_true c60)) ?_
              refine wp_seq_k fun K61 hK61 => ?_
              refine plain (L := [0]) rfl ?_
              refine ops_chain (S := Agr _) (.k 0 1 [(2, .int .i64 1)] (by kernel_rfl) .nil) (rest := []) hE (Agr.refl _) (fun a hE => ?_)
              refine ops_done ?_
              refine hK61 _ _ ?_
              refine wp_ret (block_ret (then_ret (then_ret (block_ret (then_ret ?_)))))
              replace hS := hS.tail
              replace hS := hS.tail
              obtain rfl := Option.some.inj H
              exact ret1 hE rfl (.tmp rfl .nil) ⟨_, rfl, _, rfl, hS⟩
          · rw [if_neg c47] at H
            refine cond_f hE (b := (decide (x40 < (([x0_.f1, x0_.f2, x0_.f3, x0_.f4, x0_.f5] ++ x0_.f6).length : Int)))) rfl (decide_eq_false c47) ?_
            refine wp_exit ?_
            refine hK30 _ _ ?_
            refine wp_seq_k fun K62 hK62 => ?_
            refine plain (L := [0]) rfl ?_
            refine ops_chain (S := Agr _) (.k 0 1 [(2, .int .i64 0)] (by kernel_rfl) .nil) (rest := []) hE (Agr.refl _) (fun a hE => ?_)
            refine ops_done ?_
            refine hK62 _ _ ?_
            refine wp_ret ?_
            replace hS := hS.tail
            replace hS := hS.tail
            obtain rfl := Option.some.inj H
            exact ret1 hE rfl (.tmp rfl .nil) ⟨_, rfl, _, rfl, hS⟩
  refine drawn 17 [] mixed rfl (by kernel_rfl) (fun hst => ?_)
  replace hS := hS.drew
  have hb2 := hS.blk_at (i := 0) rfl
  refine many 3 hst hE (.k 0 1 [(5, .pointer (some ⟨b2, 0, none⟩))] (by kernel_rfl) <| .v 1 6 rfl rfl rfl rfl (lb1 0 (.int .i64 x0_.f0) rfl rfl ag3 hb2 rfl) .nil) (by kernel_rfl) (fun a hE => ?_)
  obtain ⟨t6, h7, H⟩ := Option.bind_eq_some_iff.mp H
  refine one 2 7 hE (some 7) rfl rfl rfl rfl (by kernel_rfl) (Eff.call en71 rfl [.int .i64 x0_.f0, .int .i64 1, .int .i64 10] rfl (acceptor_in.calls x0_.f0 1 10 _ _ _ hS.own.sub h7)) ?_
  rintro _ u8 a ⟨_, rfl, hC⟩ hE
  refine ⟨fun _ => hC.agr, ?_⟩
  replace hS := hS.lent hC
  refine many 31 hst hE (.k 3 2 [(8, .bool (!t6)), (9, .bool (!t6))] (by kernel_rfl) .nil) (by kernel_rfl) (fun a hE => ?_)
  by_cases c9 : t6 = true
  · rw [if_pos c9] at H
    obtain ⟨J, hE⟩ := hE.norm [(0, .agg #[.int .i64 x0_.f0, .int .i64 x0_.f1, .int .i64 x0_.f2, .int .i64 x0_.f3, .int .i64 x0_.f4, .int .i64 x0_.f5, .slice A0_6 x0_.f6.length c0_6]), (1, .pointer (some ⟨b2, 0, none⟩)), (2, .int .i64 0), (9, .bool false)] (.cons rfl <| .cons rfl <| .cons rfl <| .cons (Eq.trans (b := .bool (!t6)) rfl (congrArg Value.bool (congrArg not c9))) .nil)
    have hb2 := hS.blk_at (i := 0) rfl
    refine many 127 hst hE (.v 5 10 rfl rfl rfl rfl (lbn 0 [.int .i64 x0_.f0, .int .i64 x0_.f1, .int .i64 x0_.f2, .int .i64 x0_.f3, .int .i64 x0_.f4, .int .i64 x0_.f5, .slice A0_6 x0_.f6.length c0_6] rfl rfl ag28 sz28 hb2 rfl) <| .v 6 11 rfl rfl rfl rfl (lbn 0 [.int .i64 x0_.f0, .int .i64 x0_.f1, .int .i64 x0_.f2, .int .i64 x0_.f3, .int .i64 x0_.f4, .int .i64 x0_.f5, .slice A0_6 x0_.f6.length c0_6] rfl rfl ag28 sz28 hb2 rfl) .nil) (by kernel_rfl) (fun a hE => ?_)
    obtain ⟨t10, h11, H⟩ := Option.bind_eq_some_iff.mp H
    refine one 7 255 hE (some 12) rfl rfl rfl rfl (by kernel_rfl) (Eff.call en77 rfl [.agg #[.int .i64 x0_.f0, .int .i64 x0_.f1, .int .i64 x0_.f2, .int .i64 x0_.f3, .int .i64 x0_.f4, .int .i64 x0_.f5, .slice A0_6 x0_.f6.length c0_6]] rfl (acceptor_bare.calls k x0_ _ _ _ _ _ hS.own.sub g0_6 h11)) ?_
    rintro _ u12 a ⟨F13, A14, c15, rfl, hC, g16⟩ hE
    refine ⟨fun _ => hC.agr, ?_⟩
    have hs := hC.sub
    replace hS : St W (mine W []) F u12 F13 [box b2 #[.int .i64 x0_.f0, .int .i64 x0_.f1, .int .i64 x0_.f2, .int .i64 x0_.f3, .int .i64 x0_.f4, .int .i64 x0_.f5, .slice A0_6 x0_.f6.length c0_6] 28] := hS.called (X := []) (Y := []) hC
    replace g0_6 := g0_6.mono hs
    obtain ⟨t17, h18, H⟩ := Option.bind_eq_some_iff.mp H
    refine one 8 511 hE (some 13) rfl rfl rfl rfl (by kernel_rfl) (Eff.call en76 rfl [.agg #[.int .i64 x0_.f0, .int .i64 x0_.f1, .int .i64 x0_.f2, .int .i64 x0_.f3, .int .i64 x0_.f4, .int .i64 x0_.f5, .slice A0_6 x0_.f6.length c0_6], .agg #[.int .i64 t10.f0, .int .i64 t10.f1, .int .i64 t10.f2, .int .i64 t10.f3, .int .i64 t10.f4, .int .i64 t10.f5, .slice A14 t10.f6.length c15]] rfl (acceptor_SameDelta.calls k x0_ t10 _ _ _ _ _ _ _ hS.own.sub g0_6 g16 h18)) ?_
    rintro _ u19 a ⟨_, rfl, hC⟩ hE
    refine ⟨fun _ => hC.agr, ?_⟩
    replace hS := hS.lent hC
    refine many 4095 hst hE (.k 9 3 [(14, .bool (!t17)), (15, .bool (!t17)), (16, .bool (!t17))] (by kernel_rfl) .nil) (by kernel_rfl) (fun a hE => ?_)
    by_cases c20 : t17 = true
    · rw [if_pos c20] at H
      obtain ⟨J, hE⟩ := hE.norm [(0, .agg #[.int .i64 x0_.f0, .int .i64 x0_.f1, .int .i64 x0_.f2, .int .i64 x0_.f3, .int .i64 x0_.f4, .int .i64 x0_.f5, .slice A0_6 x0_.f6.length c0_6]), (1, .pointer (some ⟨b2, 0, none⟩)), (2, .int .i64 0), (10, .agg #[.int .i64 x0_.f0, .int .i64 x0_.f1, .int .i64 x0_.f2, .int .i64 x0_.f3, .int .i64 x0_.f4, .int .i64 x0_.f5, .slice A0_6 x0_.f6.length c0_6]), (11, .agg #[.int .i64 x0_.f0, .int .i64 x0_.f1, .int .i64 x0_.f2, .int .i64 x0_.f3, .int .i64 x0_.f4, .int .i64 x0_.f5, .slice A0_6 x0_.f6.length c0_6]), (12, .agg #[.int .i64 t10.f0, .int .i64 t10.f1, .int .i64 t10.f2, .int .i64 t10.f3, .int .i64 t10.f4, .int .i64 t10.f5, .slice A14 t10.f6.length c15]), (13, .bool true), (14, .bool false), (16, .bool false)] (.cons rfl <| .cons rfl <| .cons rfl <| .cons rfl <| .cons rfl <| .cons rfl <| .cons (Eq.trans (b := .bool t17) rfl (congrArg Value.bool c20)) <| .cons (Eq.trans (b := .bool (!t17)) rfl (congrArg Value.bool (congrArg not c20))) <| .cons (Eq.trans (b := .bool (!t17)) rfl (congrArg Value.bool (congrArg not c20))) .nil)
      have hb2 := hS.blk_at (i := 0) rfl
      refine many 131071 hst hE (.k 12 1 [(17, .pointer (some ⟨b2, 6, none⟩))] (by kernel_rfl) <| .v 13 18 rfl rfl rfl rfl (lb1 6 (.slice A0_6 x0_.f6.length c0_6) rfl rfl ag26 hb2 rfl) <| .q 14 19 rfl rfl rfl rfl (len_sl rfl rfl ud26) <| .k 15 2 [(20, .bool (decide ((x0_.f6.length : Int) > 3))), (21, .bool (decide ((x0_.f6.length : Int) > 3)))] (by kernel_rfl) .nil) (by kernel_rfl) (fun a hE => ?_)
      refine all_done (by kernel_rfl) ?_
      obtain ⟨J, hE⟩ := hE.norm [(0, .agg #[.int .i64 x0_.f0, .int .i64 x0_.f1, .int .i64 x0_.f2, .int .i64 x0_.f3, .int .i64 x0_.f4, .int .i64 x0_.f5, .slice A0_6 x0_.f6.length c0_6]), (1, .pointer (some ⟨b2, 0, none⟩)), (2, .int .i64 0), (21, .bool (decide ((x0_.f6.length : Int) > 3)))] (.cons rfl <| .cons rfl <| .cons rfl <| .cons rfl .nil)
      exact J26 _ (by omega) J (decide ((x0_.f6.length : Int) > 3)) F13 _ _ hE hS g0_6 H
    · rw [if_neg c20] at H
      obtain ⟨J, hE⟩ := hE.norm [(0, .agg #[.int .i64 x0_.f0, .int .i64 x0_.f1, .int .i64 x0_.f2, .int .i64 x0_.f3, .int .i64 x0_.f4, .int .i64 x0_.f5, .slice A0_6 x0_.f6.length c0_6]), (1, .pointer (some ⟨b2, 0, none⟩)), (2, .int .i64 0), (10, .agg #[.int .i64 x0_.f0, .int .i64 x0_.f1, .int .i64 x0_.f2, .int .i64 x0_.f3, .int .i64 x0_.f4, .int .i64 x0_.f5, .slice A0_6 x0_.f6.length c0_6]), (11, .agg #[.int .i64 x0_.f0, .int .i64 x0_.f1, .int .i64 x0_.f2, .int .i64 x0_.f3, .int .i64 x0_.f4, .int .i64 x0_.f5, .slice A0_6 x0_.f6.length c0_6]), (12, .agg #[.int .i64 t10.f0, .int .i64 t10.f1, .int .i64 t10.f2, .int .i64 t10.f3, .int .i64 t10.f4, .int .i64 t10.f5, .slice A14 t10.f6.length c15]), (13, .bool false), (14, .bool true), (16, .bool true)] (.cons rfl <| .cons rfl <| .cons rfl <| .cons rfl <| .cons rfl <| .cons rfl <| .cons (Eq.trans (b := .bool t17) rfl (congrArg Value.bool (eq_false_of_ne_true c20))) <| .cons (Eq.trans (b := .bool (!t17)) rfl (congrArg Value.bool (congrArg not (eq_false_of_ne_true c20)))) <| .cons (Eq.trans (b := .bool (!t17)) rfl (congrArg Value.bool (congrArg not (eq_false_of_ne_true c20)))) .nil)
      refine many 131071 hst hE (.k 12 5 [(17, undef), (18, undef), (19, undef), (20, undef), (21, .bool true)] (by kernel_rfl) .nil) (by kernel_rfl) (fun a hE => ?_)
      refine all_done (by kernel_rfl) ?_
      obtain ⟨J, hE⟩ := hE.norm [(0, .agg #[.int .i64 x0_.f0, .int .i64 x0_.f1, .int .i64 x0_.f2, .int .i64 x0_.f3, .int .i64 x0_.f4, .int .i64 x0_.f5, .slice A0_6 x0_.f6.length c0_6]), (1, .pointer (some ⟨b2, 0, none⟩)), (2, .int .i64 0), (21, .bool true)] (.cons rfl <| .cons rfl <| .cons rfl <| .cons rfl .nil)
      exact J26 _ (by omega) J true F13 _ _ hE hS g0_6 H
  · rw [if_neg c9] at H
    obtain ⟨J, hE⟩ := hE.norm [(0, .agg #[.int .i64 x0_.f0, .int .i64 x0_.f1, .int .i64 x0_.f2, .int .i64 x0_.f3, .int .i64 x0_.f4, .int .i64 x0_.f5, .slice A0_6 x0_.f6.length c0_6]), (1, .pointer (some ⟨b2, 0, none⟩)), (2, .int .i64 0), (9, .bool true)] (.cons rfl <| .cons rfl <| .cons rfl <| .cons (Eq.trans (b := .bool (!t6)) rfl (congrArg Value.bool (congrArg not (eq_false_of_ne_true c9)))) .nil)
    refine many 131071 hst hE (.k 5 12 [(10, undef), (11, undef), (12, undef), (13, undef), (14, undef), (15, .bool true), (16, .bool true), (17, undef), (18, undef), (19, undef), (20, undef), (21, .bool true)] (by kernel_rfl) .nil) (by kernel_rfl) (fun a hE => ?_)
    refine all_done (by kernel_rfl) ?_
    obtain ⟨J, hE⟩ := hE.norm [(0, .agg #[.int .i64 x0_.f0, .int .i64 x0_.f1, .int .i64 x0_.f2, .int .i64 x0_.f3, .int .i64 x0_.f4, .int .i64 x0_.f5, .slice A0_6 x0_.f6.length c0_6]), (1, .pointer (some ⟨b2, 0, none⟩)), (2, .int .i64 0), (21, .bool true)] (.cons rfl <| .cons rfl <| .cons rfl <| .cons rfl .nil)
    exact J26 _ (by omega) J true F _ _ hE hS g0_6 H

/-! ### windrose/acceptor.same: function 73 -/
def acceptor_same.f (k : Nat) (x0_ : S49) (x1_ : S49) : Option Bool := if x0_.f0 = x1_.f0 then ((acceptor_SameDelta.f k x0_.f1 x1_.f1).bind fun t8 => (some t8)) else (some false)
def acceptor_same.Post (W F : World) (r : Bool) (v : Value) (w' : World) : Prop := ∃ (F' : World), v = .bool r ∧ St W (mine W []) F w' F' []
set_option maxHeartbeats 4000000 in
set_option maxRecDepth 100000 in
theorem acceptor_same.calls (k : Nat) (x0_ : S49) (x1_ : S49) (A0_7 : Option Addr) (c0_7 : Nat) (A1_7 : Option Addr) (c1_7 : Nat) (r : Bool) (W F : World) (hsub : Sub F W) (g0_7 : Rd (Kn.int .i64) F A0_7 c0_7 x0_.f1.f6) (g1_7 : Rd (Kn.int .i64) F A1_7 c1_7 x1_.f1.f6) (H : acceptor_same.f k x0_ x1_ = some r) :
    Calls Try.prog 73 #[.agg #[.int .i64 x0_.f0, .int .i64 x0_.f1.f0, .int .i64 x0_.f1.f1, .int .i64 x0_.f1.f2, .int .i64 x0_.f1.f3, .int .i64 x0_.f1.f4, .int .i64 x0_.f1.f5, .slice A0_7 x0_.f1.f6.length c0_7], .agg #[.int .i64 x1_.f0, .int .i64 x1_.f1.f0, .int .i64 x1_.f1.f1, .int .i64 x1_.f1.f2, .int .i64 x1_.f1.f3, .int .i64 x1_.f1.f4, .int .i64 x1_.f1.f5, .slice A1_7 x1_.f1.f6.length c1_7]] W fun e w' => ∃ v, e = .returned v ∧ acceptor_same.Post W F r v w' := by
  have hS := St.start (Own.nil hsub)
  unfold acceptor_same.f at H
  refine enter (n := 17) rfl rfl rfl (Nat.le_of_ble_eq_true rfl) (fun a hE => ?_)
  refine wp_seq_k fun K1 hK1 => ?_
  refine plain (L := [0, 1, 2]) rfl ?_
  refine ops_eff 0 hE (some 2) rfl rfl rfl rfl (e_box hS rfl rfl #[.int .i64 x0_.f0, .int .i64 x0_.f1.f0, .int .i64 x0_.f1.f1, .int .i64 x0_.f1.f2, .int .i64 x0_.f1.f3, .int .i64 x0_.f1.f4, .int .i64 x0_.f1.f5, .slice A0_7 x0_.f1.f6.length c0_7] rfl) ?_
  rintro _ u3 a ⟨b2, rfl, hb2, hS, hg⟩ hE
  refine ops_eff 1 hE (some 3) rfl rfl rfl rfl (e_box hS rfl rfl #[.int .i64 x1_.f0, .int .i64 x1_.f1.f0, .int .i64 x1_.f1.f1, .int .i64 x1_.f1.f2, .int .i64 x1_.f1.f3, .int .i64 x1_.f1.f4, .int .i64 x1_.f1.f5, .slice A1_7 x1_.f1.f6.length c1_7] rfl) ?_
  rintro _ u5 a ⟨b4, rfl, hb4, hS, hg⟩ hE
  refine ops_chain (S := Agr _) (.k 2 1 [(4, .bool false)] (by kernel_rfl) .nil) (rest := []) hE (Agr.refl _) (fun a hE => ?_)
  refine ops_done ?_
  refine hK1 _ _ ?_
  refine wp_seq_k fun K6 hK6 => ?_
  refine plain (L := [0, 1, 2, 3, 4, 5, 6, 7, 8, 9, 10, 11, 12]) rfl ?_
  have hb2 := hS.blk_at (i := 1) rfl
  refine ops_chain (S := Agr _) (.k 0 1 [(5, .pointer (some ⟨b2, 0, none⟩))] (by kernel_rfl) <| .v 1 6 rfl rfl rfl rfl (lb1 0 (.int .i64 x0_.f0) rfl rfl ag3 hb2 rfl) <| .k 2 1 [(7, .pointer (some ⟨b4, 0, none⟩))] (by kernel_rfl) <| .v 3 8 rfl rfl rfl rfl (lb1 0 (.int .i64 x1_.f0) rfl rfl ag3 hb4 rfl) <| .k 4 2 [(9, .bool (x0_.f0 == x1_.f0)), (10, .bool (x0_.f0 == x1_.f0))] (by kernel_rfl) .nil) (rest := [6, 7, 8, 9, 10, 11, 12]) hE (Agr.refl _) (fun a hE => ?_)
  by_cases c7 : x0_.f0 = x1_.f0
  · rw [if_pos c7] at H
    obtain ⟨J, hE⟩ := hE.norm [(0, .agg #[.int .i64 x0_.f0, .int .i64 x0_.f1.f0, .int .i64 x0_.f1.f1, .int .i64 x0_.f1.f2, .int .i64 x0_.f1.f3, .int .i64 x0_.f1.f4, .int .i64 x0_.f1.f5, .slice A0_7 x0_.f1.f6.length c0_7]), (1, .agg #[.int .i64 x1_.f0, .int .i64 x1_.f1.f0, .int .i64 x1_.f1.f1, .int .i64 x1_.f1.f2, .int .i64 x1_.f1.f3, .int .i64 x1_.f1.f4, .int .i64 x1_.f1.f5, .slice A1_7 x1_.f1.f6.length c1_7]), (2, .pointer (some ⟨b2, 0, none⟩)), (3, .pointer (some ⟨b4, 0, none⟩)), (4, .bool false), (10, .bool true)] (.cons rfl <| .cons rfl <| .cons rfl <| .cons rfl <| .cons rfl <| .cons (Eq.trans (b := .bool (x0_.f0 == x1_.f0)) rfl (congrArg Value.bool (beq_iff_eq.2 c7))) .nil)
    refine ops_chain (S := Agr _) (.k 6 1 [(11, .pointer (some ⟨b2, 1, none⟩))] (by kernel_rfl) <| .v 7 12 rfl rfl rfl rfl (lbn 1 [.int .i64 x0_.f1.f0, .int .i64 x0_.f1.f1, .int .i64 x0_.f1.f2, .int .i64 x0_.f1.f3, .int .i64 x0_.f1.f4, .int .i64 x0_.f1.f5, .slice A0_7 x0_.f1.f6.length c0_7] rfl rfl ag28 sz28 hb2 rfl) <| .k 8 1 [(13, .pointer (some ⟨b4, 1, none⟩))] (by kernel_rfl) <| .v 9 14 rfl rfl rfl rfl (lbn 1 [.int .i64 x1_.f1.f0, .int .i64 x1_.f1.f1, .int .i64 x1_.f1.f2, .int .i64 x1_.f1.f3, .int .i64 x1_.f1.f4, .int .i64 x1_.f1.f5, .slice A1_7 x1_.f1.f6.length c1_7] rfl rfl ag28 sz28 hb4 rfl) .nil) (rest := [10, 11, 12]) hE (Agr.refl _) (fun a hE => ?_)
    obtain ⟨t8, h9, H⟩ := Option.bind_eq_some_iff.mp H
    refine ops_eff 10 hE (some 15) rfl rfl rfl rfl (Eff.call en76 rfl [.agg #[.int .i64 x0_.f1.f0, .int .i64 x0_.f1.f1, .int .i64 x0_.f1.f2, .int .i64 x0_.f1.f3, .int .i64 x0_.f1.f4, .int .i64 x0_.f1.f5, .slice A0_7 x0_.f1.f6.length c0_7], .agg #[.int .i64 x1_.f1.f0, .int .i64 x1_.f1.f1, .int .i64 x1_.f1.f2, .int .i64 x1_.f1.f3, .int .i64 x1_.f1.f4, .int .i64 x1_.f1.f5, .slice A1_7 x1_.f1.f6.length c1_7]] rfl (acceptor_SameDelta.calls k x0_.f1 x1_.f1 _ _ _ _ _ _ _ hS.own.sub g0_7 g1_7 h9)) ?_
    rintro _ u10 a ⟨_, rfl, hC⟩ hE
    replace hS := hS.lent hC
    refine ops_chain (S := Agr _) (.k 11 2 [(16, .bool t8), (4, .bool t8)] (by kernel_rfl) .nil) (rest := []) hE (Agr.refl _) (fun a hE => ?_)
    refine ops_done ?_
    refine hK6 _ _ ?_
    refine wp_ret ?_
    replace hS := hS.tail
    replace hS := hS.tail
    obtain rfl := Option.some.inj H
    exact ret1 hE rfl (.tmp rfl .nil) ⟨_, rfl, _, rfl, hS⟩
  · rw [if_neg c7] at H
    obtain ⟨J, hE⟩ := hE.norm [(0, .agg #[.int .i64 x0_.f0, .int .i64 x0_.f1.f0, .int .i64 x0_.f1.f1, .int .i64 x0_.f1.f2, .int .i64 x0_.f1.f3, .int .i64 x0_.f1.f4, .int .i64 x0_.f1.f5, .slice A0_7 x0_.f1.f6.length c0_7]), (1, .agg #[.int .i64 x1_.f0, .int .i64 x1_.f1.f0, .int .i64 x1_.f1.f1, .int .i64 x1_.f1.f2, .int .i64 x1_.f1.f3, .int .i64 x1_.f1.f4, .int .i64 x1_.f1.f5, .slice A1_7 x1_.f1.f6.length c1_7]), (2, .pointer (some ⟨b2, 0, none⟩)), (3, .pointer (some ⟨b4, 0, none⟩)), (4, .bool false), (10, .bool false)] (.cons rfl <| .cons rfl <| .cons rfl <| .cons rfl <| .cons rfl <| .cons (Eq.trans (b := .bool (x0_.f0 == x1_.f0)) rfl (congrArg Value.bool (beq_eq_false_iff_ne.2 c7))) .nil)
    refine ops_chain (S := Agr _) (.k 6 7 [(11, undef), (12, undef), (13, undef), (14, undef), (15, undef), (16, .bool false), (4, .bool false)] (by kernel_rfl) .nil) (rest := []) hE (Agr.refl _) (fun a hE => ?_)
    refine ops_done ?_
    refine hK6 _ _ ?_
    refine wp_ret ?_
    replace hS := hS.tail
    replace hS := hS.tail
    obtain rfl := Option.some.inj H
    exact ret1 hE rfl (.tmp rfl .nil) ⟨_, rfl, _, rfl, hS⟩

end Go.Proofs.Ytilgmccdpddeoaa.SX
