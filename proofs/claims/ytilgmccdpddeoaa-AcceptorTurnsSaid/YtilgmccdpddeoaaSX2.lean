/- Functions of the program, what each computes (written by wip/s/sl.py). -/
import Derived.Test.YtilgmccdpddeoaaSX1
namespace Go.Proofs.Ytilgmccdpddeoaa.SX
open Go Go.RowKit Go.Proofs.Ytilgmccdpddeoaa.Sl
set_option linter.unusedVariables false
set_option linter.unusedSimpArgs false
/-! ### windrose/acceptor.Check: function 21 -/
mutual
def acceptor_Check.j22 : Nat → S24 → Bool → Option Int
  | 0, _, _ => none
  | k + 1, x0_, y21 => if y21 = true then (some 1) else (acceptor_Check.l32 k x0_ 0)
def acceptor_Check.l32 : Nat → S24 → Int → Option Int
  | 0, _, _ => none
  | k + 1, x0_, x31 => if x31 < (x0_.f1.length : Int) then (if 0 ≤ x31 ∧ x31 < (x0_.f1.length : Int) then ((acceptor_same.f k (⟨(nth z49 x0_.f1 x31).f0, (⟨(nth z49 x0_.f1 x31).f1.f0, (nth z49 x0_.f1 x31).f1.f1, (nth z49 x0_.f1 x31).f1.f2, (nth z49 x0_.f1 x31).f1.f3, (nth z49 x0_.f1 x31).f1.f4, (nth z49 x0_.f1 x31).f1.f5, (nth z49 x0_.f1 x31).f1.f6⟩ : S28)⟩ : S49) (⟨0, (⟨0, 0, 0, 0, 0, 0, []⟩ : S28)⟩ : S49)).bind fun t53 => (if t53 = true then (acceptor_Check.j65 k x0_ x31 false) else ((acceptor_in.f ((nth z49 x0_.f1 x31).f0) 1 x0_.f0).bind fun t57 => (if t57 = true then ((acceptor_CheckDelta.f k (⟨(nth z49 x0_.f1 x31).f1.f0, (nth z49 x0_.f1 x31).f1.f1, (nth z49 x0_.f1 x31).f1.f2, (nth z49 x0_.f1 x31).f1.f3, (nth z49 x0_.f1 x31).f1.f4, (nth z49 x0_.f1 x31).f1.f5, (nth z49 x0_.f1 x31).f1.f6⟩ : S28)).bind fun t61 => (acceptor_Check.j65 k x0_ x31 (!(t61 == 0)))) else (acceptor_Check.j65 k x0_ x31 true))))) else (none)) else (some 0)
def acceptor_Check.j65 : Nat → S24 → Int → Bool → Option Int
  | 0, _, _, _ => none
  | k + 1, x0_, x31, y64 => if y64 = true then (some 1) else (acceptor_Check.l32 k x0_ (w64 (x31 + 1)))
end
theorem acceptor_Check.j22_s (k : Nat) (x0_ : S24) (y21 : Bool) : acceptor_Check.j22 (k + 1) x0_ y21 = (if y21 = true then (some 1) else (acceptor_Check.l32 k x0_ 0)) := by kernel_rfl
theorem acceptor_Check.l32_s (k : Nat) (x0_ : S24) (x31 : Int) : acceptor_Check.l32 (k + 1) x0_ x31 = (if x31 < (x0_.f1.length : Int) then (if 0 ≤ x31 ∧ x31 < (x0_.f1.length : Int) then ((acceptor_same.f k (⟨(nth z49 x0_.f1 x31).f0, (⟨(nth z49 x0_.f1 x31).f1.f0, (nth z49 x0_.f1 x31).f1.f1, (nth z49 x0_.f1 x31).f1.f2, (nth z49 x0_.f1 x31).f1.f3, (nth z49 x0_.f1 x31).f1.f4, (nth z49 x0_.f1 x31).f1.f5, (nth z49 x0_.f1 x31).f1.f6⟩ : S28)⟩ : S49) (⟨0, (⟨0, 0, 0, 0, 0, 0, []⟩ : S28)⟩ : S49)).bind fun t53 => (if t53 = true then (acceptor_Check.j65 k x0_ x31 false) else ((acceptor_in.f ((nth z49 x0_.f1 x31).f0) 1 x0_.f0).bind fun t57 => (if t57 = true then ((acceptor_CheckDelta.f k (⟨(nth z49 x0_.f1 x31).f1.f0, (nth z49 x0_.f1 x31).f1.f1, (nth z49 x0_.f1 x31).f1.f2, (nth z49 x0_.f1 x31).f1.f3, (nth z49 x0_.f1 x31).f1.f4, (nth z49 x0_.f1 x31).f1.f5, (nth z49 x0_.f1 x31).f1.f6⟩ : S28)).bind fun t61 => (acceptor_Check.j65 k x0_ x31 (!(t61 == 0)))) else (acceptor_Check.j65 k x0_ x31 true))))) else (none)) else (some 0)) := by kernel_rfl
theorem acceptor_Check.j65_s (k : Nat) (x0_ : S24) (x31 : Int) (y64 : Bool) : acceptor_Check.j65 (k + 1) x0_ x31 y64 = (if y64 = true then (some 1) else (acceptor_Check.l32 k x0_ (w64 (x31 + 1)))) := by kernel_rfl
def acceptor_Check.f (k : Nat) (x0_ : S24) : Option Int := (acceptor_in.f x0_.f0 0 2147483647).bind fun t7 => (if t7 = true then (if (x0_.f1.length : Int) > 256 then (acceptor_Check.j22 k x0_ true) else (if (x0_.f1.length : Int) > 0 then (if 0 ≤ (w64 ((x0_.f1.length : Int) - 1)) ∧ (w64 ((x0_.f1.length : Int) - 1)) < (x0_.f1.length : Int) then (acceptor_Check.j22 k x0_ ((nth z49 x0_.f1 (w64 ((x0_.f1.length : Int) - 1))).f0 == 0)) else (none)) else (acceptor_Check.j22 k x0_ false))) else (acceptor_Check.j22 k x0_ true))
def acceptor_Check.Post (W F : World) (r : Int) (v : Value) (w' : World) : Prop := ∃ (F' : World), v = .int .i64 r ∧ St W (mine W []) F w' F' []
set_option maxHeartbeats 4000000 in
set_option maxRecDepth 100000 in
theorem acceptor_Check.calls (k : Nat) (x0_ : S24) (A0_1 : Option Addr) (c0_1 : Nat) (r : Int) (W F : World) (hsub : Sub F W) (g0_1 : Rd k49 F A0_1 c0_1 x0_.f1) (H : acceptor_Check.f k x0_ = some r) :
    Calls Try.prog 21 #[.agg #[.int .i64 x0_.f0, .slice A0_1 x0_.f1.length c0_1]] W fun e w' => ∃ v, e = .returned v ∧ acceptor_Check.Post W F r v w' := by
  have hS := St.start (Own.nil hsub)
  unfold acceptor_Check.f at H
  refine enter (n := 57) rfl rfl rfl (Nat.le_of_ble_eq_true rfl) (fun a hE => ?_)
  refine wp_seq_k fun K1 hK1 => ?_
  refine plain (L := [0, 1]) rfl ?_
  refine ops_eff 0 hE (some 1) rfl rfl rfl rfl (e_box hS rfl rfl #[.int .i64 x0_.f0, .slice A0_1 x0_.f1.length c0_1] rfl) ?_
  rintro _ u3 a ⟨b2, rfl, hb2, hS, hg⟩ hE
  refine ops_chain (S := Agr _) (.k 1 1 [(2, .int .i64 0)] (by kernel_rfl) .nil) (rest := []) hE (Agr.refl _) (fun a hE => ?_)
  refine ops_done ?_
  refine hK1 _ _ ?_
  refine wp_seq_k fun K4 hK4 => ?_
  refine plain (L := [0, 1, 2, 3]) rfl ?_
  refine ops_chain (S := Agr _) (.k 0 1 [(6, .pointer (some ⟨b2, 1, none⟩))] (by kernel_rfl) <| .v 1 7 rfl rfl rfl rfl (lb1 1 (.slice A0_1 x0_.f1.length c0_1) rfl rfl ag22 hb2 rfl) <| .v 2 8 rfl rfl rfl rfl (YA.s (len_sl rfl rfl ud22)) <| .k 3 1 [(3, .int .i64 (x0_.f1.length : Int))] (by kernel_rfl) .nil) (rest := []) hE (Agr.refl _) (fun a hE => ?_)
  refine ops_done ?_
  refine hK4 _ _ ?_
  refine wp_seq_k fun K5 hK5 => ?_
  refine wp_seq_k fun K6 hK6 => ?_
  have J25 : ∀ kq23, kq23 ≤ k → ∀ (J : Nat → Value) (y21 : Bool) (a : Act) (w' : World), Env 57 (updL J [(0, .agg #[.int .i64 x0_.f0, .slice A0_1 x0_.f1.length c0_1]), (1, .pointer (some ⟨b2, 0, none⟩)), (2, .int .i64 0), (3, .int .i64 (x0_.f1.length : Int)), (30, .bool y21)]) a → St W (mine W []) F w' F [box b2 #[.int .i64 x0_.f0, .slice A0_1 x0_.f1.length c0_1] 24] → acceptor_Check.j22 kq23 x0_ y21 = some r → K6 a w' := by
    intro kq23 hkq J y21 a u26 hE hS H
    cases kq23 with
    | zero => cases (show none = some r from H)
    | succ k24 =>
      rw [acceptor_Check.j22_s] at H
      refine hK6 _ _ ?_
      by_cases c27 : y21 = true
      · rw [if_pos c27] at H
        refine cond_t hE (b := y21) rfl c27 ?_
        refine wp_seq_k fun K28 hK28 => ?_
        refine plain (L := [0]) rfl ?_
        refine ops_chain (S := Agr _) (.k 0 1 [(2, .int .i64 1)] (by kernel_rfl) .nil) (rest := []) hE (Agr.refl _) (fun a hE => ?_)
        refine ops_done ?_
        refine hK28 _ _ ?_
        refine wp_ret (then_ret ?_)
        replace hS := hS.tail
        obtain rfl := Option.some.inj H
        exact ret1 hE rfl (.tmp rfl .nil) ⟨_, rfl, _, rfl, hS⟩
      · rw [if_neg c27] at H
        refine cond_f hE (b := y21) rfl (eq_false_of_ne_true c27) ?_
        refine wp_skip ?_
        refine hK5 _ _ ?_
        refine wp_seq_k fun K29 hK29 => ?_
        refine wp_seq_k fun K30 hK30 => ?_
        refine plain (L := [0, 1, 2, 3]) rfl ?_
        have hb2 := hS.blk_at (i := 0) rfl
        refine ops_chain (S := Agr _) (.k 0 1 [(31, .pointer (some ⟨b2, 1, none⟩))] (by kernel_rfl) <| .v 1 32 rfl rfl rfl rfl (lb1 1 (.slice A0_1 x0_.f1.length c0_1) rfl rfl ag22 hb2 rfl) <| .v 2 33 rfl rfl rfl rfl (YA.s (len_sl rfl rfl ud22)) <| .k 3 1 [(34, .int .i64 0)] (by kernel_rfl) .nil) (rest := []) hE (Agr.refl _) (fun a hE => ?_)
        refine ops_done ?_
        refine hK30 _ _ ?_
        refine wp_block ?_
        obtain ⟨J, hE⟩ := hE.norm [(0, .agg #[.int .i64 x0_.f0, .slice A0_1 x0_.f1.length c0_1]), (1, .pointer (some ⟨b2, 0, none⟩)), (2, .int .i64 0), (3, .int .i64 (x0_.f1.length : Int)), (30, .bool y21), (32, .slice A0_1 x0_.f1.length c0_1), (33, .int .i64 (x0_.f1.length : Int)), (34, .int .i64 0)] (.cons rfl <| .cons rfl <| .cons rfl <| .cons rfl <| .cons rfl <| .cons rfl <| .cons rfl <| .cons rfl .nil)
        refine wp_loop_ghost (fun kq33 a w' => ∃ (J : Nat → Value) (x31 : Int), Env 57 (updL J [(0, .agg #[.int .i64 x0_.f0, .slice A0_1 x0_.f1.length c0_1]), (1, .pointer (some ⟨b2, 0, none⟩)), (2, .int .i64 0), (3, .int .i64 (x0_.f1.length : Int)), (30, .bool y21), (32, .slice A0_1 x0_.f1.length c0_1), (33, .int .i64 (x0_.f1.length : Int)), (34, .int .i64 x31)]) a ∧ St W (mine W []) F w' F [box b2 #[.int .i64 x0_.f0, .slice A0_1 x0_.f1.length c0_1] 24] ∧  acceptor_Check.l32 kq33 x0_ x31 = some r) k24 ⟨J, 0, hE, hS, H⟩ ?_
        rintro kq33 a u35 ⟨J, x31, hE, hS, H⟩
        cases kq33 with
        | zero => cases (show none = some r from H)
        | succ k34 =>
          rw [acceptor_Check.l32_s] at H
          refine wp_seq_k fun K36 hK36 => ?_
          refine plain (L := [0]) rfl ?_
          refine ops_chain (S := Agr _) (.k 0 1 [(35, .bool (decide (x31 < (x0_.f1.length : Int))))] (by kernel_rfl) .nil) (rest := []) hE (Agr.refl _) (fun a hE => ?_)
          refine ops_done ?_
          refine hK36 _ _ ?_
          refine wp_seq_k fun K37 hK37 => ?_
          by_cases c38 : x31 < (x0_.f1.length : Int)
          · rw [if_pos c38] at H
            refine cond_t hE (b := (decide (x31 < (x0_.f1.length : Int)))) rfl (decide_eq_true c38) ?_
            refine wp_skip ?_
            refine hK37 _ _ ?_
            refine wp_seq_k fun K39 hK39 => ?_
            refine wp_block ?_
            refine wp_seq_k fun K40 hK40 => ?_
            refine plain (L := [0, 1, 2, 3]) rfl ?_
            by_cases c41 : 0 ≤ x31 ∧ x31 < (x0_.f1.length : Int)
            rotate_left
            · rw [if_neg c41] at H; cases H
            rw [if_pos c41] at H
            obtain ⟨ad42, rfl⟩ := g0_1.addr c41.1 c41.2
            obtain ⟨cs44, ⟨A46, c47, rfl, g48⟩, hc45⟩ := g0_1.el z49 x31 c41.1 c41.2
            refine ops_chain (S := Agr _) (.v 0 36 rfl rfl rfl rfl (YA.s (ix 8 rfl rfl rfl ud22 sz49 c41.1 c41.2)) <| .v 1 37 rfl rfl rfl rfl (lfn [.int .i64 ((nth z49 x0_.f1 x31).f0), .int .i64 ((nth z49 x0_.f1 x31).f1.f0), .int .i64 ((nth z49 x0_.f1 x31).f1.f1), .int .i64 ((nth z49 x0_.f1 x31).f1.f2), .int .i64 ((nth z49 x0_.f1 x31).f1.f3), .int .i64 ((nth z49 x0_.f1 x31).f1.f4), .int .i64 ((nth z49 x0_.f1 x31).f1.f5), .slice A46 (((nth z49 x0_.f1 x31).f1.f6).length) c47] rfl rfl ag49 sz49 hS.own.sub hc45) .nil) (rest := [2, 3]) hE (Agr.refl _) (fun a hE => ?_)
            refine ops_eff 2 hE (some 5) rfl rfl rfl rfl (e_alloc hS rfl z49z #[.int .i64 0, .int .i64 0, .int .i64 0, .int .i64 0, .int .i64 0, .int .i64 0, .int .i64 0, .slice none 0 0] rfl) ?_
            rintro _ u50 a ⟨b49, rfl, hb49, hS, hg⟩ hE
            refine ops_eff 3 hE none rfl rfl rfl rfl (e_store (off := 0) hS rfl rfl rfl sz49 (Nat.le_of_ble_eq_true rfl) (all_one rfl) #[.int .i64 ((nth z49 x0_.f1 x31).f0), .int .i64 ((nth z49 x0_.f1 x31).f1.f0), .int .i64 ((nth z49 x0_.f1 x31).f1.f1), .int .i64 ((nth z49 x0_.f1 x31).f1.f2), .int .i64 ((nth z49 x0_.f1 x31).f1.f3), .int .i64 ((nth z49 x0_.f1 x31).f1.f4), .int .i64 ((nth z49 x0_.f1 x31).f1.f5), .slice A46 (((nth z49 x0_.f1 x31).f1.f6).length) c47] rfl) ?_
            rintro _ u51 a ⟨rfl, hb49, hS, hz⟩ hE
            refine ops_done ?_
            refine hK40 _ _ ?_
            refine wp_seq_k fun K52 hK52 => ?_
            have J68 : ∀ kq66, kq66 ≤ k34 → ∀ (J : Nat → Value) (y64 : Bool) (a : Act) (w' : World), Env 57 (updL J [(0, .agg #[.int .i64 x0_.f0, .slice (some ad42) x0_.f1.length c0_1]), (1, .pointer (some ⟨b2, 0, none⟩)), (2, .int .i64 0), (3, .int .i64 (x0_.f1.length : Int)), (5, .pointer (some ⟨b49, 0, none⟩)), (30, .bool y21), (32, .slice (some ad42) x0_.f1.length c0_1), (33, .int .i64 (x0_.f1.length : Int)), (34, .int .i64 x31), (35, .bool (decide (x31 < (x0_.f1.length : Int)))), (55, .bool y64)]) a → St W (mine W []) F w' F [box b49 #[.int .i64 ((nth z49 x0_.f1 x31).f0), .int .i64 ((nth z49 x0_.f1 x31).f1.f0), .int .i64 ((nth z49 x0_.f1 x31).f1.f1), .int .i64 ((nth z49 x0_.f1 x31).f1.f2), .int .i64 ((nth z49 x0_.f1 x31).f1.f3), .int .i64 ((nth z49 x0_.f1 x31).f1.f4), .int .i64 ((nth z49 x0_.f1 x31).f1.f5), .slice A46 (((nth z49 x0_.f1 x31).f1.f6).length) c47] 49, box b2 #[.int .i64 x0_.f0, .slice (some ad42) x0_.f1.length c0_1] 24] → acceptor_Check.j65 kq66 x0_ x31 y64 = some r → K52 a w' := by
              intro kq66 hkq J y64 a u69 hE hS H
              cases kq66 with
              | zero => cases (show none = some r from H)
              | succ k67 =>
                rw [acceptor_Check.j65_s] at H
                refine hK52 _ _ ?_
                by_cases c70 : y64 = true
                · rw [if_pos c70] at H
                  refine cond_t hE (b := y64) rfl c70 ?_
                  refine wp_seq_k fun K71 hK71 => ?_
                  refine plain (L := [0]) rfl ?_
                  refine ops_chain (S := Agr _) (.k 0 1 [(2, .int .i64 1)] (by kernel_rfl) .nil) (rest := []) hE (Agr.refl _) (fun a hE => ?_)
                  refine ops_done ?_
                  refine hK71 _ _ ?_
                  refine wp_ret (block_ret (then_ret (then_ret (block_ret (then_ret ?_)))))
                  replace hS := hS.tail
                  replace hS := hS.tail
                  obtain rfl := Option.some.inj H
                  exact ret1 hE rfl (.tmp rfl .nil) ⟨_, rfl, _, rfl, hS⟩
                · rw [if_neg c70] at H
                  refine cond_f hE (b := y64) rfl (eq_false_of_ne_true c70) ?_
                  refine wp_skip ?_
                  refine hK39 _ _ ?_
                  refine plain (L := [0, 1]) rfl ?_
                  refine ops_chain (S := Agr _) (.k 0 2 [(56, .int .i64 (w64 (x31 + 1))), (34, .int .i64 (w64 (x31 + 1)))] (by kernel_rfl) .nil) (rest := []) hE (Agr.refl _) (fun a hE => ?_)
                  refine ops_done ?_
                  replace hS := hS.tail
                  obtain ⟨J, hE⟩ := hE.norm [(0, .agg #[.int .i64 x0_.f0, .slice (some ad42) x0_.f1.length c0_1]), (1, .pointer (some ⟨b2, 0, none⟩)), (2, .int .i64 0), (3, .int .i64 (x0_.f1.length : Int)), (30, .bool y21), (32, .slice (some ad42) x0_.f1.length c0_1), (33, .int .i64 (x0_.f1.length : Int)), (34, .int .i64 (w64 (x31 + 1)))] (.cons rfl <| .cons rfl <| .cons rfl <| .cons rfl <| .cons rfl <| .cons rfl <| .cons rfl <| .cons rfl .nil)
                  exact then_n ⟨k67, by omega, J, (w64 (x31 + 1)), hE, hS, H⟩
            refine plain (L := [0, 1, 2, 3, 4, 5, 6, 7, 8, 9, 10, 11, 12, 13, 14, 15, 16, 17]) rfl ?_
            refine ops_chain (S := Agr _) (.v 0 38 rfl rfl rfl rfl (lbn 0 [.int .i64 ((nth z49 x0_.f1 x31).f0), .int .i64 ((nth z49 x0_.f1 x31).f1.f0), .int .i64 ((nth z49 x0_.f1 x31).f1.f1), .int .i64 ((nth z49 x0_.f1 x31).f1.f2), .int .i64 ((nth z49 x0_.f1 x31).f1.f3), .int .i64 ((nth z49 x0_.f1 x31).f1.f4), .int .i64 ((nth z49 x0_.f1 x31).f1.f5), .slice A46 (((nth z49 x0_.f1 x31).f1.f6).length) c47] rfl rfl ag49 sz49 hb49 rfl) <| .v 1 39 rfl rfl rfl rfl (YA.s (x_build [] (.agg #[.int .i64 0, .int .i64 0, .int .i64 0, .int .i64 0, .int .i64 0, .int .i64 0, .int .i64 0, .slice none 0 0]) rfl rfl (fun w => by kernel_rfl))) .nil) (rest := [2, 3, 4, 5, 6, 7, 8, 9, 10, 11, 12, 13, 14, 15, 16, 17]) hE (Agr.refl _) (fun a hE => ?_)
            obtain ⟨t53, h54, H⟩ := Option.bind_eq_some_iff.mp H
            refine ops_eff 2 hE (some 40) rfl rfl rfl rfl (Eff.call en73 rfl [.agg #[.int .i64 ((nth z49 x0_.f1 x31).f0), .int .i64 ((nth z49 x0_.f1 x31).f1.f0), .int .i64 ((nth z49 x0_.f1 x31).f1.f1), .int .i64 ((nth z49 x0_.f1 x31).f1.f2), .int .i64 ((nth z49 x0_.f1 x31).f1.f3), .int .i64 ((nth z49 x0_.f1 x31).f1.f4), .int .i64 ((nth z49 x0_.f1 x31).f1.f5), .slice A46 (((nth z49 x0_.f1 x31).f1.f6).length) c47], .agg #[.int .i64 0, .int .i64 0, .int .i64 0, .int .i64 0, .int .i64 0, .int .i64 0, .int .i64 0, .slice none 0 0]] rfl (acceptor_same.calls k34 (⟨(nth z49 x0_.f1 x31).f0, (⟨(nth z49 x0_.f1 x31).f1.f0, (nth z49 x0_.f1 x31).f1.f1, (nth z49 x0_.f1 x31).f1.f2, (nth z49 x0_.f1 x31).f1.f3, (nth z49 x0_.f1 x31).f1.f4, (nth z49 x0_.f1 x31).f1.f5, (nth z49 x0_.f1 x31).f1.f6⟩ : S28)⟩ : S49) (⟨0, (⟨0, 0, 0, 0, 0, 0, []⟩ : S28)⟩ : S49) _ _ _ _ _ _ _ hS.own.sub g48 (Rd.nil _ _) h54)) ?_
            rintro _ u55 a ⟨_, rfl, hC⟩ hE
            replace hS := hS.lent hC
            refine ops_chain (S := Agr _) (.k 3 2 [(41, .bool (!t53)), (42, .bool (!t53))] (by kernel_rfl) .nil) (rest := [5, 6, 7, 8, 9, 10, 11, 12, 13, 14, 15, 16, 17]) hE (Agr.refl _) (fun a hE => ?_)
            by_cases c56 : t53 = true
            · rw [if_pos c56] at H
              obtain ⟨J, hE⟩ := hE.norm [(0, .agg #[.int .i64 x0_.f0, .slice (some ad42) x0_.f1.length c0_1]), (1, .pointer (some ⟨b2, 0, none⟩)), (2, .int .i64 0), (3, .int .i64 (x0_.f1.length : Int)), (5, .pointer (some ⟨b49, 0, none⟩)), (30, .bool y21), (32, .slice (some ad42) x0_.f1.length c0_1), (33, .int .i64 (x0_.f1.length : Int)), (34, .int .i64 x31), (35, .bool (decide (x31 < (x0_.f1.length : Int)))), (42, .bool false)] (.cons rfl <| .cons rfl <| .cons rfl <| .cons rfl <| .cons rfl <| .cons rfl <| .cons rfl <| .cons rfl <| .cons rfl <| .cons rfl <| .cons (Eq.trans (b := .bool (!t53)) rfl (congrArg Value.bool (congrArg not c56))) .nil)
              refine ops_chain (S := Agr _) (.k 5 13 [(43, undef), (44, undef), (45, undef), (46, undef), (47, undef), (48, undef), (49, undef), (50, undef), (51, undef), (52, undef), (53, undef), (54, undef), (55, .bool false)] (by kernel_rfl) .nil) (rest := []) hE (Agr.refl _) (fun a hE => ?_)
              refine ops_done ?_
              obtain ⟨J, hE⟩ := hE.norm [(0, .agg #[.int .i64 x0_.f0, .slice (some ad42) x0_.f1.length c0_1]), (1, .pointer (some ⟨b2, 0, none⟩)), (2, .int .i64 0), (3, .int .i64 (x0_.f1.length : Int)), (5, .pointer (some ⟨b49, 0, none⟩)), (30, .bool y21), (32, .slice (some ad42) x0_.f1.length c0_1), (33, .int .i64 (x0_.f1.length : Int)), (34, .int .i64 x31), (35, .bool (decide (x31 < (x0_.f1.length : Int)))), (55, .bool false)] (.cons rfl <| .cons rfl <| .cons rfl <| .cons rfl <| .cons rfl <| .cons rfl <| .cons rfl <| .cons rfl <| .cons rfl <| .cons rfl <| .cons rfl .nil)
              exact J68 _ (by omega) J false _ _ hE hS H
            · rw [if_neg c56] at H
              obtain ⟨J, hE⟩ := hE.norm [(0, .agg #[.int .i64 x0_.f0, .slice (some ad42) x0_.f1.length c0_1]), (1, .pointer (some ⟨b2, 0, none⟩)), (2, .int .i64 0), (3, .int .i64 (x0_.f1.length : Int)), (5, .pointer (some ⟨b49, 0, none⟩)), (30, .bool y21), (32, .slice (some ad42) x0_.f1.length c0_1), (33, .int .i64 (x0_.f1.length : Int)), (34, .int .i64 x31), (35, .bool (decide (x31 < (x0_.f1.length : Int)))), (42, .bool true)] (.cons rfl <| .cons rfl <| .cons rfl <| .cons rfl <| .cons rfl <| .cons rfl <| .cons rfl <| .cons rfl <| .cons rfl <| .cons rfl <| .cons (Eq.trans (b := .bool (!t53)) rfl (congrArg Value.bool (congrArg not (eq_false_of_ne_true c56)))) .nil)
              have hb49 := hS.blk_at (i := 0) rfl
              have hb2 := hS.blk_at (i := 1) rfl
              refine ops_chain (S := Agr _) (.k 5 1 [(43, .pointer (some ⟨b49, 0, none⟩))] (by kernel_rfl) <| .v 6 44 rfl rfl rfl rfl (lb1 0 (.int .i64 ((nth z49 x0_.f1 x31).f0)) rfl rfl ag3 hb49 rfl) <| .k 7 1 [(45, .pointer (some ⟨b2, 0, none⟩))] (by kernel_rfl) <| .v 8 46 rfl rfl rfl rfl (lb1 0 (.int .i64 x0_.f0) rfl rfl ag3 hb2 rfl) .nil) (rest := [9, 10, 11, 12, 13, 14, 15, 16, 17]) hE (Agr.refl _) (fun a hE => ?_)
              obtain ⟨t57, h58, H⟩ := Option.bind_eq_some_iff.mp H
              refine ops_eff 9 hE (some 47) rfl rfl rfl rfl (Eff.call en71 rfl [.int .i64 ((nth z49 x0_.f1 x31).f0), .int .i64 1, .int .i64 x0_.f0] rfl (acceptor_in.calls ((nth z49 x0_.f1 x31).f0) 1 x0_.f0 _ _ _ hS.own.sub h58)) ?_
              rintro _ u59 a ⟨_, rfl, hC⟩ hE
              replace hS := hS.lent hC
              refine ops_chain (S := Agr _) (.k 10 2 [(48, .bool (!t57)), (49, .bool (!t57))] (by kernel_rfl) .nil) (rest := [12, 13, 14, 15, 16, 17]) hE (Agr.refl _) (fun a hE => ?_)
              by_cases c60 : t57 = true
              · rw [if_pos c60] at H
                obtain ⟨J, hE⟩ := hE.norm [(0, .agg #[.int .i64 x0_.f0, .slice (some ad42) x0_.f1.length c0_1]), (1, .pointer (some ⟨b2, 0, none⟩)), (2, .int .i64 0), (3, .int .i64 (x0_.f1.length : Int)), (5, .pointer (some ⟨b49, 0, none⟩)), (30, .bool y21), (32, .slice (some ad42) x0_.f1.length c0_1), (33, .int .i64 (x0_.f1.length : Int)), (34, .int .i64 x31), (35, .bool (decide (x31 < (x0_.f1.length : Int)))), (42, .bool true), (43, .pointer (some ⟨b49, 0, none⟩)), (44, .int .i64 ((nth z49 x0_.f1 x31).f0)), (45, .pointer (some ⟨b2, 0, none⟩)), (46, .int .i64 x0_.f0), (47, .bool true), (48, .bool false), (49, .bool false)] (.cons rfl <| .cons rfl <| .cons rfl <| .cons rfl <| .cons rfl <| .cons rfl <| .cons rfl <| .cons rfl <| .cons rfl <| .cons rfl <| .cons rfl <| .cons rfl <| .cons rfl <| .cons rfl <| .cons rfl <| .cons (Eq.trans (b := .bool t57) rfl (congrArg Value.bool c60)) <| .cons (Eq.trans (b := .bool (!t57)) rfl (congrArg Value.bool (congrArg not c60))) <| .cons (Eq.trans (b := .bool (!t57)) rfl (congrArg Value.bool (congrArg not c60))) .nil)
                have hb49 := hS.blk_at (i := 0) rfl
                refine ops_chain (S := Agr _) (.k 12 1 [(50, .pointer (some ⟨b49, 1, none⟩))] (by kernel_rfl) <| .v 13 51 rfl rfl rfl rfl (lbn 1 [.int .i64 ((nth z49 x0_.f1 x31).f1.f0), .int .i64 ((nth z49 x0_.f1 x31).f1.f1), .int .i64 ((nth z49 x0_.f1 x31).f1.f2), .int .i64 ((nth z49 x0_.f1 x31).f1.f3), .int .i64 ((nth z49 x0_.f1 x31).f1.f4), .int .i64 ((nth z49 x0_.f1 x31).f1.f5), .slice A46 (((nth z49 x0_.f1 x31).f1.f6).length) c47] rfl rfl ag28 sz28 hb49 rfl) .nil) (rest := [14, 15, 16, 17]) hE (Agr.refl _) (fun a hE => ?_)
                obtain ⟨t61, h62, H⟩ := Option.bind_eq_some_iff.mp H
                refine ops_eff 14 hE (some 52) rfl rfl rfl rfl (Eff.call en23 rfl [.agg #[.int .i64 ((nth z49 x0_.f1 x31).f1.f0), .int .i64 ((nth z49 x0_.f1 x31).f1.f1), .int .i64 ((nth z49 x0_.f1 x31).f1.f2), .int .i64 ((nth z49 x0_.f1 x31).f1.f3), .int .i64 ((nth z49 x0_.f1 x31).f1.f4), .int .i64 ((nth z49 x0_.f1 x31).f1.f5), .slice A46 (((nth z49 x0_.f1 x31).f1.f6).length) c47]] rfl (acceptor_CheckDelta.calls k34 (⟨(nth z49 x0_.f1 x31).f1.f0, (nth z49 x0_.f1 x31).f1.f1, (nth z49 x0_.f1 x31).f1.f2, (nth z49 x0_.f1 x31).f1.f3, (nth z49 x0_.f1 x31).f1.f4, (nth z49 x0_.f1 x31).f1.f5, (nth z49 x0_.f1 x31).f1.f6⟩ : S28) _ _ _ _ _ hS.own.sub g48 h62)) ?_
                rintro _ u63 a ⟨_, rfl, hC⟩ hE
                replace hS := hS.lent hC
                refine ops_chain (S := Agr _) (.k 15 3 [(53, .bool (!(t61 == 0))), (54, .bool (!(t61 == 0))), (55, .bool (!(t61 == 0)))] (by kernel_rfl) .nil) (rest := []) hE (Agr.refl _) (fun a hE => ?_)
                refine ops_done ?_
                obtain ⟨J, hE⟩ := hE.norm [(0, .agg #[.int .i64 x0_.f0, .slice (some ad42) x0_.f1.length c0_1]), (1, .pointer (some ⟨b2, 0, none⟩)), (2, .int .i64 0), (3, .int .i64 (x0_.f1.length : Int)), (5, .pointer (some ⟨b49, 0, none⟩)), (30, .bool y21), (32, .slice (some ad42) x0_.f1.length c0_1), (33, .int .i64 (x0_.f1.length : Int)), (34, .int .i64 x31), (35, .bool (decide (x31 < (x0_.f1.length : Int)))), (55, .bool (!(t61 == 0)))] (.cons rfl <| .cons rfl <| .cons rfl <| .cons rfl <| .cons rfl <| .cons rfl <| .cons rfl <| .cons rfl <| .cons rfl <| .cons rfl <| .cons rfl .nil)
                exact J68 _ (by omega) J (!(t61 == 0)) _ _ hE hS H
              · rw [if_neg c60] at H
                obtain ⟨J, hE⟩ := hE.norm [(0, .agg #[.int .i64 x0_.f0, .slice (some ad42) x0_.f1.length c0_1]), (1, .pointer (some ⟨b2, 0, none⟩)), (2, .int .i64 0), (3, .int .i64 (x0_.f1.length : Int)), (5, .pointer (some ⟨b49, 0, none⟩)), (30, .bool y21), (32, .slice (some ad42) x0_.f1.length c0_1), (33, .int .i64 (x0_.f1.length : Int)), (34, .int .i64 x31), (35, .bool (decide (x31 < (x0_.f1.length : Int)))), (42, .bool true), (43, .pointer (some ⟨b49, 0, none⟩)), (44, .int .i64 ((nth z49 x0_.f1 x31).f0)), (45, .pointer (some ⟨b2, 0, none⟩)), (46, .int .i64 x0_.f0), (47, .bool false), (48, .bool true), (49, .bool true)] (.cons rfl <| .cons rfl <| .cons rfl <| .cons rfl <| .cons rfl <| .cons rfl <| .cons rfl <| .cons rfl <| .cons rfl <| .cons rfl <| .cons rfl <| .cons rfl <| .cons rfl <| .cons rfl <| .cons rfl <| .cons (Eq.trans (b := .bool t57) rfl (congrArg Value.bool (eq_false_of_ne_true c60))) <| .cons (Eq.trans (b := .bool (!t57)) rfl (congrArg Value.bool (congrArg not (eq_false_of_ne_true c60)))) <| .cons (Eq.trans (b := .bool (!t57)) rfl (congrArg Value.bool (congrArg not (eq_false_of_ne_true c60)))) .nil)
                refine ops_chain (S := Agr _) (.k 12 6 [(50, undef), (51, undef), (52, undef), (53, undef), (54, .bool true), (55, .bool true)] (by kernel_rfl) .nil) (rest := []) hE (Agr.refl _) (fun a hE => ?_)
                refine ops_done ?_
                obtain ⟨J, hE⟩ := hE.norm [(0, .agg #[.int .i64 x0_.f0, .slice (some ad42) x0_.f1.length c0_1]), (1, .pointer (some ⟨b2, 0, none⟩)), (2, .int .i64 0), (3, .int .i64 (x0_.f1.length : Int)), (5, .pointer (some ⟨b49, 0, none⟩)), (30, .bool y21), (32, .slice (some ad42) x0_.f1.length c0_1), (33, .int .i64 (x0_.f1.length : Int)), (34, .int .i64 x31), (35, .bool (decide (x31 < (x0_.f1.length : Int)))), (55, .bool true)] (.cons rfl <| .cons rfl <| .cons rfl <| .cons rfl <| .cons rfl <| .cons rfl <| .cons rfl <| .cons rfl <| .cons rfl <| .cons rfl <| .cons rfl .nil)
                exact J68 _ (by omega) J true _ _ hE hS H
          · rw [if_neg c38] at H
            refine cond_f hE (b := (decide (x31 < (x0_.f1.length : Int)))) rfl (decide_eq_false c38) ?_
            refine wp_exit ?_
            refine hK29 _ _ ?_
            refine wp_seq_k fun K72 hK72 => ?_
            refine plain (L := [0]) rfl ?_
            refine ops_chain (S := Agr _) (.k 0 1 [(2, .int .i64 0)] (by kernel_rfl) .nil) (rest := []) hE (Agr.refl _) (fun a hE => ?_)
            refine ops_done ?_
            refine hK72 _ _ ?_
            refine wp_ret ?_
            replace hS := hS.tail
            obtain rfl := Option.some.inj H
            exact ret1 hE rfl (.tmp rfl .nil) ⟨_, rfl, _, rfl, hS⟩
  refine plain (L := [0, 1, 2, 3, 4, 5, 6, 7, 8, 9, 10, 11, 12, 13, 14, 15, 16, 17, 18, 19, 20, 21]) rfl ?_
  refine ops_chain (S := Agr _) (.k 0 1 [(9, .pointer (some ⟨b2, 0, none⟩))] (by kernel_rfl) <| .v 1 10 rfl rfl rfl rfl (lb1 0 (.int .i64 x0_.f0) rfl rfl ag3 hb2 rfl) .nil) (rest := [2, 3, 4, 5, 6, 7, 8, 9, 10, 11, 12, 13, 14, 15, 16, 17, 18, 19, 20, 21]) hE (Agr.refl _) (fun a hE => ?_)
  obtain ⟨t7, h8, H⟩ := Option.bind_eq_some_iff.mp H
  refine ops_eff 2 hE (some 11) rfl rfl rfl rfl (Eff.call en71 rfl [.int .i64 x0_.f0, .int .i64 0, .int .i64 2147483647] rfl (acceptor_in.calls x0_.f0 0 2147483647 _ _ _ hS.own.sub h8)) ?_
  rintro _ u9 a ⟨_, rfl, hC⟩ hE
  replace hS := hS.lent hC
  refine ops_chain (S := Agr _) (.k 3 2 [(12, .bool (!t7)), (13, .bool (!t7))] (by kernel_rfl) .nil) (rest := [5, 6, 7, 8, 9, 10, 11, 12, 13, 14, 15, 16, 17, 18, 19, 20, 21]) hE (Agr.refl _) (fun a hE => ?_)
  by_cases c10 : t7 = true
  · rw [if_pos c10] at H
    obtain ⟨J, hE⟩ := hE.norm [(0, .agg #[.int .i64 x0_.f0, .slice A0_1 x0_.f1.length c0_1]), (1, .pointer (some ⟨b2, 0, none⟩)), (2, .int .i64 0), (3, .int .i64 (x0_.f1.length : Int)), (13, .bool false)] (.cons rfl <| .cons rfl <| .cons rfl <| .cons rfl <| .cons (Eq.trans (b := .bool (!t7)) rfl (congrArg Value.bool (congrArg not c10))) .nil)
    refine ops_chain (S := Agr _) (.k 5 4 [(14, .int .i64 (x0_.f1.length : Int)), (15, .bool (decide ((x0_.f1.length : Int) > 256))), (16, .bool (decide ((x0_.f1.length : Int) > 256))), (17, .bool (decide ((x0_.f1.length : Int) > 256)))] (by kernel_rfl) .nil) (rest := [9, 10, 11, 12, 13, 14, 15, 16, 17, 18, 19, 20, 21]) hE (Agr.refl _) (fun a hE => ?_)
    by_cases c11 : (x0_.f1.length : Int) > 256
    · rw [if_pos c11] at H
      obtain ⟨J, hE⟩ := hE.norm [(0, .agg #[.int .i64 x0_.f0, .slice A0_1 x0_.f1.length c0_1]), (1, .pointer (some ⟨b2, 0, none⟩)), (2, .int .i64 0), (3, .int .i64 (x0_.f1.length : Int)), (14, .int .i64 (x0_.f1.length : Int)), (15, .bool true), (17, .bool true)] (.cons rfl <| .cons rfl <| .cons rfl <| .cons rfl <| .cons rfl <| .cons (Eq.trans (b := .bool (decide ((x0_.f1.length : Int) > 256))) rfl (congrArg Value.bool (decide_eq_true c11))) <| .cons (Eq.trans (b := .bool (decide ((x0_.f1.length : Int) > 256))) rfl (congrArg Value.bool (decide_eq_true c11))) .nil)
      refine ops_chain (S := Agr _) (.k 9 13 [(18, undef), (19, undef), (20, undef), (21, undef), (22, undef), (23, undef), (24, undef), (25, undef), (26, undef), (27, undef), (28, undef), (29, undef), (30, .bool true)] (by kernel_rfl) .nil) (rest := []) hE (Agr.refl _) (fun a hE => ?_)
      refine ops_done ?_
      obtain ⟨J, hE⟩ := hE.norm [(0, .agg #[.int .i64 x0_.f0, .slice A0_1 x0_.f1.length c0_1]), (1, .pointer (some ⟨b2, 0, none⟩)), (2, .int .i64 0), (3, .int .i64 (x0_.f1.length : Int)), (30, .bool true)] (.cons rfl <| .cons rfl <| .cons rfl <| .cons rfl <| .cons rfl .nil)
      exact J25 _ (by omega) J true _ _ hE hS H
    · rw [if_neg c11] at H
      obtain ⟨J, hE⟩ := hE.norm [(0, .agg #[.int .i64 x0_.f0, .slice A0_1 x0_.f1.length c0_1]), (1, .pointer (some ⟨b2, 0, none⟩)), (2, .int .i64 0), (3, .int .i64 (x0_.f1.length : Int)), (14, .int .i64 (x0_.f1.length : Int)), (15, .bool false), (17, .bool false)] (.cons rfl <| .cons rfl <| .cons rfl <| .cons rfl <| .cons rfl <| .cons (Eq.trans (b := .bool (decide ((x0_.f1.length : Int) > 256))) rfl (congrArg Value.bool (decide_eq_false c11))) <| .cons (Eq.trans (b := .bool (decide ((x0_.f1.length : Int) > 256))) rfl (congrArg Value.bool (decide_eq_false c11))) .nil)
      refine ops_chain (S := Agr _) (.k 9 3 [(18, .int .i64 (x0_.f1.length : Int)), (19, .bool (decide ((x0_.f1.length : Int) > 0))), (20, .bool (decide ((x0_.f1.length : Int) > 0)))] (by kernel_rfl) .nil) (rest := [12, 13, 14, 15, 16, 17, 18, 19, 20, 21]) hE (Agr.refl _) (fun a hE => ?_)
      by_cases c12 : (x0_.f1.length : Int) > 0
      · rw [if_pos c12] at H
        obtain ⟨J, hE⟩ := hE.norm [(0, .agg #[.int .i64 x0_.f0, .slice A0_1 x0_.f1.length c0_1]), (1, .pointer (some ⟨b2, 0, none⟩)), (2, .int .i64 0), (3, .int .i64 (x0_.f1.length : Int)), (14, .int .i64 (x0_.f1.length : Int)), (15, .bool false), (17, .bool false), (18, .int .i64 (x0_.f1.length : Int)), (19, .bool true), (20, .bool true)] (.cons rfl <| .cons rfl <| .cons rfl <| .cons rfl <| .cons rfl <| .cons rfl <| .cons rfl <| .cons rfl <| .cons (Eq.trans (b := .bool (decide ((x0_.f1.length : Int) > 0))) rfl (congrArg Value.bool (decide_eq_true c12))) <| .cons (Eq.trans (b := .bool (decide ((x0_.f1.length : Int) > 0))) rfl (congrArg Value.bool (decide_eq_true c12))) .nil)
        have hb2 := hS.blk_at (i := 0) rfl
        by_cases c13 : 0 ≤ (w64 ((x0_.f1.length : Int) - 1)) ∧ (w64 ((x0_.f1.length : Int) - 1)) < (x0_.f1.length : Int)
        rotate_left
        · rw [if_neg c13] at H; cases H
        rw [if_pos c13] at H
        obtain ⟨ad14, rfl⟩ := g0_1.addr c13.1 c13.2
        obtain ⟨cs16, ⟨A18, c19, rfl, g20⟩, hc17⟩ := g0_1.el z49 (w64 ((x0_.f1.length : Int) - 1)) c13.1 c13.2
        refine ops_chain (S := Agr _) (.k 12 1 [(21, .pointer (some ⟨b2, 1, none⟩))] (by kernel_rfl) <| .v 13 22 rfl rfl rfl rfl (lb1 1 (.slice (some ad14) x0_.f1.length c0_1) rfl rfl ag22 hb2 rfl) <| .k 14 2 [(23, .int .i64 (x0_.f1.length : Int)), (24, .int .i64 (w64 ((x0_.f1.length : Int) - 1)))] (by kernel_rfl) <| .v 16 25 rfl rfl rfl rfl (YA.s (ix 8 rfl rfl rfl ud22 sz49 c13.1 c13.2)) <| .k 17 1 [(26, .pointer (some ((ad14.add ((w64 ((x0_.f1.length : Int) - 1)).toNat * 8)).add 0)))] (by kernel_rfl) <| .v 18 27 rfl rfl rfl rfl (lf1 (.int .i64 ((nth z49 x0_.f1 (w64 ((x0_.f1.length : Int) - 1))).f0)) rfl rfl ag3 hS.own.sub (hc17 0 _ rfl)) <| .k 19 3 [(28, .bool ((nth z49 x0_.f1 (w64 ((x0_.f1.length : Int) - 1))).f0 == 0)), (29, .bool ((nth z49 x0_.f1 (w64 ((x0_.f1.length : Int) - 1))).f0 == 0)), (30, .bool ((nth z49 x0_.f1 (w64 ((x0_.f1.length : Int) - 1))).f0 == 0))] (by kernel_rfl) .nil) (rest := []) hE (Agr.refl _) (fun a hE => ?_)
        refine ops_done ?_
        obtain ⟨J, hE⟩ := hE.norm [(0, .agg #[.int .i64 x0_.f0, .slice (some ad14) x0_.f1.length c0_1]), (1, .pointer (some ⟨b2, 0, none⟩)), (2, .int .i64 0), (3, .int .i64 (x0_.f1.length : Int)), (30, .bool ((nth z49 x0_.f1 (w64 ((x0_.f1.length : Int) - 1))).f0 == 0))] (.cons rfl <| .cons rfl <| .cons rfl <| .cons rfl <| .cons rfl .nil)
        exact J25 _ (by omega) J ((nth z49 x0_.f1 (w64 ((x0_.f1.length : Int) - 1))).f0 == 0) _ _ hE hS H
      · rw [if_neg c12] at H
        obtain ⟨J, hE⟩ := hE.norm [(0, .agg #[.int .i64 x0_.f0, .slice A0_1 x0_.f1.length c0_1]), (1, .pointer (some ⟨b2, 0, none⟩)), (2, .int .i64 0), (3, .int .i64 (x0_.f1.length : Int)), (14, .int .i64 (x0_.f1.length : Int)), (15, .bool false), (17, .bool false), (18, .int .i64 (x0_.f1.length : Int)), (19, .bool false), (20, .bool false)] (.cons rfl <| .cons rfl <| .cons rfl <| .cons rfl <| .cons rfl <| .cons rfl <| .cons rfl <| .cons rfl <| .cons (Eq.trans (b := .bool (decide ((x0_.f1.length : Int) > 0))) rfl (congrArg Value.bool (decide_eq_false c12))) <| .cons (Eq.trans (b := .bool (decide ((x0_.f1.length : Int) > 0))) rfl (congrArg Value.bool (decide_eq_false c12))) .nil)
        refine ops_chain (S := Agr _) (.k 12 10 [(21, undef), (22, undef), (23, undef), (24, undef), (25, undef), (26, undef), (27, undef), (28, undef), (29, .bool false), (30, .bool false)] (by kernel_rfl) .nil) (rest := []) hE (Agr.refl _) (fun a hE => ?_)
        refine ops_done ?_
        obtain ⟨J, hE⟩ := hE.norm [(0, .agg #[.int .i64 x0_.f0, .slice A0_1 x0_.f1.length c0_1]), (1, .pointer (some ⟨b2, 0, none⟩)), (2, .int .i64 0), (3, .int .i64 (x0_.f1.length : Int)), (30, .bool false)] (.cons rfl <| .cons rfl <| .cons rfl <| .cons rfl <| .cons rfl .nil)
        exact J25 _ (by omega) J false _ _ hE hS H
  · rw [if_neg c10] at H
    obtain ⟨J, hE⟩ := hE.norm [(0, .agg #[.int .i64 x0_.f0, .slice A0_1 x0_.f1.length c0_1]), (1, .pointer (some ⟨b2, 0, none⟩)), (2, .int .i64 0), (3, .int .i64 (x0_.f1.length : Int)), (13, .bool true)] (.cons rfl <| .cons rfl <| .cons rfl <| .cons rfl <| .cons (Eq.trans (b := .bool (!t7)) rfl (congrArg Value.bool (congrArg not (eq_false_of_ne_true c10)))) .nil)
    refine ops_chain (S := Agr _) (.k 5 17 [(14, undef), (15, undef), (16, .bool true), (17, .bool true), (18, undef), (19, undef), (20, undef), (21, undef), (22, undef), (23, undef), (24, undef), (25, undef), (26, undef), (27, undef), (28, undef), (29, undef), (30, .bool true)] (by kernel_rfl) .nil) (rest := []) hE (Agr.refl _) (fun a hE => ?_)
    refine ops_done ?_
    obtain ⟨J, hE⟩ := hE.norm [(0, .agg #[.int .i64 x0_.f0, .slice A0_1 x0_.f1.length c0_1]), (1, .pointer (some ⟨b2, 0, none⟩)), (2, .int .i64 0), (3, .int .i64 (x0_.f1.length : Int)), (30, .bool true)] (.cons rfl <| .cons rfl <| .cons rfl <| .cons rfl <| .cons rfl .nil)
    exact J25 _ (by omega) J true _ _ hE hS H

/-! ### slices.Clone[[]int,int]: function 72 -/
def slices_Clone__int_int.f (x0_ : List Int) : Option (List Int) := if ((([] : List Int).length : Int) + (x0_.length : Int)) * 8 ≤ 140737488355328 then (some (([] : List Int) ++ x0_)) else (none)
def slices_Clone__int_int.Post (W F : World) (r : List Int) (v : Value) (w' : World) : Prop := ∃ (F' : World) (A0_0 : Option Addr) (c0_0 : Nat), v = .slice A0_0 r.length c0_0 ∧ St W (mine W []) F w' F' [row (Kn.int .i64) 3 (.slice A0_0 r.length c0_0) r]
set_option maxHeartbeats 4000000 in
set_option maxRecDepth 100000 in
theorem slices_Clone__int_int.calls (x0_ : List Int) (A0_0 : Option Addr) (c0_0 : Nat) (r : List Int) (W F : World) (hsub : Sub F W) (g0_0 : Rd (Kn.int .i64) F A0_0 c0_0 x0_) (H : slices_Clone__int_int.f x0_ = some r) :
    Calls Try.prog 72 #[.slice A0_0 x0_.length c0_0] W fun e w' => ∃ v, e = .returned v ∧ slices_Clone__int_int.Post W F r v w' := by
  have hS := St.start (Own.nil hsub)
  unfold slices_Clone__int_int.f at H
  refine enter (n := 8) rfl rfl rfl (Nat.le_of_ble_eq_true rfl) (fun a hE => ?_)
  rcases A0_0 with _ | ad1
  · have hnil := g0_0.none_nil
    replace H : (some []) = some r := by simpa [hnil] using H
    refine wp_seq_k fun K2 hK2 => ?_
    refine plain (L := [0]) rfl ?_
    refine ops_chain (S := Agr _) (.k 0 1 [(2, .slice none 0 0)] (by kernel_rfl) .nil) (rest := []) hE (Agr.refl _) (fun a hE => ?_)
    refine ops_done ?_
    refine hK2 _ _ ?_
    refine wp_seq_k fun K3 hK3 => ?_
    refine wp_seq_k fun K4 hK4 => ?_
    refine plain (L := [0, 1]) rfl ?_
    refine ops_chain (S := Agr _) (.k 0 2 [(3, .slice none x0_.length c0_0), (4, .bool true)] (by kernel_rfl) .nil) (rest := []) hE (Agr.refl _) (fun a hE => ?_)
    refine ops_done ?_
    refine hK4 _ _ ?_
    refine cond_t hE rfl rfl ?_
    refine wp_seq_k fun K5 hK5 => ?_
    refine plain (L := [0]) rfl ?_
    refine ops_chain (S := Agr _) (.k 0 1 [(2, .slice none 0 0)] (by kernel_rfl) .nil) (rest := []) hE (Agr.refl _) (fun a hE => ?_)
    refine ops_done ?_
    refine hK5 _ _ ?_
    refine wp_ret (then_ret ?_)
    replace hS := hS.nilrow (Kn.int .i64) 3
    obtain rfl := Option.some.inj H
    exact ret1 hE rfl (.tmp rfl .nil) ⟨_, rfl, _, _, _, rfl, hS⟩
  · skip
    refine wp_seq_k fun K7 hK7 => ?_
    refine plain (L := [0]) rfl ?_
    refine ops_chain (S := Agr _) (.k 0 1 [(2, .slice none 0 0)] (by kernel_rfl) .nil) (rest := []) hE (Agr.refl _) (fun a hE => ?_)
    refine ops_done ?_
    refine hK7 _ _ ?_
    refine wp_seq_k fun K8 hK8 => ?_
    refine wp_seq_k fun K9 hK9 => ?_
    refine plain (L := [0, 1]) rfl ?_
    refine ops_chain (S := Agr _) (.k 0 2 [(3, .slice (some ad1) x0_.length c0_0), (4, .bool false)] (by kernel_rfl) .nil) (rest := []) hE (Agr.refl _) (fun a hE => ?_)
    refine ops_done ?_
    refine hK9 _ _ ?_
    refine cond_f hE rfl rfl ?_
    refine wp_skip ?_
    refine hK8 _ _ ?_
    refine wp_seq_k fun K10 hK10 => ?_
    refine plain (L := [0, 1, 2, 3]) rfl ?_
    refine ops_eff 0 hE (some 5) rfl rfl rfl rfl (e_lit (d := (Kn.int .i64)) (e := 3) hS [] ([] : List Int) (.nil) rfl rfl rfl rfl (by kernel_rfl)) ?_
    rintro _ u11 a ⟨A12, c13, rfl, hS, hg⟩ hE
    refine ops_chain (S := Agr _) (.k 1 1 [(6, .slice (some ad1) x0_.length c0_0)] (by kernel_rfl) .nil) (rest := [2, 3]) hE (Agr.refl _) (fun a hE => ?_)
    by_cases c15 : ((([] : List Int).length : Int) + (x0_.length : Int)) * 8 ≤ 140737488355328
    rotate_left
    · rw [if_neg c15] at H; cases H
    rw [if_pos c15] at H
    refine ops_eff 2 hE (some 7) rfl rfl rfl rfl (e_append (d := (Kn.int .i64)) hS rfl rfl rfl ud26 in3 rfl rfl rfl (g0_0.src hS.own.sub) c15) ?_
    rintro _ u18 a ⟨A16, c17, rfl, hS, hz⟩ hE
    refine ops_chain (S := Agr _) (.k 3 1 [(2, .slice A16 ((([] : List Int) ++ x0_).length) c17)] (by kernel_rfl) .nil) (rest := []) hE (Agr.refl _) (fun a hE => ?_)
    refine ops_done ?_
    refine hK10 _ _ ?_
    refine wp_ret ?_
    obtain rfl := Option.some.inj H
    exact ret1 hE rfl (.tmp rfl .nil) ⟨_, rfl, _, _, _, rfl, hS⟩

/-! ### slices.Clone[[]windrose/api.Accepted,windrose/api.Accepted]: function 109 -/
def slices_Clone__api_Accepted_api_Accepted.f (x0_ : List S49) : Option (List S49) := if ((([] : List S49).length : Int) + (x0_.length : Int)) * 80 ≤ 140737488355328 then (some (([] : List S49) ++ x0_)) else (none)
def slices_Clone__api_Accepted_api_Accepted.Post (W F : World) (r : List S49) (v : Value) (w' : World) : Prop := ∃ (F' : World) (A0_0 : Option Addr) (c0_0 : Nat), v = .slice A0_0 r.length c0_0 ∧ St W (mine W []) F w' F' [row k49 49 (.slice A0_0 r.length c0_0) r]
set_option maxHeartbeats 4000000 in
set_option maxRecDepth 100000 in
theorem slices_Clone__api_Accepted_api_Accepted.calls (x0_ : List S49) (A0_0 : Option Addr) (c0_0 : Nat) (r : List S49) (W F : World) (hsub : Sub F W) (g0_0 : Rd k49 F A0_0 c0_0 x0_) (H : slices_Clone__api_Accepted_api_Accepted.f x0_ = some r) :
    Calls Try.prog 109 #[.slice A0_0 x0_.length c0_0] W fun e w' => ∃ v, e = .returned v ∧ slices_Clone__api_Accepted_api_Accepted.Post W F r v w' := by
  have hS := St.start (Own.nil hsub)
  unfold slices_Clone__api_Accepted_api_Accepted.f at H
  refine enter (n := 8) rfl rfl rfl (Nat.le_of_ble_eq_true rfl) (fun a hE => ?_)
  rcases A0_0 with _ | ad1
  · have hnil := g0_0.none_nil
    replace H : (some []) = some r := by simpa [hnil] using H
    refine wp_seq_k fun K2 hK2 => ?_
    refine plain (L := [0]) rfl ?_
    refine ops_chain (S := Agr _) (.k 0 1 [(2, .slice none 0 0)] (by kernel_rfl) .nil) (rest := []) hE (Agr.refl _) (fun a hE => ?_)
    refine ops_done ?_
    refine hK2 _ _ ?_
    refine wp_seq_k fun K3 hK3 => ?_
    refine wp_seq_k fun K4 hK4 => ?_
    refine plain (L := [0, 1]) rfl ?_
    refine ops_chain (S := Agr _) (.k 0 2 [(3, .slice none x0_.length c0_0), (4, .bool true)] (by kernel_rfl) .nil) (rest := []) hE (Agr.refl _) (fun a hE => ?_)
    refine ops_done ?_
    refine hK4 _ _ ?_
    refine cond_t hE rfl rfl ?_
    refine wp_seq_k fun K5 hK5 => ?_
    refine plain (L := [0]) rfl ?_
    refine ops_chain (S := Agr _) (.k 0 1 [(2, .slice none 0 0)] (by kernel_rfl) .nil) (rest := []) hE (Agr.refl _) (fun a hE => ?_)
    refine ops_done ?_
    refine hK5 _ _ ?_
    refine wp_ret (then_ret ?_)
    replace hS := hS.nilrow k49 49
    obtain rfl := Option.some.inj H
    exact ret1 hE rfl (.tmp rfl .nil) ⟨_, rfl, _, _, _, rfl, hS⟩
  · skip
    refine wp_seq_k fun K7 hK7 => ?_
    refine plain (L := [0]) rfl ?_
    refine ops_chain (S := Agr _) (.k 0 1 [(2, .slice none 0 0)] (by kernel_rfl) .nil) (rest := []) hE (Agr.refl _) (fun a hE => ?_)
    refine ops_done ?_
    refine hK7 _ _ ?_
    refine wp_seq_k fun K8 hK8 => ?_
    refine wp_seq_k fun K9 hK9 => ?_
    refine plain (L := [0, 1]) rfl ?_
    refine ops_chain (S := Agr _) (.k 0 2 [(3, .slice (some ad1) x0_.length c0_0), (4, .bool false)] (by kernel_rfl) .nil) (rest := []) hE (Agr.refl _) (fun a hE => ?_)
    refine ops_done ?_
    refine hK9 _ _ ?_
    refine cond_f hE rfl rfl ?_
    refine wp_skip ?_
    refine hK8 _ _ ?_
    refine wp_seq_k fun K10 hK10 => ?_
    refine plain (L := [0, 1, 2, 3]) rfl ?_
    refine ops_eff 0 hE (some 5) rfl rfl rfl rfl (e_lit (d := k49) (e := 49) hS [] ([] : List S49) (.nil) rfl rfl rfl rfl (by kernel_rfl)) ?_
    rintro _ u11 a ⟨A12, c13, rfl, hS, hg⟩ hE
    refine ops_chain (S := Agr _) (.k 1 1 [(6, .slice (some ad1) x0_.length c0_0)] (by kernel_rfl) .nil) (rest := [2, 3]) hE (Agr.refl _) (fun a hE => ?_)
    by_cases c15 : ((([] : List S49).length : Int) + (x0_.length : Int)) * 80 ≤ 140737488355328
    rotate_left
    · rw [if_neg c15] at H; cases H
    rw [if_pos c15] at H
    refine ops_eff 2 hE (some 7) rfl rfl rfl rfl (e_append (d := k49) hS rfl rfl rfl ud22 in49 rfl rfl rfl (g0_0.src hS.own.sub) c15) ?_
    rintro _ u18 a ⟨A16, c17, rfl, hS, hz⟩ hE
    refine ops_chain (S := Agr _) (.k 3 1 [(2, .slice A16 ((([] : List S49) ++ x0_).length) c17)] (by kernel_rfl) .nil) (rest := []) hE (Agr.refl _) (fun a hE => ?_)
    refine ops_done ?_
    refine hK10 _ _ ?_
    refine wp_ret ?_
    obtain rfl := Option.some.inj H
    exact ret1 hE rfl (.tmp rfl .nil) ⟨_, rfl, _, _, _, rfl, hS⟩

/-! ### windrose/acceptor.copied: function 70 -/
def acceptor_copied.l19 : Nat → List S49 → List S49 → Int → Option (List S49)
  | 0, _, _, _ => none
  | k + 1, t3, l16, x17 => if x17 < (t3.length : Int) then (if 0 ≤ x17 ∧ x17 < (l16.length : Int) then ((slices_Clone__int_int.f ((nth z49 l16 x17).f1.f6)).bind fun t40 => (acceptor_copied.l19 k t3 (l16.set (x17).toNat (⟨(nth z49 l16 x17).f0, (⟨(nth z49 l16 x17).f1.f0, (nth z49 l16 x17).f1.f1, (nth z49 l16 x17).f1.f2, (nth z49 l16 x17).f1.f3, (nth z49 l16 x17).f1.f4, (nth z49 l16 x17).f1.f5, t40⟩ : S28)⟩ : S49)) (w64 (x17 + 1)))) else (none)) else (some l16)
theorem acceptor_copied.l19_s (k : Nat) (t3 : List S49) (l16 : List S49) (x17 : Int) : acceptor_copied.l19 (k + 1) t3 l16 x17 = (if x17 < (t3.length : Int) then (if 0 ≤ x17 ∧ x17 < (l16.length : Int) then ((slices_Clone__int_int.f ((nth z49 l16 x17).f1.f6)).bind fun t40 => (acceptor_copied.l19 k t3 (l16.set (x17).toNat (⟨(nth z49 l16 x17).f0, (⟨(nth z49 l16 x17).f1.f0, (nth z49 l16 x17).f1.f1, (nth z49 l16 x17).f1.f2, (nth z49 l16 x17).f1.f3, (nth z49 l16 x17).f1.f4, (nth z49 l16 x17).f1.f5, t40⟩ : S28)⟩ : S49)) (w64 (x17 + 1)))) else (none)) else (some l16)) := by kernel_rfl
def acceptor_copied.f (k : Nat) (x0_ : List S49) : Option (List S49) := (slices_Clone__api_Accepted_api_Accepted.f x0_).bind fun t3 => (acceptor_copied.l19 k t3 t3 0)
def acceptor_copied.Post (W F : World) (r : List S49) (v : Value) (w' : World) : Prop := ∃ (F' : World) (A0_0 : Option Addr) (c0_0 : Nat), v = .slice A0_0 r.length c0_0 ∧ St W (mine W []) F w' F' [row k49 49 (.slice A0_0 r.length c0_0) r]
set_option maxHeartbeats 4000000 in
set_option maxRecDepth 100000 in
theorem acceptor_copied.calls (k : Nat) (x0_ : List S49) (A0_0 : Option Addr) (c0_0 : Nat) (r : List S49) (W F : World) (hsub : Sub F W) (g0_0 : Rd k49 F A0_0 c0_0 x0_) (H : acceptor_copied.f k x0_ = some r) :
    Calls Try.prog 70 #[.slice A0_0 x0_.length c0_0] W fun e w' => ∃ v, e = .returned v ∧ acceptor_copied.Post W F r v w' := by
  have hS := St.start (Own.nil hsub)
  unfold acceptor_copied.f at H
  refine enter (n := 25) rfl rfl rfl (Nat.le_of_ble_eq_true rfl) (fun a hE => ?_)
  refine wp_seq_k fun K1 hK1 => ?_
  refine plain (L := [0]) rfl ?_
  refine ops_chain (S := Agr _) (.k 0 1 [(2, .slice none 0 0)] (by kernel_rfl) .nil) (rest := []) hE (Agr.refl _) (fun a hE => ?_)
  refine ops_done ?_
  refine hK1 _ _ ?_
  refine wp_seq_k fun K2 hK2 => ?_
  refine plain (L := [0, 1, 2]) rfl ?_
  refine ops_chain (S := Agr _) (.k 0 1 [(5, .slice A0_0 x0_.length c0_0)] (by kernel_rfl) .nil) (rest := [1, 2]) hE (Agr.refl _) (fun a hE => ?_)
  obtain ⟨t3, h4, H⟩ := Option.bind_eq_some_iff.mp H
  refine ops_eff 1 hE (some 6) rfl rfl rfl rfl (Eff.call en109 rfl [.slice A0_0 x0_.length c0_0] rfl (slices_Clone__api_Accepted_api_Accepted.calls x0_ _ _ _ _ _ hS.own.sub g0_0 h4)) ?_
  rintro _ u5 a ⟨F6, A7, c8, rfl, hC⟩ hE
  have hs := hC.sub
  replace hS : St W (mine W []) F u5 F6 [row k49 49 (.slice A7 t3.length c8) t3] := hS.called (X := []) (Y := [row k49 49 (.slice A7 t3.length c8) t3]) hC
  replace g0_0 := g0_0.mono hs
  refine ops_chain (S := Agr _) (.k 2 1 [(0, .slice A7 t3.length c8)] (by kernel_rfl) .nil) (rest := []) hE (Agr.refl _) (fun a hE => ?_)
  refine ops_done ?_
  refine hK2 _ _ ?_
  refine wp_seq_k fun K11 hK11 => ?_
  refine wp_seq_k fun K12 hK12 => ?_
  refine plain (L := [0, 1, 2]) rfl ?_
  refine ops_chain (S := Agr _) (.k 0 1 [(7, .slice A7 t3.length c8)] (by kernel_rfl) <| .v 1 8 rfl rfl rfl rfl (YA.s (len_sl rfl rfl ud22)) <| .k 2 1 [(9, .int .i64 0)] (by kernel_rfl) .nil) (rest := []) hE (Agr.refl _) (fun a hE => ?_)
  refine ops_done ?_
  refine hK12 _ _ ?_
  refine wp_block ?_
  obtain ⟨J, hE⟩ := hE.norm [(0, .slice A7 t3.length c8), (2, .slice none 0 0), (7, .slice A7 t3.length c8), (8, .int .i64 (t3.length : Int)), (9, .int .i64 0)] (.cons rfl <| .cons rfl <| .cons rfl <| .cons rfl <| .cons rfl .nil)
  refine wp_loop_ghost (fun kq20 a w' => ∃ (J : Nat → Value) (A14 : Option Addr) (c15 : Nat) (l16 : List S49) (x17 : Int) (F18 : World), Env 25 (updL J [(0, .slice A14 l16.length c15), (2, .slice none 0 0), (7, .slice A14 l16.length c15), (8, .int .i64 (t3.length : Int)), (9, .int .i64 x17)]) a ∧ St W (mine W []) F w' F18 [row k49 49 (.slice A14 l16.length c15) l16] ∧  acceptor_copied.l19 kq20 t3 l16 x17 = some r) k ⟨J, A7, c8, t3, 0, F6, hE, hS, H⟩ ?_
  rintro kq20 a u22 ⟨J, A14, c15, l16, x17, F18, hE, hS, H⟩
  cases kq20 with
  | zero => cases (show none = some r from H)
  | succ k21 =>
    rw [acceptor_copied.l19_s] at H
    refine wp_seq_k fun K23 hK23 => ?_
    refine plain (L := [0]) rfl ?_
    refine ops_chain (S := Agr _) (.k 0 1 [(10, .bool (decide (x17 < (t3.length : Int))))] (by kernel_rfl) .nil) (rest := []) hE (Agr.refl _) (fun a hE => ?_)
    refine ops_done ?_
    refine hK23 _ _ ?_
    refine wp_seq_k fun K24 hK24 => ?_
    by_cases c25 : x17 < (t3.length : Int)
    · rw [if_pos c25] at H
      refine cond_t hE (b := (decide (x17 < (t3.length : Int)))) rfl (decide_eq_true c25) ?_
      refine wp_skip ?_
      refine hK24 _ _ ?_
      refine wp_seq_k fun K26 hK26 => ?_
      refine wp_block ?_
      refine wp_seq_k fun K27 hK27 => ?_
      refine plain (L := [0, 1, 2, 3, 4, 5]) rfl ?_
      by_cases c28 : 0 ≤ x17 ∧ x17 < (l16.length : Int)
      rotate_left
      · rw [if_neg c28] at H; cases H
      rw [if_pos c28] at H
      have hr29 := hS.row_at (i := 0) rfl
      obtain ⟨b30, rfl⟩ := row_addr hr29 c28.1 c28.2
      have hr_ := hS.row_at (i := 0) rfl
      obtain ⟨cs32, ⟨A34, c35, rfl, g36⟩, hc33⟩ := row_el hr_ z49 x17 c28.1 c28.2
      refine ops_chain (S := Agr _) (.k 0 1 [(11, .int .i64 x17)] (by kernel_rfl) <| .v 1 12 rfl rfl rfl rfl (YA.s (ix 8 rfl rfl rfl ud22 sz49 c28.1 c28.2)) <| .v 2 13 rfl rfl rfl rfl (lon [.int .i64 ((nth z49 l16 x17).f0), .int .i64 ((nth z49 l16 x17).f1.f0), .int .i64 ((nth z49 l16 x17).f1.f1), .int .i64 ((nth z49 l16 x17).f1.f2), .int .i64 ((nth z49 l16 x17).f1.f3), .int .i64 ((nth z49 l16 x17).f1.f4), .int .i64 ((nth z49 l16 x17).f1.f5), .slice A34 (((nth z49 l16 x17).f1.f6).length) c35] rfl rfl ag49 sz49 hc33) .nil) (rest := [3, 4, 5]) hE (Agr.refl _) (fun a hE => ?_)
      refine ops_eff 3 hE (some 4) rfl rfl rfl rfl (e_alloc hS rfl z49z #[.int .i64 0, .int .i64 0, .int .i64 0, .int .i64 0, .int .i64 0, .int .i64 0, .int .i64 0, .slice none 0 0] rfl) ?_
      rintro _ u38 a ⟨b37, rfl, hb37, hS, hg⟩ hE
      refine ops_chain (S := Agr _) (.k 4 1 [(3, .int .i64 x17)] (by kernel_rfl) .nil) (rest := [5]) hE (Agr.refl _) (fun a hE => ?_)
      refine ops_eff 5 hE none rfl rfl rfl rfl (e_store (off := 0) hS rfl rfl rfl sz49 (Nat.le_of_ble_eq_true rfl) (all_one rfl) #[.int .i64 ((nth z49 l16 x17).f0), .int .i64 ((nth z49 l16 x17).f1.f0), .int .i64 ((nth z49 l16 x17).f1.f1), .int .i64 ((nth z49 l16 x17).f1.f2), .int .i64 ((nth z49 l16 x17).f1.f3), .int .i64 ((nth z49 l16 x17).f1.f4), .int .i64 ((nth z49 l16 x17).f1.f5), .slice A34 (((nth z49 l16 x17).f1.f6).length) c35] rfl) ?_
      rintro _ u39 a ⟨rfl, hb37, hS, hz⟩ hE
      refine ops_done ?_
      refine hK27 _ _ ?_
      refine plain (L := [0, 1, 2, 3, 4, 5, 6, 7, 8, 9]) rfl ?_
      refine ops_chain (S := Agr _) (.k 0 4 [(14, .slice (some ⟨b30, 0, none⟩) l16.length c15), (15, .int .i64 x17), (16, .pointer (some ⟨b37, 1, none⟩)), (17, .pointer (some ⟨b37, 7, none⟩))] (by kernel_rfl) <| .v 4 18 rfl rfl rfl rfl (lb1 7 (.slice A34 (((nth z49 l16 x17).f1.f6).length) c35) rfl rfl ag26 hb37 rfl) .nil) (rest := [5, 6, 7, 8, 9]) hE (Agr.refl _) (fun a hE => ?_)
      obtain ⟨t40, h41, H⟩ := Option.bind_eq_some_iff.mp H
      refine ops_eff 5 hE (some 19) rfl rfl rfl rfl (Eff.call en72 rfl [.slice A34 (((nth z49 l16 x17).f1.f6).length) c35] rfl (slices_Clone__int_int.calls ((nth z49 l16 x17).f1.f6) _ _ _ _ _ hS.own.sub g36 h41)) ?_
      rintro _ u42 a ⟨F43, A44, c45, rfl, hC⟩ hE
      have hs := hC.sub
      replace hS : St W (mine W []) F u42 F43 [row (Kn.int .i64) 3 (.slice A44 t40.length c45) t40, box b37 #[.int .i64 ((nth z49 l16 x17).f0), .int .i64 ((nth z49 l16 x17).f1.f0), .int .i64 ((nth z49 l16 x17).f1.f1), .int .i64 ((nth z49 l16 x17).f1.f2), .int .i64 ((nth z49 l16 x17).f1.f3), .int .i64 ((nth z49 l16 x17).f1.f4), .int .i64 ((nth z49 l16 x17).f1.f5), .slice A34 (((nth z49 l16 x17).f1.f6).length) c35] 49, row k49 49 (.slice (some ⟨b30, 0, none⟩) l16.length c15) l16] := hS.called (X := []) (Y := [row (Kn.int .i64) 3 (.slice A44 t40.length c45) t40]) hC
      replace g36 := g36.mono hs
      have hr48 := hS.row_at (i := 2) rfl
      have hr_ := hS.row_at (i := 2) rfl
      obtain ⟨cs50, ⟨A52, c53, rfl, g54⟩, hc51⟩ := row_el hr_ z49 x17 c28.1 c28.2
      refine ops_chain (S := Agr _) (.v 6 20 rfl rfl rfl rfl (YA.s (ix 8 rfl rfl rfl ud22 sz49 c28.1 c28.2)) <| .k 7 2 [(21, .pointer (some (((⟨b30, 0, none⟩ : Addr).add (x17.toNat * 8)).add 1))), (22, .pointer (some ((((⟨b30, 0, none⟩ : Addr).add (x17.toNat * 8)).add 1).add 6)))] (by kernel_rfl) .nil) (rest := [9]) hE (Agr.refl _) (fun a hE => ?_)
      obtain ⟨F56, hs, g57, hS⟩ := hS.give
      replace g36 := g36.mono hs
      replace hS := hS.front 1 rfl
      obtain ⟨cs61, ⟨A58, c59, rfl, g60⟩, hc62⟩ := row_el (hS.row_at (i := 0) rfl) z49 x17 c28.1 c28.2
      refine ops_eff 9 hE none rfl rfl rfl rfl (e_set (d := k49) (n := l16.length) (off := 1 + 6) (i := x17) (⟨(nth z49 l16 x17).f0, (⟨(nth z49 l16 x17).f1.f0, (nth z49 l16 x17).f1.f1, (nth z49 l16 x17).f1.f2, (nth z49 l16 x17).f1.f3, (nth z49 l16 x17).f1.f4, (nth z49 l16 x17).f1.f5, t40⟩ : S28)⟩ : S49) hS rfl rfl (ea2 _ _ _ _) rfl sz26 c28.1 c28.2 [.int .i64 ((nth z49 l16 x17).f0), .int .i64 ((nth z49 l16 x17).f1.f0), .int .i64 ((nth z49 l16 x17).f1.f1), .int .i64 ((nth z49 l16 x17).f1.f2), .int .i64 ((nth z49 l16 x17).f1.f3), .int .i64 ((nth z49 l16 x17).f1.f4), .int .i64 ((nth z49 l16 x17).f1.f5), .slice A58 (((nth z49 l16 x17).f1.f6).length) c59] hc62 rfl (Nat.le_of_ble_eq_true rfl) (all_one rfl) [.int .i64 ((nth z49 l16 x17).f0), .int .i64 ((nth z49 l16 x17).f1.f0), .int .i64 ((nth z49 l16 x17).f1.f1), .int .i64 ((nth z49 l16 x17).f1.f2), .int .i64 ((nth z49 l16 x17).f1.f3), .int .i64 ((nth z49 l16 x17).f1.f4), .int .i64 ((nth z49 l16 x17).f1.f5), .slice A44 t40.length c45] rfl ⟨_, _, rfl, g57⟩) ?_
      rintro _ u55 a ⟨rfl, hS, hz⟩ hE
      refine ops_done ?_
      refine hK26 _ _ ?_
      refine plain (L := [0, 1]) rfl ?_
      refine ops_chain (S := Agr _) (.k 0 2 [(23, .int .i64 (w64 (x17 + 1))), (9, .int .i64 (w64 (x17 + 1)))] (by kernel_rfl) .nil) (rest := []) hE (Agr.refl _) (fun a hE => ?_)
      refine ops_done ?_
      obtain ⟨J, hE⟩ := hE.norm [(0, .slice (some ⟨b30, 0, none⟩) ((l16.set (x17).toNat (⟨(nth z49 l16 x17).f0, (⟨(nth z49 l16 x17).f1.f0, (nth z49 l16 x17).f1.f1, (nth z49 l16 x17).f1.f2, (nth z49 l16 x17).f1.f3, (nth z49 l16 x17).f1.f4, (nth z49 l16 x17).f1.f5, t40⟩ : S28)⟩ : S49)).length) c15), (2, .slice none 0 0), (3, .int .i64 x17), (4, .pointer (some ⟨b37, 0, none⟩)), (7, .slice (some ⟨b30, 0, none⟩) ((l16.set (x17).toNat (⟨(nth z49 l16 x17).f0, (⟨(nth z49 l16 x17).f1.f0, (nth z49 l16 x17).f1.f1, (nth z49 l16 x17).f1.f2, (nth z49 l16 x17).f1.f3, (nth z49 l16 x17).f1.f4, (nth z49 l16 x17).f1.f5, t40⟩ : S28)⟩ : S49)).length) c15), (8, .int .i64 (t3.length : Int)), (9, .int .i64 (w64 (x17 + 1))), (10, .bool (decide (x17 < (t3.length : Int))))] (.cons (Eq.trans (b := .slice (some ⟨b30, 0, none⟩) l16.length c15) rfl (by simp only [List.length_set])) <| .cons rfl <| .cons rfl <| .cons rfl <| .cons (Eq.trans (b := .slice (some ⟨b30, 0, none⟩) l16.length c15) rfl (by simp only [List.length_set])) <| .cons rfl <| .cons rfl <| .cons rfl .nil)
      replace hS : St W (mine W []) F u55 F56 [row k49 49 (.slice (some ⟨b30, 0, none⟩) ((l16.set (x17).toNat (⟨(nth z49 l16 x17).f0, (⟨(nth z49 l16 x17).f1.f0, (nth z49 l16 x17).f1.f1, (nth z49 l16 x17).f1.f2, (nth z49 l16 x17).f1.f3, (nth z49 l16 x17).f1.f4, (nth z49 l16 x17).f1.f5, t40⟩ : S28)⟩ : S49)).length) c15) (l16.set (x17).toNat (⟨(nth z49 l16 x17).f0, (⟨(nth z49 l16 x17).f1.f0, (nth z49 l16 x17).f1.f1, (nth z49 l16 x17).f1.f2, (nth z49 l16 x17).f1.f3, (nth z49 l16 x17).f1.f4, (nth z49 l16 x17).f1.f5, t40⟩ : S28)⟩ : S49)), box b37 #[.int .i64 ((nth z49 l16 x17).f0), .int .i64 ((nth z49 l16 x17).f1.f0), .int .i64 ((nth z49 l16 x17).f1.f1), .int .i64 ((nth z49 l16 x17).f1.f2), .int .i64 ((nth z49 l16 x17).f1.f3), .int .i64 ((nth z49 l16 x17).f1.f4), .int .i64 ((nth z49 l16 x17).f1.f5), .slice A34 (((nth z49 l16 x17).f1.f6).length) c35] 49] := by simpa only [List.length_set] using hS
      replace hS := hS.front 1 rfl
      replace hS := hS.tail
      obtain ⟨J, hE⟩ := hE.norm [(0, .slice (some ⟨b30, 0, none⟩) ((l16.set (x17).toNat (⟨(nth z49 l16 x17).f0, (⟨(nth z49 l16 x17).f1.f0, (nth z49 l16 x17).f1.f1, (nth z49 l16 x17).f1.f2, (nth z49 l16 x17).f1.f3, (nth z49 l16 x17).f1.f4, (nth z49 l16 x17).f1.f5, t40⟩ : S28)⟩ : S49)).length) c15), (2, .slice none 0 0), (7, .slice (some ⟨b30, 0, none⟩) ((l16.set (x17).toNat (⟨(nth z49 l16 x17).f0, (⟨(nth z49 l16 x17).f1.f0, (nth z49 l16 x17).f1.f1, (nth z49 l16 x17).f1.f2, (nth z49 l16 x17).f1.f3, (nth z49 l16 x17).f1.f4, (nth z49 l16 x17).f1.f5, t40⟩ : S28)⟩ : S49)).length) c15), (8, .int .i64 (t3.length : Int)), (9, .int .i64 (w64 (x17 + 1)))] (.cons rfl <| .cons rfl <| .cons rfl <| .cons rfl <| .cons rfl .nil)
      exact then_n ⟨k21, by omega, J, (some ⟨b30, 0, none⟩), c15, (l16.set (x17).toNat (⟨(nth z49 l16 x17).f0, (⟨(nth z49 l16 x17).f1.f0, (nth z49 l16 x17).f1.f1, (nth z49 l16 x17).f1.f2, (nth z49 l16 x17).f1.f3, (nth z49 l16 x17).f1.f4, (nth z49 l16 x17).f1.f5, t40⟩ : S28)⟩ : S49)), (w64 (x17 + 1)), F56, hE, hS, H⟩
    · rw [if_neg c25] at H
      refine cond_f hE (b := (decide (x17 < (t3.length : Int)))) rfl (decide_eq_false c25) ?_
      refine wp_exit ?_
      refine hK11 _ _ ?_
      refine wp_seq_k fun K63 hK63 => ?_
      refine plain (L := [0, 1]) rfl ?_
      refine ops_chain (S := Agr _) (.k 0 2 [(24, .slice A14 l16.length c15), (2, .slice A14 l16.length c15)] (by kernel_rfl) .nil) (rest := []) hE (Agr.refl _) (fun a hE => ?_)
      refine ops_done ?_
      refine hK63 _ _ ?_
      refine wp_ret ?_
      obtain rfl := Option.some.inj H
      exact ret1 hE rfl (.tmp rfl .nil) ⟨_, rfl, _, _, _, rfl, hS⟩

/-! ### windrose/acceptor.Prepare: function 19 -/
def acceptor_Prepare.j35 : Nat → S24 → Int → Int → List S49 → Bool → Option (S24 × (List S49) × Int)
  | 0, _, _, _, _, _ => none
  | k + 1, x0_, x1_, x2_, t16, y34 => if y34 = true then (some ((⟨x0_.f0, t16⟩ : S24), [], 1)) else (if x1_ < x0_.f0 then (some ((⟨x0_.f0, t16⟩ : S24), [], 9)) else (if 0 ≤ (if (t16.length : Int) < (w64 (x2_ - 1)) then (t16.length : Int) else (w64 (x2_ - 1))) ∧ (if (t16.length : Int) < (w64 (x2_ - 1)) then (t16.length : Int) else (w64 (x2_ - 1))) ≤ (t16.length : Int) then ((acceptor_copied.f k (cutl t16 (if (t16.length : Int) < (w64 (x2_ - 1)) then (t16.length : Int) else (w64 (x2_ - 1))) (t16.length : Int))).bind fun t63 => (some ((⟨x1_, t16⟩ : S24), t63, 0))) else (none)))
theorem acceptor_Prepare.j35_s (k : Nat) (x0_ : S24) (x1_ : Int) (x2_ : Int) (t16 : List S49) (y34 : Bool) : acceptor_Prepare.j35 (k + 1) x0_ x1_ x2_ t16 y34 = (if y34 = true then (some ((⟨x0_.f0, t16⟩ : S24), [], 1)) else (if x1_ < x0_.f0 then (some ((⟨x0_.f0, t16⟩ : S24), [], 9)) else (if 0 ≤ (if (t16.length : Int) < (w64 (x2_ - 1)) then (t16.length : Int) else (w64 (x2_ - 1))) ∧ (if (t16.length : Int) < (w64 (x2_ - 1)) then (t16.length : Int) else (w64 (x2_ - 1))) ≤ (t16.length : Int) then ((acceptor_copied.f k (cutl t16 (if (t16.length : Int) < (w64 (x2_ - 1)) then (t16.length : Int) else (w64 (x2_ - 1))) (t16.length : Int))).bind fun t63 => (some ((⟨x1_, t16⟩ : S24), t63, 0))) else (none)))) := by kernel_rfl
def acceptor_Prepare.f (k : Nat) (x0_ : S24) (x1_ : Int) (x2_ : Int) : Option (S24 × (List S49) × Int) := (acceptor_Check.f k x0_).bind fun t8 => (if t8 = 0 then ((acceptor_copied.f k x0_.f1).bind fun t16 => ((acceptor_in.f x1_ 1 2147483647).bind fun t27 => (if t27 = true then ((acceptor_in.f x2_ 1 257).bind fun t31 => (acceptor_Prepare.j35 k x0_ x1_ x2_ t16 (!t31))) else (acceptor_Prepare.j35 k x0_ x1_ x2_ t16 true)))) else (some ((⟨0, []⟩ : S24), [], 1)))
def acceptor_Prepare.Post (W F : World) (r : S24 × (List S49) × Int) (v : Value) (w' : World) : Prop := ∃ (F' : World) (A0_1 : Option Addr) (c0_1 : Nat) (A1_0 : Option Addr) (c1_0 : Nat), v = .tuple #[.agg #[.int .i64 r.1.f0, .slice A0_1 r.1.f1.length c0_1], .slice A1_0 r.2.1.length c1_0, .int .i64 r.2.2] ∧ St W (mine W []) F w' F' [row k49 49 (.slice A1_0 r.2.1.length c1_0) r.2.1] ∧ Rd k49 F' A0_1 c0_1 r.1.f1
set_option maxHeartbeats 4000000 in
set_option maxRecDepth 100000 in
theorem acceptor_Prepare.calls (k : Nat) (x0_ : S24) (x1_ : Int) (x2_ : Int) (A0_1 : Option Addr) (c0_1 : Nat) (r : S24 × (List S49) × Int) (W F : World) (hsub : Sub F W) (g0_1 : Rd k49 F A0_1 c0_1 x0_.f1) (H : acceptor_Prepare.f k x0_ x1_ x2_ = some r) :
    Calls Try.prog 19 #[.agg #[.int .i64 x0_.f0, .slice A0_1 x0_.f1.length c0_1], .int .i64 x1_, .int .i64 x2_] W fun e w' => ∃ v, e = .returned v ∧ acceptor_Prepare.Post W F r v w' := by
  have hS := St.start (Own.nil hsub)
  unfold acceptor_Prepare.f at H
  refine enter (n := 46) rfl rfl rfl (Nat.le_of_ble_eq_true rfl) (fun a hE => ?_)
  refine wp_seq_k fun K1 hK1 => ?_
  refine plain (L := [0, 1, 2, 3]) rfl ?_
  refine ops_eff 0 hE (some 3) rfl rfl rfl rfl (e_box hS rfl rfl #[.int .i64 x0_.f0, .slice A0_1 x0_.f1.length c0_1] rfl) ?_
  rintro _ u3 a ⟨b2, rfl, hb2, hS, hg⟩ hE
  refine ops_eff 1 hE (some 6) rfl rfl rfl rfl (e_alloc hS rfl z24z #[.int .i64 0, .slice none 0 0] rfl) ?_
  rintro _ u5 a ⟨b4, rfl, hb4, hS, hg⟩ hE
  refine ops_chain (S := Agr _) (.k 2 2 [(7, .slice none 0 0), (8, .int .i64 0)] (by kernel_rfl) .nil) (rest := []) hE (Agr.refl _) (fun a hE => ?_)
  refine ops_done ?_
  refine hK1 _ _ ?_
  refine wp_seq_k fun K6 hK6 => ?_
  refine wp_seq_k fun K7 hK7 => ?_
  refine plain (L := [0, 1, 2]) rfl ?_
  have hb2 := hS.blk_at (i := 1) rfl
  refine ops_chain (S := Agr _) (.v 0 9 rfl rfl rfl rfl (lbn 0 [.int .i64 x0_.f0, .slice A0_1 x0_.f1.length c0_1] rfl rfl ag24 sz24 hb2 rfl) .nil) (rest := [1, 2]) hE (Agr.refl _) (fun a hE => ?_)
  obtain ⟨t8, h9, H⟩ := Option.bind_eq_some_iff.mp H
  refine ops_eff 1 hE (some 10) rfl rfl rfl rfl (Eff.call en21 rfl [.agg #[.int .i64 x0_.f0, .slice A0_1 x0_.f1.length c0_1]] rfl (acceptor_Check.calls k x0_ _ _ _ _ _ hS.own.sub g0_1 h9)) ?_
  rintro _ u10 a ⟨_, rfl, hC⟩ hE
  replace hS := hS.lent hC
  refine ops_chain (S := Agr _) (.k 2 1 [(11, .bool (!(t8 == 0)))] (by kernel_rfl) .nil) (rest := []) hE (Agr.refl _) (fun a hE => ?_)
  refine ops_done ?_
  refine hK7 _ _ ?_
  by_cases c11 : t8 = 0
  · rw [if_pos c11] at H
    refine cond_f hE (b := (!(t8 == 0))) rfl (congrArg not (beq_iff_eq.2 c11)) ?_
    refine wp_skip ?_
    refine hK6 _ _ ?_
    refine wp_seq_k fun K15 hK15 => ?_
    refine plain (L := [0, 1, 2, 3, 4]) rfl ?_
    have hb2 := hS.blk_at (i := 1) rfl
    refine ops_chain (S := Agr _) (.k 0 1 [(13, .pointer (some ⟨b2, 1, none⟩))] (by kernel_rfl) <| .v 1 14 rfl rfl rfl rfl (lb1 1 (.slice A0_1 x0_.f1.length c0_1) rfl rfl ag22 hb2 rfl) .nil) (rest := [2, 3, 4]) hE (Agr.refl _) (fun a hE => ?_)
    obtain ⟨t16, h17, H⟩ := Option.bind_eq_some_iff.mp H
    refine ops_eff 2 hE (some 15) rfl rfl rfl rfl (Eff.call en70 rfl [.slice A0_1 x0_.f1.length c0_1] rfl (acceptor_copied.calls k x0_.f1 _ _ _ _ _ hS.own.sub g0_1 h17)) ?_
    rintro _ u18 a ⟨F19, A20, c21, rfl, hC⟩ hE
    have hs := hC.sub
    replace hS : St W (mine W []) F u18 F19 [row k49 49 (.slice A20 t16.length c21) t16, box b4 #[.int .i64 0, .slice none 0 0] 24, box b2 #[.int .i64 x0_.f0, .slice A0_1 x0_.f1.length c0_1] 24] := hS.called (X := []) (Y := [row k49 49 (.slice A20 t16.length c21) t16]) hC
    replace g0_1 := g0_1.mono hs
    refine ops_chain (S := Agr _) (.k 3 1 [(16, .pointer (some ⟨b2, 1, none⟩))] (by kernel_rfl) .nil) (rest := [4]) hE (Agr.refl _) (fun a hE => ?_)
    replace hS := hS.front 2 rfl
    refine ops_eff 4 hE none rfl rfl rfl rfl (e_store (off := 1) hS rfl rfl rfl sz22 (Nat.le_of_ble_eq_true rfl) (all_one rfl) #[.int .i64 x0_.f0, .slice A20 t16.length c21] rfl) ?_
    rintro _ u24 a ⟨rfl, hb2, hS, hz⟩ hE
    refine ops_done ?_
    refine hK15 _ _ ?_
    refine wp_seq_k fun K25 hK25 => ?_
    refine wp_block ?_
    refine wp_seq_k fun K26 hK26 => ?_
    have J38 : ∀ kq36, kq36 ≤ k → ∀ (J : Nat → Value) (y34 : Bool) (a : Act) (w' : World), Env 46 (updL J [(0, .agg #[.int .i64 x0_.f0, .slice A0_1 x0_.f1.length c0_1]), (1, .int .i64 x1_), (2, .int .i64 x2_), (3, .pointer (some ⟨b2, 0, none⟩)), (6, .pointer (some ⟨b4, 0, none⟩)), (7, .slice none 0 0), (8, .int .i64 0), (11, .bool (!(t8 == 0))), (17, .bool y34)]) a → St W (mine W []) F w' F19 [box b2 #[.int .i64 x0_.f0, .slice A20 t16.length c21] 24, box b4 #[.int .i64 0, .slice none 0 0] 24, row k49 49 (.slice A20 t16.length c21) t16] → acceptor_Prepare.j35 kq36 x0_ x1_ x2_ t16 y34 = some r → K26 a w' := by
      intro kq36 hkq J y34 a u39 hE hS H
      cases kq36 with
      | zero => cases (show none = some r from H)
      | succ k37 =>
        rw [acceptor_Prepare.j35_s] at H
        refine hK26 _ _ ?_
        by_cases c40 : y34 = true
        · rw [if_pos c40] at H
          refine cond_t hE (b := y34) rfl c40 ?_
          refine wp_seq_k fun K41 hK41 => ?_
          refine plain (L := [0, 1, 2, 3]) rfl ?_
          have hb2 := hS.blk_at (i := 0) rfl
          refine ops_chain (S := Agr _) (.v 0 26 rfl rfl rfl rfl (lbn 0 [.int .i64 x0_.f0, .slice A20 t16.length c21] rfl rfl ag24 sz24 hb2 rfl) .nil) (rest := [1, 2, 3]) hE (Agr.refl _) (fun a hE => ?_)
          replace hS := hS.front 1 rfl
          refine ops_eff 1 hE none rfl rfl rfl rfl (e_store (off := 0) hS rfl rfl rfl sz24 (Nat.le_of_ble_eq_true rfl) (all_one rfl) #[.int .i64 x0_.f0, .slice A20 t16.length c21] rfl) ?_
          rintro _ u42 a ⟨rfl, hb4, hS, hz⟩ hE
          refine ops_chain (S := Agr _) (.k 2 2 [(7, .slice none 0 0), (8, .int .i64 1)] (by kernel_rfl) .nil) (rest := []) hE (Agr.refl _) (fun a hE => ?_)
          refine ops_done ?_
          refine hK41 _ _ ?_
          refine wp_ret (block_ret (then_ret ?_))
          replace hS := hS.front 2 rfl
          obtain ⟨F43, hs, g44, hS⟩ := hS.give
          replace g0_1 := g0_1.mono hs
          replace hS := hS.nilrow k49 49
          replace hS := hS.front 1 rfl
          replace hS := hS.tail
          replace hS := hS.front 1 rfl
          replace hS := hS.tail
          obtain rfl := Option.some.inj H
          exact retN hE rfl (of_decide_eq_true rfl) (.cell rfl (res_blk [.int .i64 x0_.f0, .slice A20 t16.length c21] ag24 sz24 hb4 rfl) (.tmp rfl (.tmp rfl .nil))) ⟨_, rfl, _, _, _, _, _, rfl, hS, g44⟩
        · rw [if_neg c40] at H
          refine cond_f hE (b := y34) rfl (eq_false_of_ne_true c40) ?_
          refine wp_seq_k fun K46 hK46 => ?_
          refine plain (L := [0, 1, 2, 3, 4]) rfl ?_
          have hb2 := hS.blk_at (i := 0) rfl
          refine ops_chain (S := Agr _) (.k 0 2 [(28, .int .i64 x1_), (29, .pointer (some ⟨b2, 0, none⟩))] (by kernel_rfl) <| .v 2 30 rfl rfl rfl rfl (lb1 0 (.int .i64 x0_.f0) rfl rfl ag3 hb2 rfl) <| .k 3 2 [(31, .bool (decide (x1_ < x0_.f0))), (27, .bool (decide (x1_ < x0_.f0)))] (by kernel_rfl) .nil) (rest := []) hE (Agr.refl _) (fun a hE => ?_)
          refine ops_done ?_
          refine hK46 _ _ ?_
          by_cases c47 : x1_ < x0_.f0
          · rw [if_pos c47] at H
            refine cond_t hE (b := (decide (x1_ < x0_.f0))) rfl (decide_eq_true c47) ?_
            refine wp_seq_k fun K48 hK48 => ?_
            refine plain (L := [0, 1, 2, 3]) rfl ?_
            refine ops_chain (S := Agr _) (.v 0 32 rfl rfl rfl rfl (lbn 0 [.int .i64 x0_.f0, .slice A20 t16.length c21] rfl rfl ag24 sz24 hb2 rfl) .nil) (rest := [1, 2, 3]) hE (Agr.refl _) (fun a hE => ?_)
            replace hS := hS.front 1 rfl
            refine ops_eff 1 hE none rfl rfl rfl rfl (e_store (off := 0) hS rfl rfl rfl sz24 (Nat.le_of_ble_eq_true rfl) (all_one rfl) #[.int .i64 x0_.f0, .slice A20 t16.length c21] rfl) ?_
            rintro _ u49 a ⟨rfl, hb4, hS, hz⟩ hE
            refine ops_chain (S := Agr _) (.k 2 2 [(7, .slice none 0 0), (8, .int .i64 9)] (by kernel_rfl) .nil) (rest := []) hE (Agr.refl _) (fun a hE => ?_)
            refine ops_done ?_
            refine hK48 _ _ ?_
            refine wp_ret (block_ret (then_ret ?_))
            replace hS := hS.front 2 rfl
            obtain ⟨F50, hs, g51, hS⟩ := hS.give
            replace g0_1 := g0_1.mono hs
            replace hS := hS.nilrow k49 49
            replace hS := hS.front 1 rfl
            replace hS := hS.tail
            replace hS := hS.front 1 rfl
            replace hS := hS.tail
            obtain rfl := Option.some.inj H
            exact retN hE rfl (of_decide_eq_true rfl) (.cell rfl (res_blk [.int .i64 x0_.f0, .slice A20 t16.length c21] ag24 sz24 hb4 rfl) (.tmp rfl (.tmp rfl .nil))) ⟨_, rfl, _, _, _, _, _, rfl, hS, g51⟩
          · rw [if_neg c47] at H
            refine cond_f hE (b := (decide (x1_ < x0_.f0))) rfl (decide_eq_false c47) ?_
            refine wp_skip ?_
            refine hK25 _ _ ?_
            refine wp_seq_k fun K53 hK53 => ?_
            refine plain (L := [0, 1, 2]) rfl ?_
            refine ops_chain (S := Agr _) (.k 0 2 [(33, .int .i64 x1_), (34, .pointer (some ⟨b2, 0, none⟩))] (by kernel_rfl) .nil) (rest := [2]) hE (Agr.refl _) (fun a hE => ?_)
            refine ops_eff 2 hE none rfl rfl rfl rfl (e_store (off := 0) hS rfl rfl rfl sz3 (Nat.le_of_ble_eq_true rfl) (all_one rfl) #[.int .i64 x1_, .slice A20 t16.length c21] rfl) ?_
            rintro _ u54 a ⟨rfl, hb2, hS, hz⟩ hE
            refine ops_done ?_
            refine hK53 _ _ ?_
            refine wp_seq_k fun K55 hK55 => ?_
            refine drawn 14 [11] mixed rfl (by kernel_rfl) (fun hst => ?_)
            replace hS := hS.drew
            have hb2 := hS.blk_at (i := 0) rfl
            replace hS := hS.front 2 rfl
            obtain ⟨F56, hs, g57, hS⟩ := hS.give
            replace g0_1 := g0_1.mono hs
            by_cases c58 : 0 ≤ (if (t16.length : Int) < (w64 (x2_ - 1)) then (t16.length : Int) else (w64 (x2_ - 1))) ∧ (if (t16.length : Int) < (w64 (x2_ - 1)) then (t16.length : Int) else (w64 (x2_ - 1))) ≤ (t16.length : Int)
            rotate_left
            · rw [if_neg c58] at H; cases H
            rw [if_pos c58] at H
            obtain ⟨A59, c60, g61, hv62⟩ := cutlo g57 c58 ud22 sz49 (P := Try.prog)
            refine many 1023 hst hE (.v 0 35 rfl rfl rfl rfl (lbn 0 [.int .i64 x1_, .slice A20 t16.length c21] rfl rfl ag24 sz24 hb2 rfl) <| .k 1 1 [(36, .pointer (some ⟨b2, 1, none⟩))] (by kernel_rfl) <| .v 2 37 rfl rfl rfl rfl (lb1 1 (.slice A20 t16.length c21) rfl rfl ag22 hb2 rfl) <| .k 3 3 [(38, .int .i64 x2_), (39, .int .i64 (w64 (x2_ - 1))), (40, .pointer (some ⟨b2, 1, none⟩))] (by kernel_rfl) <| .v 6 41 rfl rfl rfl rfl (lb1 1 (.slice A20 t16.length c21) rfl rfl ag22 hb2 rfl) <| .q 7 42 rfl rfl rfl rfl (len_sl rfl rfl ud22) <| .k 8 1 [(43, .int .i64 (if (t16.length : Int) < (w64 (x2_ - 1)) then (t16.length : Int) else (w64 (x2_ - 1))))] (by kernel_rfl) <| .q 9 44 rfl rfl rfl rfl (hv62 rfl rfl rfl) .nil) (by kernel_rfl) (fun a hE => ?_)
            obtain ⟨t63, h64, H⟩ := Option.bind_eq_some_iff.mp H
            refine one 10 2047 hE (some 45) rfl rfl rfl rfl (by kernel_rfl) (Eff.call en70 rfl [.slice A59 ((cutl t16 (if (t16.length : Int) < (w64 (x2_ - 1)) then (t16.length : Int) else (w64 (x2_ - 1))) (t16.length : Int)).length) c60] rfl (acceptor_copied.calls k37 (cutl t16 (if (t16.length : Int) < (w64 (x2_ - 1)) then (t16.length : Int) else (w64 (x2_ - 1))) (t16.length : Int)) _ _ _ _ _ hS.own.sub g61 h64)) ?_
            rintro _ u65 a ⟨F66, A67, c68, rfl, hC⟩ hE
            refine ⟨fun _ => hC.agr, ?_⟩
            have hs := hC.sub
            replace hS : St W (mine W []) F u65 F66 [row k49 49 (.slice A67 t63.length c68) t63, box b2 #[.int .i64 x1_, .slice A20 t16.length c21] 24, box b4 #[.int .i64 0, .slice none 0 0] 24] := hS.called (X := []) (Y := [row k49 49 (.slice A67 t63.length c68) t63]) hC
            replace g0_1 := g0_1.mono hs
            replace g57 := g57.mono hs
            replace g61 := g61.mono hs
            replace hS := hS.front 2 rfl
            refine one 11 4095 hE none rfl rfl rfl rfl (by kernel_rfl) (e_store (off := 0) hS rfl rfl rfl sz24 (Nat.le_of_ble_eq_true rfl) (all_one rfl) #[.int .i64 x1_, .slice A20 t16.length c21] rfl) ?_
            rintro _ u71 a ⟨rfl, hb4, hS, hz⟩ hE
            refine ⟨fun h => absurd (by decide) h, ?_⟩
            refine many 16383 hst hE (.k 12 2 [(7, .slice A67 t63.length c68), (8, .int .i64 0)] (by kernel_rfl) .nil) (by kernel_rfl) (fun a hE => ?_)
            refine all_done (by kernel_rfl) ?_
            refine hK55 _ _ ?_
            refine wp_ret ?_
            replace hS := hS.tail
            replace hS := hS.front 1 rfl
            replace hS := hS.tail
            obtain rfl := Option.some.inj H
            exact retN hE rfl (of_decide_eq_true rfl) (.cell rfl (res_blk [.int .i64 x1_, .slice A20 t16.length c21] ag24 sz24 hb4 rfl) (.tmp rfl (.tmp rfl .nil))) ⟨_, rfl, _, _, _, _, _, rfl, hS, g57⟩
    refine plain (L := [0, 1, 2, 3, 4, 5, 6, 7, 8]) rfl ?_
    refine ops_chain (S := Agr _) (.k 0 1 [(18, .int .i64 x1_)] (by kernel_rfl) .nil) (rest := [1, 2, 3, 4, 5, 6, 7, 8]) hE (Agr.refl _) (fun a hE => ?_)
    obtain ⟨t27, h28, H⟩ := Option.bind_eq_some_iff.mp H
    refine ops_eff 1 hE (some 19) rfl rfl rfl rfl (Eff.call en71 rfl [.int .i64 x1_, .int .i64 1, .int .i64 2147483647] rfl (acceptor_in.calls x1_ 1 2147483647 _ _ _ hS.own.sub h28)) ?_
    rintro _ u29 a ⟨_, rfl, hC⟩ hE
    replace hS := hS.lent hC
    refine ops_chain (S := Agr _) (.k 2 2 [(20, .bool (!t27)), (21, .bool (!t27))] (by kernel_rfl) .nil) (rest := [4, 5, 6, 7, 8]) hE (Agr.refl _) (fun a hE => ?_)
    by_cases c30 : t27 = true
    · rw [if_pos c30] at H
      obtain ⟨J, hE⟩ := hE.norm [(0, .agg #[.int .i64 x0_.f0, .slice A0_1 x0_.f1.length c0_1]), (1, .int .i64 x1_), (2, .int .i64 x2_), (3, .pointer (some ⟨b2, 0, none⟩)), (6, .pointer (some ⟨b4, 0, none⟩)), (7, .slice none 0 0), (8, .int .i64 0), (11, .bool (!(t8 == 0))), (21, .bool false)] (.cons rfl <| .cons rfl <| .cons rfl <| .cons rfl <| .cons rfl <| .cons rfl <| .cons rfl <| .cons rfl <| .cons (Eq.trans (b := .bool (!t27)) rfl (congrArg Value.bool (congrArg not c30))) .nil)
      refine ops_chain (S := Agr _) (.k 4 1 [(22, .int .i64 x2_)] (by kernel_rfl) .nil) (rest := [5, 6, 7, 8]) hE (Agr.refl _) (fun a hE => ?_)
      obtain ⟨t31, h32, H⟩ := Option.bind_eq_some_iff.mp H
      refine ops_eff 5 hE (some 23) rfl rfl rfl rfl (Eff.call en71 rfl [.int .i64 x2_, .int .i64 1, .int .i64 257] rfl (acceptor_in.calls x2_ 1 257 _ _ _ hS.own.sub h32)) ?_
      rintro _ u33 a ⟨_, rfl, hC⟩ hE
      replace hS := hS.lent hC
      refine ops_chain (S := Agr _) (.k 6 3 [(24, .bool (!t31)), (25, .bool (!t31)), (17, .bool (!t31))] (by kernel_rfl) .nil) (rest := []) hE (Agr.refl _) (fun a hE => ?_)
      refine ops_done ?_
      replace hS := hS.front 1 rfl
      replace hS := hS.front 2 rfl
      replace hS := hS.front 2 rfl
      obtain ⟨J, hE⟩ := hE.norm [(0, .agg #[.int .i64 x0_.f0, .slice A0_1 x0_.f1.length c0_1]), (1, .int .i64 x1_), (2, .int .i64 x2_), (3, .pointer (some ⟨b2, 0, none⟩)), (6, .pointer (some ⟨b4, 0, none⟩)), (7, .slice none 0 0), (8, .int .i64 0), (11, .bool (!(t8 == 0))), (17, .bool (!t31))] (.cons rfl <| .cons rfl <| .cons rfl <| .cons rfl <| .cons rfl <| .cons rfl <| .cons rfl <| .cons rfl <| .cons rfl .nil)
      exact J38 _ (by omega) J (!t31) _ _ hE hS H
    · rw [if_neg c30] at H
      obtain ⟨J, hE⟩ := hE.norm [(0, .agg #[.int .i64 x0_.f0, .slice A0_1 x0_.f1.length c0_1]), (1, .int .i64 x1_), (2, .int .i64 x2_), (3, .pointer (some ⟨b2, 0, none⟩)), (6, .pointer (some ⟨b4, 0, none⟩)), (7, .slice none 0 0), (8, .int .i64 0), (11, .bool (!(t8 == 0))), (21, .bool true)] (.cons rfl <| .cons rfl <| .cons rfl <| .cons rfl <| .cons rfl <| .cons rfl <| .cons rfl <| .cons rfl <| .cons (Eq.trans (b := .bool (!t27)) rfl (congrArg Value.bool (congrArg not (eq_false_of_ne_true c30)))) .nil)
      refine ops_chain (S := Agr _) (.k 4 5 [(22, undef), (23, undef), (24, undef), (25, .bool true), (17, .bool true)] (by kernel_rfl) .nil) (rest := []) hE (Agr.refl _) (fun a hE => ?_)
      refine ops_done ?_
      replace hS := hS.front 1 rfl
      replace hS := hS.front 2 rfl
      replace hS := hS.front 2 rfl
      obtain ⟨J, hE⟩ := hE.norm [(0, .agg #[.int .i64 x0_.f0, .slice A0_1 x0_.f1.length c0_1]), (1, .int .i64 x1_), (2, .int .i64 x2_), (3, .pointer (some ⟨b2, 0, none⟩)), (6, .pointer (some ⟨b4, 0, none⟩)), (7, .slice none 0 0), (8, .int .i64 0), (11, .bool (!(t8 == 0))), (17, .bool true)] (.cons rfl <| .cons rfl <| .cons rfl <| .cons rfl <| .cons rfl <| .cons rfl <| .cons rfl <| .cons rfl <| .cons rfl .nil)
      exact J38 _ (by omega) J true _ _ hE hS H
  · rw [if_neg c11] at H
    refine cond_t hE (b := (!(t8 == 0))) rfl (congrArg not (beq_eq_false_iff_ne.2 c11)) ?_
    refine wp_seq_k fun K12 hK12 => ?_
    refine plain (L := [0, 1, 2, 3]) rfl ?_
    refine ops_chain (S := Agr _) (.v 0 12 rfl rfl rfl rfl (YA.s (x_build [] (.agg #[.int .i64 0, .slice none 0 0]) rfl rfl (fun w => by kernel_rfl))) .nil) (rest := [1, 2, 3]) hE (Agr.refl _) (fun a hE => ?_)
    refine ops_eff 1 hE none rfl rfl rfl rfl (e_store (off := 0) hS rfl rfl rfl sz24 (Nat.le_of_ble_eq_true rfl) (all_one rfl) #[.int .i64 0, .slice none 0 0] rfl) ?_
    rintro _ u13 a ⟨rfl, hb4, hS, hz⟩ hE
    refine ops_chain (S := Agr _) (.k 2 2 [(7, .slice none 0 0), (8, .int .i64 1)] (by kernel_rfl) .nil) (rest := []) hE (Agr.refl _) (fun a hE => ?_)
    refine ops_done ?_
    refine hK12 _ _ ?_
    refine wp_ret (then_ret ?_)
    replace hS := hS.nilrow k49 49
    replace hS := hS.front 1 rfl
    replace hS := hS.tail
    replace hS := hS.front 1 rfl
    replace hS := hS.tail
    obtain rfl := Option.some.inj H
    exact retN hE rfl (of_decide_eq_true rfl) (.cell rfl (res_blk [.int .i64 0, .slice none 0 0] ag24 sz24 hb4 rfl) (.tmp rfl (.tmp rfl .nil))) ⟨_, rfl, _, _, _, _, _, rfl, hS, (Rd.nil _ _)⟩

/-! ### windrose/acceptor.Accept: function 20 -/
mutual
def acceptor_Accept.j41 : Nat → S24 → Int → Int → S28 → List S49 → Bool → Option (S24 × Int)
  | 0, _, _, _, _, _, _ => none
  | k + 1, x0_, x1_, x2_, x3_, t18, y40 => if y40 = true then (some ((⟨x0_.f0, t18⟩ : S24), 1)) else (if x1_ < x0_.f0 then (some ((⟨x0_.f0, t18⟩ : S24), 9)) else (if (w64 (x2_ - (t18.length : Int))) > 0 then (if 0 ≤ (w64 (x2_ - (t18.length : Int))) ∧ ((t18.length : Int) + (w64 (x2_ - (t18.length : Int)))) * 80 ≤ 140737488355328 then (acceptor_Accept.j68 k x1_ x2_ x3_ (t18 ++ List.replicate ((w64 (x2_ - (t18.length : Int)))).toNat z49)) else (none)) else (acceptor_Accept.j68 k x1_ x2_ x3_ t18)))
def acceptor_Accept.j68 : Nat → Int → Int → S28 → List S49 → Option (S24 × Int)
  | 0, _, _, _, _ => none
  | k + 1, x1_, x2_, x3_, l67 => (slices_Clone__int_int.f x3_.f6).bind fun t74 => (if 0 ≤ (w64 (x2_ - 1)) ∧ (w64 (x2_ - 1)) < (l67.length : Int) then (some ((⟨x1_, (l67.set ((w64 (x2_ - 1))).toNat (⟨x1_, (⟨x3_.f0, x3_.f1, x3_.f2, x3_.f3, x3_.f4, x3_.f5, t74⟩ : S28)⟩ : S49))⟩ : S24), 0)) else (none))
end
theorem acceptor_Accept.j41_s (k : Nat) (x0_ : S24) (x1_ : Int) (x2_ : Int) (x3_ : S28) (t18 : List S49) (y40 : Bool) : acceptor_Accept.j41 (k + 1) x0_ x1_ x2_ x3_ t18 y40 = (if y40 = true then (some ((⟨x0_.f0, t18⟩ : S24), 1)) else (if x1_ < x0_.f0 then (some ((⟨x0_.f0, t18⟩ : S24), 9)) else (if (w64 (x2_ - (t18.length : Int))) > 0 then (if 0 ≤ (w64 (x2_ - (t18.length : Int))) ∧ ((t18.length : Int) + (w64 (x2_ - (t18.length : Int)))) * 80 ≤ 140737488355328 then (acceptor_Accept.j68 k x1_ x2_ x3_ (t18 ++ List.replicate ((w64 (x2_ - (t18.length : Int)))).toNat z49)) else (none)) else (acceptor_Accept.j68 k x1_ x2_ x3_ t18)))) := by kernel_rfl
theorem acceptor_Accept.j68_s (k : Nat) (x1_ : Int) (x2_ : Int) (x3_ : S28) (l67 : List S49) : acceptor_Accept.j68 (k + 1) x1_ x2_ x3_ l67 = ((slices_Clone__int_int.f x3_.f6).bind fun t74 => (if 0 ≤ (w64 (x2_ - 1)) ∧ (w64 (x2_ - 1)) < (l67.length : Int) then (some ((⟨x1_, (l67.set ((w64 (x2_ - 1))).toNat (⟨x1_, (⟨x3_.f0, x3_.f1, x3_.f2, x3_.f3, x3_.f4, x3_.f5, t74⟩ : S28)⟩ : S49))⟩ : S24), 0)) else (none))) := by kernel_rfl
def acceptor_Accept.f (k : Nat) (x0_ : S24) (x1_ : Int) (x2_ : Int) (x3_ : S28) : Option (S24 × Int) := (acceptor_Check.f k x0_).bind fun t10 => (if t10 = 0 then ((acceptor_copied.f k x0_.f1).bind fun t18 => ((acceptor_in.f x1_ 1 2147483647).bind fun t29 => (if t29 = true then ((acceptor_in.f x2_ 1 256).bind fun t33 => (if t33 = true then ((acceptor_CheckDelta.f k x3_).bind fun t37 => (acceptor_Accept.j41 k x0_ x1_ x2_ x3_ t18 (!(t37 == 0)))) else (acceptor_Accept.j41 k x0_ x1_ x2_ x3_ t18 true))) else (acceptor_Accept.j41 k x0_ x1_ x2_ x3_ t18 true)))) else (some ((⟨0, []⟩ : S24), 1)))
def acceptor_Accept.Post (W F : World) (r : S24 × Int) (v : Value) (w' : World) : Prop := ∃ (F' : World) (A0_1 : Option Addr) (c0_1 : Nat), v = .tuple #[.agg #[.int .i64 r.1.f0, .slice A0_1 r.1.f1.length c0_1], .int .i64 r.2] ∧ St W (mine W []) F w' F' [row k49 49 (.slice A0_1 r.1.f1.length c0_1) r.1.f1]
set_option maxHeartbeats 4000000 in
set_option maxRecDepth 100000 in
theorem acceptor_Accept.calls (k : Nat) (x0_ : S24) (x1_ : Int) (x2_ : Int) (x3_ : S28) (A0_1 : Option Addr) (c0_1 : Nat) (A3_6 : Option Addr) (c3_6 : Nat) (r : S24 × Int) (W F : World) (hsub : Sub F W) (g0_1 : Rd k49 F A0_1 c0_1 x0_.f1) (g3_6 : Rd (Kn.int .i64) F A3_6 c3_6 x3_.f6) (H : acceptor_Accept.f k x0_ x1_ x2_ x3_ = some r) :
    Calls Try.prog 20 #[.agg #[.int .i64 x0_.f0, .slice A0_1 x0_.f1.length c0_1], .int .i64 x1_, .int .i64 x2_, .agg #[.int .i64 x3_.f0, .int .i64 x3_.f1, .int .i64 x3_.f2, .int .i64 x3_.f3, .int .i64 x3_.f4, .int .i64 x3_.f5, .slice A3_6 x3_.f6.length c3_6]] W fun e w' => ∃ v, e = .returned v ∧ acceptor_Accept.Post W F r v w' := by
  have hS := St.start (Own.nil hsub)
  unfold acceptor_Accept.f at H
  refine enter (n := 67) rfl rfl rfl (Nat.le_of_ble_eq_true rfl) (fun a hE => ?_)
  refine wp_seq_k fun K1 hK1 => ?_
  refine plain (L := [0, 1, 2, 3]) rfl ?_
  refine ops_eff 0 hE (some 4) rfl rfl rfl rfl (e_box hS rfl rfl #[.int .i64 x0_.f0, .slice A0_1 x0_.f1.length c0_1] rfl) ?_
  rintro _ u3 a ⟨b2, rfl, hb2, hS, hg⟩ hE
  refine ops_eff 1 hE (some 7) rfl rfl rfl rfl (e_box hS rfl rfl #[.int .i64 x3_.f0, .int .i64 x3_.f1, .int .i64 x3_.f2, .int .i64 x3_.f3, .int .i64 x3_.f4, .int .i64 x3_.f5, .slice A3_6 x3_.f6.length c3_6] rfl) ?_
  rintro _ u5 a ⟨b4, rfl, hb4, hS, hg⟩ hE
  refine ops_eff 2 hE (some 8) rfl rfl rfl rfl (e_alloc hS rfl z24z #[.int .i64 0, .slice none 0 0] rfl) ?_
  rintro _ u7 a ⟨b6, rfl, hb6, hS, hg⟩ hE
  refine ops_chain (S := Agr _) (.k 3 1 [(9, .int .i64 0)] (by kernel_rfl) .nil) (rest := []) hE (Agr.refl _) (fun a hE => ?_)
  refine ops_done ?_
  refine hK1 _ _ ?_
  refine wp_seq_k fun K8 hK8 => ?_
  refine wp_seq_k fun K9 hK9 => ?_
  refine plain (L := [0, 1, 2]) rfl ?_
  have hb2 := hS.blk_at (i := 2) rfl
  refine ops_chain (S := Agr _) (.v 0 11 rfl rfl rfl rfl (lbn 0 [.int .i64 x0_.f0, .slice A0_1 x0_.f1.length c0_1] rfl rfl ag24 sz24 hb2 rfl) .nil) (rest := [1, 2]) hE (Agr.refl _) (fun a hE => ?_)
  obtain ⟨t10, h11, H⟩ := Option.bind_eq_some_iff.mp H
  refine ops_eff 1 hE (some 12) rfl rfl rfl rfl (Eff.call en21 rfl [.agg #[.int .i64 x0_.f0, .slice A0_1 x0_.f1.length c0_1]] rfl (acceptor_Check.calls k x0_ _ _ _ _ _ hS.own.sub g0_1 h11)) ?_
  rintro _ u12 a ⟨_, rfl, hC⟩ hE
  replace hS := hS.lent hC
  refine ops_chain (S := Agr _) (.k 2 1 [(13, .bool (!(t10 == 0)))] (by kernel_rfl) .nil) (rest := []) hE (Agr.refl _) (fun a hE => ?_)
  refine ops_done ?_
  refine hK9 _ _ ?_
  by_cases c13 : t10 = 0
  · rw [if_pos c13] at H
    refine cond_f hE (b := (!(t10 == 0))) rfl (congrArg not (beq_iff_eq.2 c13)) ?_
    refine wp_skip ?_
    refine hK8 _ _ ?_
    refine wp_seq_k fun K17 hK17 => ?_
    refine plain (L := [0, 1, 2, 3, 4]) rfl ?_
    have hb2 := hS.blk_at (i := 2) rfl
    refine ops_chain (S := Agr _) (.k 0 1 [(15, .pointer (some ⟨b2, 1, none⟩))] (by kernel_rfl) <| .v 1 16 rfl rfl rfl rfl (lb1 1 (.slice A0_1 x0_.f1.length c0_1) rfl rfl ag22 hb2 rfl) .nil) (rest := [2, 3, 4]) hE (Agr.refl _) (fun a hE => ?_)
    obtain ⟨t18, h19, H⟩ := Option.bind_eq_some_iff.mp H
    refine ops_eff 2 hE (some 17) rfl rfl rfl rfl (Eff.call en70 rfl [.slice A0_1 x0_.f1.length c0_1] rfl (acceptor_copied.calls k x0_.f1 _ _ _ _ _ hS.own.sub g0_1 h19)) ?_
    rintro _ u20 a ⟨F21, A22, c23, rfl, hC⟩ hE
    have hs := hC.sub
    replace hS : St W (mine W []) F u20 F21 [row k49 49 (.slice A22 t18.length c23) t18, box b6 #[.int .i64 0, .slice none 0 0] 24, box b4 #[.int .i64 x3_.f0, .int .i64 x3_.f1, .int .i64 x3_.f2, .int .i64 x3_.f3, .int .i64 x3_.f4, .int .i64 x3_.f5, .slice A3_6 x3_.f6.length c3_6] 28, box b2 #[.int .i64 x0_.f0, .slice A0_1 x0_.f1.length c0_1] 24] := hS.called (X := []) (Y := [row k49 49 (.slice A22 t18.length c23) t18]) hC
    replace g0_1 := g0_1.mono hs
    replace g3_6 := g3_6.mono hs
    refine ops_chain (S := Agr _) (.k 3 1 [(18, .pointer (some ⟨b2, 1, none⟩))] (by kernel_rfl) .nil) (rest := [4]) hE (Agr.refl _) (fun a hE => ?_)
    replace hS := hS.front 3 rfl
    refine ops_eff 4 hE none rfl rfl rfl rfl (e_store (off := 1) hS rfl rfl rfl sz22 (Nat.le_of_ble_eq_true rfl) (all_one rfl) #[.int .i64 x0_.f0, .slice A22 t18.length c23] rfl) ?_
    rintro _ u26 a ⟨rfl, hb2, hS, hz⟩ hE
    refine ops_done ?_
    refine hK17 _ _ ?_
    refine wp_seq_k fun K27 hK27 => ?_
    refine wp_block ?_
    refine wp_seq_k fun K28 hK28 => ?_
    have J44 : ∀ kq42, kq42 ≤ k → ∀ (J : Nat → Value) (y40 : Bool) (a : Act) (w' : World), Env 67 (updL J [(0, .agg #[.int .i64 x0_.f0, .slice A0_1 x0_.f1.length c0_1]), (1, .int .i64 x1_), (2, .int .i64 x2_), (3, .agg #[.int .i64 x3_.f0, .int .i64 x3_.f1, .int .i64 x3_.f2, .int .i64 x3_.f3, .int .i64 x3_.f4, .int .i64 x3_.f5, .slice A3_6 x3_.f6.length c3_6]), (4, .pointer (some ⟨b2, 0, none⟩)), (7, .pointer (some ⟨b4, 0, none⟩)), (8, .pointer (some ⟨b6, 0, none⟩)), (9, .int .i64 0), (13, .bool (!(t10 == 0))), (19, .bool y40)]) a → St W (mine W []) F w' F21 [box b2 #[.int .i64 x0_.f0, .slice A22 t18.length c23] 24, box b6 #[.int .i64 0, .slice none 0 0] 24, box b4 #[.int .i64 x3_.f0, .int .i64 x3_.f1, .int .i64 x3_.f2, .int .i64 x3_.f3, .int .i64 x3_.f4, .int .i64 x3_.f5, .slice A3_6 x3_.f6.length c3_6] 28, row k49 49 (.slice A22 t18.length c23) t18] → acceptor_Accept.j41 kq42 x0_ x1_ x2_ x3_ t18 y40 = some r → K28 a w' := by
      intro kq42 hkq J y40 a u45 hE hS H
      cases kq42 with
      | zero => cases (show none = some r from H)
      | succ k43 =>
        rw [acceptor_Accept.j41_s] at H
        refine hK28 _ _ ?_
        by_cases c46 : y40 = true
        · rw [if_pos c46] at H
          refine cond_t hE (b := y40) rfl c46 ?_
          refine wp_seq_k fun K47 hK47 => ?_
          refine plain (L := [0, 1, 2]) rfl ?_
          have hb2 := hS.blk_at (i := 0) rfl
          refine ops_chain (S := Agr _) (.v 0 33 rfl rfl rfl rfl (lbn 0 [.int .i64 x0_.f0, .slice A22 t18.length c23] rfl rfl ag24 sz24 hb2 rfl) .nil) (rest := [1, 2]) hE (Agr.refl _) (fun a hE => ?_)
          replace hS := hS.front 1 rfl
          refine ops_eff 1 hE none rfl rfl rfl rfl (e_store (off := 0) hS rfl rfl rfl sz24 (Nat.le_of_ble_eq_true rfl) (all_one rfl) #[.int .i64 x0_.f0, .slice A22 t18.length c23] rfl) ?_
          rintro _ u48 a ⟨rfl, hb6, hS, hz⟩ hE
          refine ops_chain (S := Agr _) (.k 2 1 [(9, .int .i64 1)] (by kernel_rfl) .nil) (rest := []) hE (Agr.refl _) (fun a hE => ?_)
          refine ops_done ?_
          refine hK47 _ _ ?_
          refine wp_ret (block_ret (then_ret ?_))
          replace hS := hS.tail
          replace hS := hS.tail
          replace hS := hS.tail
          obtain rfl := Option.some.inj H
          exact retN hE rfl (of_decide_eq_true rfl) (.cell rfl (res_blk [.int .i64 x0_.f0, .slice A22 t18.length c23] ag24 sz24 hb6 rfl) (.tmp rfl .nil)) ⟨_, rfl, _, _, _, rfl, hS⟩
        · rw [if_neg c46] at H
          refine cond_f hE (b := y40) rfl (eq_false_of_ne_true c46) ?_
          refine wp_seq_k fun K49 hK49 => ?_
          refine plain (L := [0, 1, 2, 3, 4]) rfl ?_
          have hb2 := hS.blk_at (i := 0) rfl
          refine ops_chain (S := Agr _) (.k 0 2 [(35, .int .i64 x1_), (36, .pointer (some ⟨b2, 0, none⟩))] (by kernel_rfl) <| .v 2 37 rfl rfl rfl rfl (lb1 0 (.int .i64 x0_.f0) rfl rfl ag3 hb2 rfl) <| .k 3 2 [(38, .bool (decide (x1_ < x0_.f0))), (34, .bool (decide (x1_ < x0_.f0)))] (by kernel_rfl) .nil) (rest := []) hE (Agr.refl _) (fun a hE => ?_)
          refine ops_done ?_
          refine hK49 _ _ ?_
          by_cases c50 : x1_ < x0_.f0
          · rw [if_pos c50] at H
            refine cond_t hE (b := (decide (x1_ < x0_.f0))) rfl (decide_eq_true c50) ?_
            refine wp_seq_k fun K51 hK51 => ?_
            refine plain (L := [0, 1, 2]) rfl ?_
            refine ops_chain (S := Agr _) (.v 0 39 rfl rfl rfl rfl (lbn 0 [.int .i64 x0_.f0, .slice A22 t18.length c23] rfl rfl ag24 sz24 hb2 rfl) .nil) (rest := [1, 2]) hE (Agr.refl _) (fun a hE => ?_)
            replace hS := hS.front 1 rfl
            refine ops_eff 1 hE none rfl rfl rfl rfl (e_store (off := 0) hS rfl rfl rfl sz24 (Nat.le_of_ble_eq_true rfl) (all_one rfl) #[.int .i64 x0_.f0, .slice A22 t18.length c23] rfl) ?_
            rintro _ u52 a ⟨rfl, hb6, hS, hz⟩ hE
            refine ops_chain (S := Agr _) (.k 2 1 [(9, .int .i64 9)] (by kernel_rfl) .nil) (rest := []) hE (Agr.refl _) (fun a hE => ?_)
            refine ops_done ?_
            refine hK51 _ _ ?_
            refine wp_ret (block_ret (then_ret ?_))
            replace hS := hS.tail
            replace hS := hS.tail
            replace hS := hS.tail
            obtain rfl := Option.some.inj H
            exact retN hE rfl (of_decide_eq_true rfl) (.cell rfl (res_blk [.int .i64 x0_.f0, .slice A22 t18.length c23] ag24 sz24 hb6 rfl) (.tmp rfl .nil)) ⟨_, rfl, _, _, _, rfl, hS⟩
          · rw [if_neg c50] at H
            refine cond_f hE (b := (decide (x1_ < x0_.f0))) rfl (decide_eq_false c50) ?_
            refine wp_skip ?_
            refine hK27 _ _ ?_
            refine wp_seq_k fun K53 hK53 => ?_
            refine plain (L := [0, 1, 2]) rfl ?_
            refine ops_chain (S := Agr _) (.k 0 2 [(40, .int .i64 x1_), (41, .pointer (some ⟨b2, 0, none⟩))] (by kernel_rfl) .nil) (rest := [2]) hE (Agr.refl _) (fun a hE => ?_)
            refine ops_eff 2 hE none rfl rfl rfl rfl (e_store (off := 0) hS rfl rfl rfl sz3 (Nat.le_of_ble_eq_true rfl) (all_one rfl) #[.int .i64 x1_, .slice A22 t18.length c23] rfl) ?_
            rintro _ u54 a ⟨rfl, hb2, hS, hz⟩ hE
            refine ops_done ?_
            refine hK53 _ _ ?_
            refine wp_seq_k fun K55 hK55 => ?_
            have J71 : ∀ kq69, kq69 ≤ k43 → ∀ (J : Nat → Value) (A65 : Option Addr) (c66 : Nat) (l67 : List S49) (a : Act) (w' : World), Env 67 (updL J [(0, .agg #[.int .i64 x0_.f0, .slice A0_1 x0_.f1.length c0_1]), (1, .int .i64 x1_), (2, .int .i64 x2_), (3, .agg #[.int .i64 x3_.f0, .int .i64 x3_.f1, .int .i64 x3_.f2, .int .i64 x3_.f3, .int .i64 x3_.f4, .int .i64 x3_.f5, .slice A3_6 x3_.f6.length c3_6]), (4, .pointer (some ⟨b2, 0, none⟩)), (7, .pointer (some ⟨b4, 0, none⟩)), (8, .pointer (some ⟨b6, 0, none⟩)), (9, .int .i64 0), (10, .int .i64 (w64 (x2_ - (t18.length : Int)))), (13, .bool (!(t10 == 0))), (19, .bool y40), (34, .bool (decide (x1_ < x0_.f0))), (48, .bool (decide ((w64 (x2_ - (t18.length : Int))) > 0)))]) a → St W (mine W []) F w' F21 [box b2 #[.int .i64 x1_, .slice A65 l67.length c66] 24, box b6 #[.int .i64 0, .slice none 0 0] 24, box b4 #[.int .i64 x3_.f0, .int .i64 x3_.f1, .int .i64 x3_.f2, .int .i64 x3_.f3, .int .i64 x3_.f4, .int .i64 x3_.f5, .slice A3_6 x3_.f6.length c3_6] 28, row k49 49 (.slice A65 l67.length c66) l67] → acceptor_Accept.j68 kq69 x1_ x2_ x3_ l67 = some r → K55 a w' := by
              intro kq69 hkq J A65 c66 l67 a u72 hE hS H
              cases kq69 with
              | zero => cases (show none = some r from H)
              | succ k70 =>
                rw [acceptor_Accept.j68_s] at H
                refine hK55 _ _ ?_
                refine wp_seq_k fun K73 hK73 => ?_
                refine plain (L := [0, 1, 2, 3, 4]) rfl ?_
                have hb4 := hS.blk_at (i := 2) rfl
                refine ops_chain (S := Agr _) (.k 0 1 [(54, .pointer (some ⟨b4, 6, none⟩))] (by kernel_rfl) <| .v 1 55 rfl rfl rfl rfl (lb1 6 (.slice A3_6 x3_.f6.length c3_6) rfl rfl ag26 hb4 rfl) .nil) (rest := [2, 3, 4]) hE (Agr.refl _) (fun a hE => ?_)
                obtain ⟨t74, h75, H⟩ := Option.bind_eq_some_iff.mp H
                refine ops_eff 2 hE (some 56) rfl rfl rfl rfl (Eff.call en72 rfl [.slice A3_6 x3_.f6.length c3_6] rfl (slices_Clone__int_int.calls x3_.f6 _ _ _ _ _ hS.own.sub g3_6 h75)) ?_
                rintro _ u76 a ⟨F77, A78, c79, rfl, hC⟩ hE
                have hs := hC.sub
                replace hS : St W (mine W []) F u76 F77 [row (Kn.int .i64) 3 (.slice A78 t74.length c79) t74, box b2 #[.int .i64 x1_, .slice A65 l67.length c66] 24, box b6 #[.int .i64 0, .slice none 0 0] 24, box b4 #[.int .i64 x3_.f0, .int .i64 x3_.f1, .int .i64 x3_.f2, .int .i64 x3_.f3, .int .i64 x3_.f4, .int .i64 x3_.f5, .slice A3_6 x3_.f6.length c3_6] 28, row k49 49 (.slice A65 l67.length c66) l67] := hS.called (X := []) (Y := [row (Kn.int .i64) 3 (.slice A78 t74.length c79) t74]) hC
                replace g0_1 := g0_1.mono hs
                replace g3_6 := g3_6.mono hs
                refine ops_chain (S := Agr _) (.k 3 1 [(57, .pointer (some ⟨b4, 6, none⟩))] (by kernel_rfl) .nil) (rest := [4]) hE (Agr.refl _) (fun a hE => ?_)
                replace hS := hS.front 3 rfl
                refine ops_eff 4 hE none rfl rfl rfl rfl (e_store (off := 6) hS rfl rfl rfl sz26 (Nat.le_of_ble_eq_true rfl) (all_one rfl) #[.int .i64 x3_.f0, .int .i64 x3_.f1, .int .i64 x3_.f2, .int .i64 x3_.f3, .int .i64 x3_.f4, .int .i64 x3_.f5, .slice A78 t74.length c79] rfl) ?_
                rintro _ u82 a ⟨rfl, hb4, hS, hz⟩ hE
                refine ops_done ?_
                refine hK73 _ _ ?_
                refine wp_seq_k fun K83 hK83 => ?_
                refine plain (L := [0, 1, 2, 3, 4, 5, 6, 7, 8]) rfl ?_
                have hb2 := hS.blk_at (i := 2) rfl
                by_cases c84 : 0 ≤ (w64 (x2_ - 1)) ∧ (w64 (x2_ - 1)) < (l67.length : Int)
                rotate_left
                · rw [if_neg c84] at H; cases H
                rw [if_pos c84] at H
                have hr85 := hS.row_at (i := 4) rfl
                obtain ⟨b86, rfl⟩ := row_addr hr85 c84.1 c84.2
                have hr_ := hS.row_at (i := 4) rfl
                obtain ⟨cs88, ⟨A90, c91, rfl, g92⟩, hc89⟩ := row_el hr_ z49 (w64 (x2_ - 1)) c84.1 c84.2
                refine ops_chain (S := Agr _) (.k 0 1 [(58, .pointer (some ⟨b2, 1, none⟩))] (by kernel_rfl) <| .v 1 59 rfl rfl rfl rfl (lb1 1 (.slice (some ⟨b86, 0, none⟩) l67.length c66) rfl rfl ag22 hb2 rfl) <| .k 2 3 [(60, .int .i64 x2_), (61, .int .i64 (w64 (x2_ - 1))), (62, .int .i64 x1_)] (by kernel_rfl) <| .v 5 63 rfl rfl rfl rfl (lbn 0 [.int .i64 x3_.f0, .int .i64 x3_.f1, .int .i64 x3_.f2, .int .i64 x3_.f3, .int .i64 x3_.f4, .int .i64 x3_.f5, .slice A78 t74.length c79] rfl rfl ag28 sz28 hb4 rfl) <| .v 6 64 rfl rfl rfl rfl (YA.s (x_build [(0, .int .i64 x1_), (1, .agg #[.int .i64 x3_.f0, .int .i64 x3_.f1, .int .i64 x3_.f2, .int .i64 x3_.f3, .int .i64 x3_.f4, .int .i64 x3_.f5, .slice A78 t74.length c79])] (.agg #[.int .i64 x1_, .int .i64 x3_.f0, .int .i64 x3_.f1, .int .i64 x3_.f2, .int .i64 x3_.f3, .int .i64 x3_.f4, .int .i64 x3_.f5, .slice A78 t74.length c79]) rfl rfl (fun w => by kernel_rfl))) <| .v 7 65 rfl rfl rfl rfl (YA.s (ix 8 rfl rfl rfl ud22 sz49 c84.1 c84.2)) .nil) (rest := [8]) hE (Agr.refl _) (fun a hE => ?_)
                replace hS := hS.front 1 rfl
                obtain ⟨F94, hs, g95, hS⟩ := hS.give
                replace g0_1 := g0_1.mono hs
                replace g3_6 := g3_6.mono hs
                replace hS := hS.front 3 rfl
                obtain ⟨cs99, ⟨A96, c97, rfl, g98⟩, hc100⟩ := row_el (hS.row_at (i := 0) rfl) z49 (w64 (x2_ - 1)) c84.1 c84.2
                refine ops_eff 8 hE none rfl rfl rfl rfl (e_set (d := k49) (n := l67.length) (off := 0) (i := (w64 (x2_ - 1))) (⟨x1_, (⟨x3_.f0, x3_.f1, x3_.f2, x3_.f3, x3_.f4, x3_.f5, t74⟩ : S28)⟩ : S49) hS rfl rfl (ea0 _ _) rfl sz49 c84.1 c84.2 [.int .i64 ((nth z49 l67 (w64 (x2_ - 1))).f0), .int .i64 ((nth z49 l67 (w64 (x2_ - 1))).f1.f0), .int .i64 ((nth z49 l67 (w64 (x2_ - 1))).f1.f1), .int .i64 ((nth z49 l67 (w64 (x2_ - 1))).f1.f2), .int .i64 ((nth z49 l67 (w64 (x2_ - 1))).f1.f3), .int .i64 ((nth z49 l67 (w64 (x2_ - 1))).f1.f4), .int .i64 ((nth z49 l67 (w64 (x2_ - 1))).f1.f5), .slice A96 (((nth z49 l67 (w64 (x2_ - 1))).f1.f6).length) c97] hc100 rfl (Nat.le_of_ble_eq_true rfl) (all_one rfl) [.int .i64 x1_, .int .i64 x3_.f0, .int .i64 x3_.f1, .int .i64 x3_.f2, .int .i64 x3_.f3, .int .i64 x3_.f4, .int .i64 x3_.f5, .slice A78 t74.length c79] rfl ⟨_, _, rfl, g95⟩) ?_
                rintro _ u93 a ⟨rfl, hS, hz⟩ hE
                refine ops_done ?_
                refine hK83 _ _ ?_
                refine wp_seq_k fun K101 hK101 => ?_
                refine plain (L := [0, 1, 2]) rfl ?_
                have hb2 := hS.blk_at (i := 2) rfl
                refine ops_chain (S := Agr _) (.v 0 66 rfl rfl rfl rfl (lbn 0 [.int .i64 x1_, .slice (some ⟨b86, 0, none⟩) l67.length c66] rfl rfl ag24 sz24 hb2 rfl) .nil) (rest := [1, 2]) hE (Agr.refl _) (fun a hE => ?_)
                replace hS := hS.front 3 rfl
                refine ops_eff 1 hE none rfl rfl rfl rfl (e_store (off := 0) hS rfl rfl rfl sz24 (Nat.le_of_ble_eq_true rfl) (all_one rfl) #[.int .i64 x1_, .slice (some ⟨b86, 0, none⟩) l67.length c66] rfl) ?_
                rintro _ u102 a ⟨rfl, hb6, hS, hz⟩ hE
                refine ops_chain (S := Agr _) (.k 2 1 [(9, .int .i64 0)] (by kernel_rfl) .nil) (rest := []) hE (Agr.refl _) (fun a hE => ?_)
                refine ops_done ?_
                refine hK101 _ _ ?_
                refine wp_ret ?_
                obtain ⟨J, hE⟩ := hE.norm [(0, .agg #[.int .i64 x0_.f0, .slice A0_1 x0_.f1.length c0_1]), (1, .int .i64 x1_), (2, .int .i64 x2_), (3, .agg #[.int .i64 x3_.f0, .int .i64 x3_.f1, .int .i64 x3_.f2, .int .i64 x3_.f3, .int .i64 x3_.f4, .int .i64 x3_.f5, .slice A3_6 x3_.f6.length c3_6]), (4, .pointer (some ⟨b2, 0, none⟩)), (7, .pointer (some ⟨b4, 0, none⟩)), (8, .pointer (some ⟨b6, 0, none⟩)), (9, .int .i64 0), (10, .int .i64 (w64 (x2_ - (t18.length : Int)))), (13, .bool (!(t10 == 0))), (19, .bool y40), (34, .bool (decide (x1_ < x0_.f0))), (48, .bool (decide ((w64 (x2_ - (t18.length : Int))) > 0)))] (.cons rfl <| .cons rfl <| .cons rfl <| .cons rfl <| .cons rfl <| .cons rfl <| .cons rfl <| .cons rfl <| .cons rfl <| .cons rfl <| .cons rfl <| .cons rfl <| .cons rfl .nil)
                replace hS : St W (mine W []) F u102 F94 [box b6 #[.int .i64 x1_, .slice (some ⟨b86, 0, none⟩) ((l67.set ((w64 (x2_ - 1))).toNat (⟨x1_, (⟨x3_.f0, x3_.f1, x3_.f2, x3_.f3, x3_.f4, x3_.f5, t74⟩ : S28)⟩ : S49)).length) c66] 24, row k49 49 (.slice (some ⟨b86, 0, none⟩) ((l67.set ((w64 (x2_ - 1))).toNat (⟨x1_, (⟨x3_.f0, x3_.f1, x3_.f2, x3_.f3, x3_.f4, x3_.f5, t74⟩ : S28)⟩ : S49)).length) c66) (l67.set ((w64 (x2_ - 1))).toNat (⟨x1_, (⟨x3_.f0, x3_.f1, x3_.f2, x3_.f3, x3_.f4, x3_.f5, t74⟩ : S28)⟩ : S49)), box b4 #[.int .i64 x3_.f0, .int .i64 x3_.f1, .int .i64 x3_.f2, .int .i64 x3_.f3, .int .i64 x3_.f4, .int .i64 x3_.f5, .slice A78 t74.length c79] 28, box b2 #[.int .i64 x1_, .slice (some ⟨b86, 0, none⟩) ((l67.set ((w64 (x2_ - 1))).toNat (⟨x1_, (⟨x3_.f0, x3_.f1, x3_.f2, x3_.f3, x3_.f4, x3_.f5, t74⟩ : S28)⟩ : S49)).length) c66] 24] := by simpa only [List.length_set] using hS
                have hb6 := hS.blk_at (i := 0) rfl
                replace hS := hS.tail
                replace hS := hS.front 1 rfl
                replace hS := hS.tail
                replace hS := hS.front 1 rfl
                replace hS := hS.tail
                obtain rfl := Option.some.inj H
                exact retN hE rfl (of_decide_eq_true rfl) (.cell rfl (res_blk [.int .i64 x1_, .slice (some ⟨b86, 0, none⟩) ((l67.set ((w64 (x2_ - 1))).toNat (⟨x1_, (⟨x3_.f0, x3_.f1, x3_.f2, x3_.f3, x3_.f4, x3_.f5, t74⟩ : S28)⟩ : S49)).length) c66] ag24 sz24 hb6 rfl) (.tmp rfl .nil)) ⟨_, rfl, _, _, _, rfl, hS⟩
            refine wp_seq_k fun K56 hK56 => ?_
            refine plain (L := [0, 1, 2, 3, 4, 5]) rfl ?_
            refine ops_chain (S := Agr _) (.k 0 2 [(42, .int .i64 x2_), (43, .pointer (some ⟨b2, 1, none⟩))] (by kernel_rfl) <| .v 2 44 rfl rfl rfl rfl (lb1 1 (.slice A22 t18.length c23) rfl rfl ag22 hb2 rfl) <| .v 3 45 rfl rfl rfl rfl (YA.s (len_sl rfl rfl ud22)) <| .k 4 2 [(46, .int .i64 (w64 (x2_ - (t18.length : Int)))), (10, .int .i64 (w64 (x2_ - (t18.length : Int))))] (by kernel_rfl) .nil) (rest := []) hE (Agr.refl _) (fun a hE => ?_)
            refine ops_done ?_
            refine hK56 _ _ ?_
            refine wp_seq_k fun K57 hK57 => ?_
            refine plain (L := [0, 1]) rfl ?_
            refine ops_chain (S := Agr _) (.k 0 2 [(47, .int .i64 (w64 (x2_ - (t18.length : Int)))), (48, .bool (decide ((w64 (x2_ - (t18.length : Int))) > 0)))] (by kernel_rfl) .nil) (rest := []) hE (Agr.refl _) (fun a hE => ?_)
            refine ops_done ?_
            refine hK57 _ _ ?_
            by_cases c58 : (w64 (x2_ - (t18.length : Int))) > 0
            · rw [if_pos c58] at H
              refine cond_t hE (b := (decide ((w64 (x2_ - (t18.length : Int))) > 0))) rfl (decide_eq_true c58) ?_
              refine plain (L := [0, 1, 2, 3, 4, 5]) rfl ?_
              refine ops_chain (S := Agr _) (.k 0 1 [(49, .pointer (some ⟨b2, 1, none⟩))] (by kernel_rfl) <| .v 1 50 rfl rfl rfl rfl (lb1 1 (.slice A22 t18.length c23) rfl rfl ag22 hb2 rfl) <| .k 2 1 [(51, .int .i64 (w64 (x2_ - (t18.length : Int))))] (by kernel_rfl) .nil) (rest := [3, 4, 5]) hE (Agr.refl _) (fun a hE => ?_)
              by_cases c59 : 0 ≤ (w64 (x2_ - (t18.length : Int))) ∧ ((t18.length : Int) + (w64 (x2_ - (t18.length : Int)))) * 80 ≤ 140737488355328
              rotate_left
              · rw [if_neg c59] at H; cases H
              rw [if_pos c59] at H
              replace hS := hS.front 3 rfl
              refine ops_eff 3 hE (some 52) rfl rfl rfl rfl (e_append0 (d := k49) z49 hS rfl rfl rfl ud22 ud3 in49 rfl rfl ⟨none, 0, rfl, Rd.nil _ _⟩ c59) ?_
              rintro _ u62 a ⟨A60, c61, rfl, hS, hz⟩ hE
              refine ops_chain (S := Agr _) (.k 4 1 [(53, .pointer (some ⟨b2, 1, none⟩))] (by kernel_rfl) .nil) (rest := [5]) hE (Agr.refl _) (fun a hE => ?_)
              replace hS := hS.front 1 rfl
              refine ops_eff 5 hE none rfl rfl rfl rfl (e_store (off := 1) hS rfl rfl rfl sz22 (Nat.le_of_ble_eq_true rfl) (all_one rfl) #[.int .i64 x1_, .slice A60 ((t18 ++ List.replicate ((w64 (x2_ - (t18.length : Int)))).toNat z49).length) c61] rfl) ?_
              rintro _ u63 a ⟨rfl, hb2, hS, hz⟩ hE
              refine ops_done ?_
              replace hS := hS.front 1 rfl
              replace hS := hS.front 3 rfl
              replace hS := hS.front 3 rfl
              replace hS := hS.front 3 rfl
              obtain ⟨J, hE⟩ := hE.norm [(0, .agg #[.int .i64 x0_.f0, .slice A0_1 x0_.f1.length c0_1]), (1, .int .i64 x1_), (2, .int .i64 x2_), (3, .agg #[.int .i64 x3_.f0, .int .i64 x3_.f1, .int .i64 x3_.f2, .int .i64 x3_.f3, .int .i64 x3_.f4, .int .i64 x3_.f5, .slice A3_6 x3_.f6.length c3_6]), (4, .pointer (some ⟨b2, 0, none⟩)), (7, .pointer (some ⟨b4, 0, none⟩)), (8, .pointer (some ⟨b6, 0, none⟩)), (9, .int .i64 0), (10, .int .i64 (w64 (x2_ - (t18.length : Int)))), (13, .bool (!(t10 == 0))), (19, .bool y40), (34, .bool (decide (x1_ < x0_.f0))), (48, .bool (decide ((w64 (x2_ - (t18.length : Int))) > 0)))] (.cons rfl <| .cons rfl <| .cons rfl <| .cons rfl <| .cons rfl <| .cons rfl <| .cons rfl <| .cons rfl <| .cons rfl <| .cons rfl <| .cons rfl <| .cons rfl <| .cons rfl .nil)
              exact J71 _ (by omega) J A60 c61 (t18 ++ List.replicate ((w64 (x2_ - (t18.length : Int)))).toNat z49) _ _ hE hS H
            · rw [if_neg c58] at H
              refine cond_f hE (b := (decide ((w64 (x2_ - (t18.length : Int))) > 0))) rfl (decide_eq_false c58) ?_
              refine wp_skip ?_
              obtain ⟨J, hE⟩ := hE.norm [(0, .agg #[.int .i64 x0_.f0, .slice A0_1 x0_.f1.length c0_1]), (1, .int .i64 x1_), (2, .int .i64 x2_), (3, .agg #[.int .i64 x3_.f0, .int .i64 x3_.f1, .int .i64 x3_.f2, .int .i64 x3_.f3, .int .i64 x3_.f4, .int .i64 x3_.f5, .slice A3_6 x3_.f6.length c3_6]), (4, .pointer (some ⟨b2, 0, none⟩)), (7, .pointer (some ⟨b4, 0, none⟩)), (8, .pointer (some ⟨b6, 0, none⟩)), (9, .int .i64 0), (10, .int .i64 (w64 (x2_ - (t18.length : Int)))), (13, .bool (!(t10 == 0))), (19, .bool y40), (34, .bool (decide (x1_ < x0_.f0))), (48, .bool (decide ((w64 (x2_ - (t18.length : Int))) > 0)))] (.cons rfl <| .cons rfl <| .cons rfl <| .cons rfl <| .cons rfl <| .cons rfl <| .cons rfl <| .cons rfl <| .cons rfl <| .cons rfl <| .cons rfl <| .cons rfl <| .cons rfl .nil)
              exact J71 _ (by omega) J A22 c23 t18 _ _ hE hS H
    refine plain (L := [0, 1, 2, 3, 4, 5, 6, 7, 8, 9, 10, 11, 12, 13]) rfl ?_
    refine ops_chain (S := Agr _) (.k 0 1 [(20, .int .i64 x1_)] (by kernel_rfl) .nil) (rest := [1, 2, 3, 4, 5, 6, 7, 8, 9, 10, 11, 12, 13]) hE (Agr.refl _) (fun a hE => ?_)
    obtain ⟨t29, h30, H⟩ := Option.bind_eq_some_iff.mp H
    refine ops_eff 1 hE (some 21) rfl rfl rfl rfl (Eff.call en71 rfl [.int .i64 x1_, .int .i64 1, .int .i64 2147483647] rfl (acceptor_in.calls x1_ 1 2147483647 _ _ _ hS.own.sub h30)) ?_
    rintro _ u31 a ⟨_, rfl, hC⟩ hE
    replace hS := hS.lent hC
    refine ops_chain (S := Agr _) (.k 2 2 [(22, .bool (!t29)), (23, .bool (!t29))] (by kernel_rfl) .nil) (rest := [4, 5, 6, 7, 8, 9, 10, 11, 12, 13]) hE (Agr.refl _) (fun a hE => ?_)
    by_cases c32 : t29 = true
    · rw [if_pos c32] at H
      obtain ⟨J, hE⟩ := hE.norm [(0, .agg #[.int .i64 x0_.f0, .slice A0_1 x0_.f1.length c0_1]), (1, .int .i64 x1_), (2, .int .i64 x2_), (3, .agg #[.int .i64 x3_.f0, .int .i64 x3_.f1, .int .i64 x3_.f2, .int .i64 x3_.f3, .int .i64 x3_.f4, .int .i64 x3_.f5, .slice A3_6 x3_.f6.length c3_6]), (4, .pointer (some ⟨b2, 0, none⟩)), (7, .pointer (some ⟨b4, 0, none⟩)), (8, .pointer (some ⟨b6, 0, none⟩)), (9, .int .i64 0), (13, .bool (!(t10 == 0))), (23, .bool false)] (.cons rfl <| .cons rfl <| .cons rfl <| .cons rfl <| .cons rfl <| .cons rfl <| .cons rfl <| .cons rfl <| .cons rfl <| .cons (Eq.trans (b := .bool (!t29)) rfl (congrArg Value.bool (congrArg not c32))) .nil)
      refine ops_chain (S := Agr _) (.k 4 1 [(24, .int .i64 x2_)] (by kernel_rfl) .nil) (rest := [5, 6, 7, 8, 9, 10, 11, 12, 13]) hE (Agr.refl _) (fun a hE => ?_)
      obtain ⟨t33, h34, H⟩ := Option.bind_eq_some_iff.mp H
      refine ops_eff 5 hE (some 25) rfl rfl rfl rfl (Eff.call en71 rfl [.int .i64 x2_, .int .i64 1, .int .i64 256] rfl (acceptor_in.calls x2_ 1 256 _ _ _ hS.own.sub h34)) ?_
      rintro _ u35 a ⟨_, rfl, hC⟩ hE
      replace hS := hS.lent hC
      refine ops_chain (S := Agr _) (.k 6 3 [(26, .bool (!t33)), (27, .bool (!t33)), (28, .bool (!t33))] (by kernel_rfl) .nil) (rest := [9, 10, 11, 12, 13]) hE (Agr.refl _) (fun a hE => ?_)
      by_cases c36 : t33 = true
      · rw [if_pos c36] at H
        obtain ⟨J, hE⟩ := hE.norm [(0, .agg #[.int .i64 x0_.f0, .slice A0_1 x0_.f1.length c0_1]), (1, .int .i64 x1_), (2, .int .i64 x2_), (3, .agg #[.int .i64 x3_.f0, .int .i64 x3_.f1, .int .i64 x3_.f2, .int .i64 x3_.f3, .int .i64 x3_.f4, .int .i64 x3_.f5, .slice A3_6 x3_.f6.length c3_6]), (4, .pointer (some ⟨b2, 0, none⟩)), (7, .pointer (some ⟨b4, 0, none⟩)), (8, .pointer (some ⟨b6, 0, none⟩)), (9, .int .i64 0), (13, .bool (!(t10 == 0))), (24, .int .i64 x2_), (25, .bool true), (26, .bool false), (28, .bool false)] (.cons rfl <| .cons rfl <| .cons rfl <| .cons rfl <| .cons rfl <| .cons rfl <| .cons rfl <| .cons rfl <| .cons rfl <| .cons rfl <| .cons (Eq.trans (b := .bool t33) rfl (congrArg Value.bool c36)) <| .cons (Eq.trans (b := .bool (!t33)) rfl (congrArg Value.bool (congrArg not c36))) <| .cons (Eq.trans (b := .bool (!t33)) rfl (congrArg Value.bool (congrArg not c36))) .nil)
        have hb4 := hS.blk_at (i := 3) rfl
        refine ops_chain (S := Agr _) (.v 9 29 rfl rfl rfl rfl (lbn 0 [.int .i64 x3_.f0, .int .i64 x3_.f1, .int .i64 x3_.f2, .int .i64 x3_.f3, .int .i64 x3_.f4, .int .i64 x3_.f5, .slice A3_6 x3_.f6.length c3_6] rfl rfl ag28 sz28 hb4 rfl) .nil) (rest := [10, 11, 12, 13]) hE (Agr.refl _) (fun a hE => ?_)
        obtain ⟨t37, h38, H⟩ := Option.bind_eq_some_iff.mp H
        refine ops_eff 10 hE (some 30) rfl rfl rfl rfl (Eff.call en23 rfl [.agg #[.int .i64 x3_.f0, .int .i64 x3_.f1, .int .i64 x3_.f2, .int .i64 x3_.f3, .int .i64 x3_.f4, .int .i64 x3_.f5, .slice A3_6 x3_.f6.length c3_6]] rfl (acceptor_CheckDelta.calls k x3_ _ _ _ _ _ hS.own.sub g3_6 h38)) ?_
        rintro _ u39 a ⟨_, rfl, hC⟩ hE
        replace hS := hS.lent hC
        refine ops_chain (S := Agr _) (.k 11 3 [(31, .bool (!(t37 == 0))), (32, .bool (!(t37 == 0))), (19, .bool (!(t37 == 0)))] (by kernel_rfl) .nil) (rest := []) hE (Agr.refl _) (fun a hE => ?_)
        refine ops_done ?_
        replace hS := hS.front 1 rfl
        replace hS := hS.front 3 rfl
        replace hS := hS.front 3 rfl
        replace hS := hS.front 3 rfl
        obtain ⟨J, hE⟩ := hE.norm [(0, .agg #[.int .i64 x0_.f0, .slice A0_1 x0_.f1.length c0_1]), (1, .int .i64 x1_), (2, .int .i64 x2_), (3, .agg #[.int .i64 x3_.f0, .int .i64 x3_.f1, .int .i64 x3_.f2, .int .i64 x3_.f3, .int .i64 x3_.f4, .int .i64 x3_.f5, .slice A3_6 x3_.f6.length c3_6]), (4, .pointer (some ⟨b2, 0, none⟩)), (7, .pointer (some ⟨b4, 0, none⟩)), (8, .pointer (some ⟨b6, 0, none⟩)), (9, .int .i64 0), (13, .bool (!(t10 == 0))), (19, .bool (!(t37 == 0)))] (.cons rfl <| .cons rfl <| .cons rfl <| .cons rfl <| .cons rfl <| .cons rfl <| .cons rfl <| .cons rfl <| .cons rfl <| .cons rfl .nil)
        exact J44 _ (by omega) J (!(t37 == 0)) _ _ hE hS H
      · rw [if_neg c36] at H
        obtain ⟨J, hE⟩ := hE.norm [(0, .agg #[.int .i64 x0_.f0, .slice A0_1 x0_.f1.length c0_1]), (1, .int .i64 x1_), (2, .int .i64 x2_), (3, .agg #[.int .i64 x3_.f0, .int .i64 x3_.f1, .int .i64 x3_.f2, .int .i64 x3_.f3, .int .i64 x3_.f4, .int .i64 x3_.f5, .slice A3_6 x3_.f6.length c3_6]), (4, .pointer (some ⟨b2, 0, none⟩)), (7, .pointer (some ⟨b4, 0, none⟩)), (8, .pointer (some ⟨b6, 0, none⟩)), (9, .int .i64 0), (13, .bool (!(t10 == 0))), (24, .int .i64 x2_), (25, .bool false), (26, .bool true), (28, .bool true)] (.cons rfl <| .cons rfl <| .cons rfl <| .cons rfl <| .cons rfl <| .cons rfl <| .cons rfl <| .cons rfl <| .cons rfl <| .cons rfl <| .cons (Eq.trans (b := .bool t33) rfl (congrArg Value.bool (eq_false_of_ne_true c36))) <| .cons (Eq.trans (b := .bool (!t33)) rfl (congrArg Value.bool (congrArg not (eq_false_of_ne_true c36)))) <| .cons (Eq.trans (b := .bool (!t33)) rfl (congrArg Value.bool (congrArg not (eq_false_of_ne_true c36)))) .nil)
        refine ops_chain (S := Agr _) (.k 9 5 [(29, undef), (30, undef), (31, undef), (32, .bool true), (19, .bool true)] (by kernel_rfl) .nil) (rest := []) hE (Agr.refl _) (fun a hE => ?_)
        refine ops_done ?_
        replace hS := hS.front 1 rfl
        replace hS := hS.front 3 rfl
        replace hS := hS.front 3 rfl
        replace hS := hS.front 3 rfl
        obtain ⟨J, hE⟩ := hE.norm [(0, .agg #[.int .i64 x0_.f0, .slice A0_1 x0_.f1.length c0_1]), (1, .int .i64 x1_), (2, .int .i64 x2_), (3, .agg #[.int .i64 x3_.f0, .int .i64 x3_.f1, .int .i64 x3_.f2, .int .i64 x3_.f3, .int .i64 x3_.f4, .int .i64 x3_.f5, .slice A3_6 x3_.f6.length c3_6]), (4, .pointer (some ⟨b2, 0, none⟩)), (7, .pointer (some ⟨b4, 0, none⟩)), (8, .pointer (some ⟨b6, 0, none⟩)), (9, .int .i64 0), (13, .bool (!(t10 == 0))), (19, .bool true)] (.cons rfl <| .cons rfl <| .cons rfl <| .cons rfl <| .cons rfl <| .cons rfl <| .cons rfl <| .cons rfl <| .cons rfl <| .cons rfl .nil)
        exact J44 _ (by omega) J true _ _ hE hS H
    · rw [if_neg c32] at H
      obtain ⟨J, hE⟩ := hE.norm [(0, .agg #[.int .i64 x0_.f0, .slice A0_1 x0_.f1.length c0_1]), (1, .int .i64 x1_), (2, .int .i64 x2_), (3, .agg #[.int .i64 x3_.f0, .int .i64 x3_.f1, .int .i64 x3_.f2, .int .i64 x3_.f3, .int .i64 x3_.f4, .int .i64 x3_.f5, .slice A3_6 x3_.f6.length c3_6]), (4, .pointer (some ⟨b2, 0, none⟩)), (7, .pointer (some ⟨b4, 0, none⟩)), (8, .pointer (some ⟨b6, 0, none⟩)), (9, .int .i64 0), (13, .bool (!(t10 == 0))), (23, .bool true)] (.cons rfl <| .cons rfl <| .cons rfl <| .cons rfl <| .cons rfl <| .cons rfl <| .cons rfl <| .cons rfl <| .cons rfl <| .cons (Eq.trans (b := .bool (!t29)) rfl (congrArg Value.bool (congrArg not (eq_false_of_ne_true c32)))) .nil)
      refine ops_chain (S := Agr _) (.k 4 10 [(24, undef), (25, undef), (26, undef), (27, .bool true), (28, .bool true), (29, undef), (30, undef), (31, undef), (32, .bool true), (19, .bool true)] (by kernel_rfl) .nil) (rest := []) hE (Agr.refl _) (fun a hE => ?_)
      refine ops_done ?_
      replace hS := hS.front 1 rfl
      replace hS := hS.front 3 rfl
      replace hS := hS.front 3 rfl
      replace hS := hS.front 3 rfl
      obtain ⟨J, hE⟩ := hE.norm [(0, .agg #[.int .i64 x0_.f0, .slice A0_1 x0_.f1.length c0_1]), (1, .int .i64 x1_), (2, .int .i64 x2_), (3, .agg #[.int .i64 x3_.f0, .int .i64 x3_.f1, .int .i64 x3_.f2, .int .i64 x3_.f3, .int .i64 x3_.f4, .int .i64 x3_.f5, .slice A3_6 x3_.f6.length c3_6]), (4, .pointer (some ⟨b2, 0, none⟩)), (7, .pointer (some ⟨b4, 0, none⟩)), (8, .pointer (some ⟨b6, 0, none⟩)), (9, .int .i64 0), (13, .bool (!(t10 == 0))), (19, .bool true)] (.cons rfl <| .cons rfl <| .cons rfl <| .cons rfl <| .cons rfl <| .cons rfl <| .cons rfl <| .cons rfl <| .cons rfl <| .cons rfl .nil)
      exact J44 _ (by omega) J true _ _ hE hS H
  · rw [if_neg c13] at H
    refine cond_t hE (b := (!(t10 == 0))) rfl (congrArg not (beq_eq_false_iff_ne.2 c13)) ?_
    refine wp_seq_k fun K14 hK14 => ?_
    refine plain (L := [0, 1, 2]) rfl ?_
    refine ops_chain (S := Agr _) (.v 0 14 rfl rfl rfl rfl (YA.s (x_build [] (.agg #[.int .i64 0, .slice none 0 0]) rfl rfl (fun w => by kernel_rfl))) .nil) (rest := [1, 2]) hE (Agr.refl _) (fun a hE => ?_)
    refine ops_eff 1 hE none rfl rfl rfl rfl (e_store (off := 0) hS rfl rfl rfl sz24 (Nat.le_of_ble_eq_true rfl) (all_one rfl) #[.int .i64 0, .slice none 0 0] rfl) ?_
    rintro _ u15 a ⟨rfl, hb6, hS, hz⟩ hE
    refine ops_chain (S := Agr _) (.k 2 1 [(9, .int .i64 1)] (by kernel_rfl) .nil) (rest := []) hE (Agr.refl _) (fun a hE => ?_)
    refine ops_done ?_
    refine hK14 _ _ ?_
    refine wp_ret (then_ret ?_)
    replace hS := hS.nilrow k49 49
    replace hS := hS.front 1 rfl
    replace hS := hS.tail
    replace hS := hS.front 1 rfl
    replace hS := hS.tail
    replace hS := hS.front 1 rfl
    replace hS := hS.tail
    obtain rfl := Option.some.inj H
    exact retN hE rfl (of_decide_eq_true rfl) (.cell rfl (res_blk [.int .i64 0, .slice none 0 0] ag24 sz24 hb6 rfl) (.tmp rfl .nil)) ⟨_, rfl, _, _, _, rfl, hS⟩

end Go.Proofs.Ytilgmccdpddeoaa.SX
