/- Functions of the program, what each computes (written by wip/s/sl.py). -/
import Derived.Test.YtilgmccdpddeoaaSX3
namespace Go.Proofs.Ytilgmccdpddeoaa.SX
open Go Go.RowKit Go.Proofs.Ytilgmccdpddeoaa.Sl
set_option linter.unusedVariables false
set_option linter.unusedSimpArgs false
/-! ### windrose/windroseref16.Delta: function 24 -/
def windroseref16_Delta.l7 : Nat → S28 → Int → Option Bool
  | 0, _, _ => none
  | k + 1, x0_, x6 => if x6 < (x0_.f6.length : Int) then (if 0 ≤ x6 ∧ x6 < (x0_.f6.length : Int) then ((windroseref16_in.f (nth 0 x0_.f6 x6)).bind fun t21 => (if t21 = true then (windroseref16_Delta.l7 k x0_ (w64 (x6 + 1))) else (some false))) else (none)) else (if x0_.f0 ≥ 1 then (if x0_.f0 ≤ 10 then ((windroseref08_Bare.f x0_).bind fun t29 => ((windroseref08_Deltas.f k x0_ t29).bind fun t36 => (if t36 = true then (if (x0_.f6.length : Int) ≤ 3 then ((windroseref16_in.f x0_.f1).bind fun t41 => (if t41 = true then ((windroseref16_in.f x0_.f2).bind fun t45 => (if t45 = true then ((windroseref16_in.f x0_.f3).bind fun t49 => (if t49 = true then ((windroseref16_in.f x0_.f4).bind fun t53 => (if t53 = true then ((windroseref16_in.f x0_.f5).bind fun t57 => (some t57)) else (some false))) else (some false))) else (some false))) else (some false))) else (some false)) else (some false)))) else (some false)) else (some false))
theorem windroseref16_Delta.l7_s (k : Nat) (x0_ : S28) (x6 : Int) : windroseref16_Delta.l7 (k + 1) x0_ x6 = (if x6 < (x0_.f6.length : Int) then (if 0 ≤ x6 ∧ x6 < (x0_.f6.length : Int) then ((windroseref16_in.f (nth 0 x0_.f6 x6)).bind fun t21 => (if t21 = true then (windroseref16_Delta.l7 k x0_ (w64 (x6 + 1))) else (some false))) else (none)) else (if x0_.f0 ≥ 1 then (if x0_.f0 ≤ 10 then ((windroseref08_Bare.f x0_).bind fun t29 => ((windroseref08_Deltas.f k x0_ t29).bind fun t36 => (if t36 = true then (if (x0_.f6.length : Int) ≤ 3 then ((windroseref16_in.f x0_.f1).bind fun t41 => (if t41 = true then ((windroseref16_in.f x0_.f2).bind fun t45 => (if t45 = true then ((windroseref16_in.f x0_.f3).bind fun t49 => (if t49 = true then ((windroseref16_in.f x0_.f4).bind fun t53 => (if t53 = true then ((windroseref16_in.f x0_.f5).bind fun t57 => (some t57)) else (some false))) else (some false))) else (some false))) else (some false))) else (some false)) else (some false)))) else (some false)) else (some false))) := by kernel_rfl
def windroseref16_Delta.f (k : Nat) (x0_ : S28) : Option Bool := windroseref16_Delta.l7 k x0_ 0
def windroseref16_Delta.Post (W F : World) (r : Bool) (v : Value) (w' : World) : Prop := ∃ (F' : World), v = .bool r ∧ St W (mine W []) F w' F' []
set_option maxHeartbeats 4000000 in
set_option maxRecDepth 100000 in
theorem windroseref16_Delta.calls (k : Nat) (x0_ : S28) (A0_6 : Option Addr) (c0_6 : Nat) (r : Bool) (W F : World) (hsub : Sub F W) (g0_6 : Rd (Kn.int .i64) F A0_6 c0_6 x0_.f6) (H : windroseref16_Delta.f k x0_ = some r) :
    Calls Try.prog 24 #[.agg #[.int .i64 x0_.f0, .int .i64 x0_.f1, .int .i64 x0_.f2, .int .i64 x0_.f3, .int .i64 x0_.f4, .int .i64 x0_.f5, .slice A0_6 x0_.f6.length c0_6]] W fun e w' => ∃ v, e = .returned v ∧ windroseref16_Delta.Post W F r v w' := by
  have hS := St.start (Own.nil hsub)
  unfold windroseref16_Delta.f at H
  refine enter (n := 63) rfl rfl rfl (Nat.le_of_ble_eq_true rfl) (fun a hE => ?_)
  refine wp_seq_k fun K1 hK1 => ?_
  refine plain (L := [0, 1]) rfl ?_
  refine ops_eff 0 hE (some 1) rfl rfl rfl rfl (e_box hS rfl rfl #[.int .i64 x0_.f0, .int .i64 x0_.f1, .int .i64 x0_.f2, .int .i64 x0_.f3, .int .i64 x0_.f4, .int .i64 x0_.f5, .slice A0_6 x0_.f6.length c0_6] rfl) ?_
  rintro _ u3 a ⟨b2, rfl, hb2, hS, hg⟩ hE
  refine ops_chain (S := Agr _) (.k 1 1 [(2, .bool false)] (by kernel_rfl) .nil) (rest := []) hE (Agr.refl _) (fun a hE => ?_)
  refine ops_done ?_
  refine hK1 _ _ ?_
  refine wp_seq_k fun K4 hK4 => ?_
  refine wp_seq_k fun K5 hK5 => ?_
  refine plain (L := [0]) rfl ?_
  refine ops_chain (S := Agr _) (.k 0 1 [(3, .int .i64 0)] (by kernel_rfl) .nil) (rest := []) hE (Agr.refl _) (fun a hE => ?_)
  refine ops_done ?_
  refine hK5 _ _ ?_
  refine wp_block ?_
  obtain ⟨J, hE⟩ := hE.norm [(0, .agg #[.int .i64 x0_.f0, .int .i64 x0_.f1, .int .i64 x0_.f2, .int .i64 x0_.f3, .int .i64 x0_.f4, .int .i64 x0_.f5, .slice A0_6 x0_.f6.length c0_6]), (1, .pointer (some ⟨b2, 0, none⟩)), (2, .bool false), (3, .int .i64 0)] (.cons rfl <| .cons rfl <| .cons rfl <| .cons rfl .nil)
  refine wp_loop_ghost (fun kq8 a w' => ∃ (J : Nat → Value) (x6 : Int), Env 63 (updL J [(0, .agg #[.int .i64 x0_.f0, .int .i64 x0_.f1, .int .i64 x0_.f2, .int .i64 x0_.f3, .int .i64 x0_.f4, .int .i64 x0_.f5, .slice A0_6 x0_.f6.length c0_6]), (1, .pointer (some ⟨b2, 0, none⟩)), (2, .bool false), (3, .int .i64 x6)]) a ∧ St W (mine W []) F w' F [box b2 #[.int .i64 x0_.f0, .int .i64 x0_.f1, .int .i64 x0_.f2, .int .i64 x0_.f3, .int .i64 x0_.f4, .int .i64 x0_.f5, .slice A0_6 x0_.f6.length c0_6] 28] ∧  windroseref16_Delta.l7 kq8 x0_ x6 = some r) k ⟨J, 0, hE, hS, H⟩ ?_
  rintro kq8 a u10 ⟨J, x6, hE, hS, H⟩
  cases kq8 with
  | zero => cases (show none = some r from H)
  | succ k9 =>
    rw [windroseref16_Delta.l7_s] at H
    refine wp_seq_k fun K11 hK11 => ?_
    refine wp_seq_k fun K12 hK12 => ?_
    refine plain (L := [0, 1, 2, 3, 4]) rfl ?_
    have hb2 := hS.blk_at (i := 0) rfl
    refine ops_chain (S := Agr _) (.k 0 2 [(4, .int .i64 x6), (5, .pointer (some ⟨b2, 6, none⟩))] (by kernel_rfl) <| .v 2 6 rfl rfl rfl rfl (lb1 6 (.slice A0_6 x0_.f6.length c0_6) rfl rfl ag26 hb2 rfl) <| .v 3 7 rfl rfl rfl rfl (YA.s (len_sl rfl rfl ud26)) <| .k 4 1 [(8, .bool (decide (x6 < (x0_.f6.length : Int))))] (by kernel_rfl) .nil) (rest := []) hE (Agr.refl _) (fun a hE => ?_)
    refine ops_done ?_
    refine hK12 _ _ ?_
    by_cases c13 : x6 < (x0_.f6.length : Int)
    · rw [if_pos c13] at H
      refine cond_t hE (b := (decide (x6 < (x0_.f6.length : Int)))) rfl (decide_eq_true c13) ?_
      refine wp_skip ?_
      refine hK11 _ _ ?_
      refine wp_seq_k fun K14 hK14 => ?_
      refine wp_block ?_
      refine wp_seq_k fun K15 hK15 => ?_
      refine plain (L := [0, 1, 2, 3, 4, 5, 6]) rfl ?_
      by_cases c16 : 0 ≤ x6 ∧ x6 < (x0_.f6.length : Int)
      rotate_left
      · rw [if_neg c16] at H; cases H
      rw [if_pos c16] at H
      obtain ⟨ad17, rfl⟩ := g0_6.addr c16.1 c16.2
      obtain ⟨cs19, rfl, hc20⟩ := g0_6.el 0 x6 c16.1 c16.2
      refine ops_chain (S := Agr _) (.k 0 1 [(11, .pointer (some ⟨b2, 6, none⟩))] (by kernel_rfl) <| .v 1 12 rfl rfl rfl rfl (lb1 6 (.slice (some ad17) x0_.f6.length c0_6) rfl rfl ag26 hb2 rfl) <| .k 2 1 [(13, .int .i64 x6)] (by kernel_rfl) <| .v 3 14 rfl rfl rfl rfl (YA.s (ix 1 rfl rfl rfl ud26 sz3 c16.1 c16.2)) <| .v 4 15 rfl rfl rfl rfl (lf1 (.int .i64 (nth 0 x0_.f6 x6)) rfl rfl ag3 hS.own.sub (hc20 0 _ rfl)) .nil) (rest := [5, 6]) hE (Agr.refl _) (fun a hE => ?_)
      obtain ⟨t21, h22, H⟩ := Option.bind_eq_some_iff.mp H
      refine ops_eff 5 hE (some 16) rfl rfl rfl rfl (Eff.call en75 rfl [.int .i64 (nth 0 x0_.f6 x6)] rfl (windroseref16_in.calls (nth 0 x0_.f6 x6) _ _ _ hS.own.sub h22)) ?_
      rintro _ u23 a ⟨_, rfl, hC⟩ hE
      replace hS := hS.lent hC
      refine ops_chain (S := Agr _) (.k 6 1 [(17, .bool (!t21))] (by kernel_rfl) .nil) (rest := []) hE (Agr.refl _) (fun a hE => ?_)
      refine ops_done ?_
      refine hK15 _ _ ?_
      by_cases c24 : t21 = true
      · rw [if_pos c24] at H
        refine cond_f hE (b := (!t21)) rfl (congrArg not c24) ?_
        refine wp_skip ?_
        refine hK14 _ _ ?_
        refine plain (L := [0, 1, 2]) rfl ?_
        refine ops_chain (S := Agr _) (.k 0 3 [(9, .int .i64 x6), (10, .int .i64 (w64 (x6 + 1))), (3, .int .i64 (w64 (x6 + 1)))] (by kernel_rfl) .nil) (rest := []) hE (Agr.refl _) (fun a hE => ?_)
        refine ops_done ?_
        obtain ⟨J, hE⟩ := hE.norm [(0, .agg #[.int .i64 x0_.f0, .int .i64 x0_.f1, .int .i64 x0_.f2, .int .i64 x0_.f3, .int .i64 x0_.f4, .int .i64 x0_.f5, .slice (some ad17) x0_.f6.length c0_6]), (1, .pointer (some ⟨b2, 0, none⟩)), (2, .bool false), (3, .int .i64 (w64 (x6 + 1)))] (.cons rfl <| .cons rfl <| .cons rfl <| .cons rfl .nil)
        exact then_n ⟨k9, by omega, J, (w64 (x6 + 1)), hE, hS, H⟩
      · rw [if_neg c24] at H
        refine cond_t hE (b := (!t21)) rfl (congrArg not (eq_false_of_ne_true c24)) ?_
        refine wp_seq_k fun K25 hK25 => ?_
        refine plain (L := [0]) rfl ?_
        refine ops_chain (S := Agr _) (.k 0 1 [(2, .bool false)] (by kernel_rfl) .nil) (rest := []) hE (Agr.refl _) (fun a hE => ?_)
        refine ops_done ?_
        refine hK25 _ _ ?_
        refine wp_ret (block_ret (then_ret (then_ret (block_ret (then_ret ?_)))))
        replace hS := hS.tail
        obtain rfl := Option.some.inj H
        exact ret1 hE rfl (.tmp rfl .nil) ⟨_, rfl, _, rfl, hS⟩
    · rw [if_neg c13] at H
      refine cond_f hE (b := (decide (x6 < (x0_.f6.length : Int)))) rfl (decide_eq_false c13) ?_
      refine wp_exit ?_
      refine hK4 _ _ ?_
      refine wp_seq_k fun K26 hK26 => ?_
      refine drawn 46 [] mixed rfl (by kernel_rfl) (fun hst => ?_)
      replace hS := hS.drew
      have hb2 := hS.blk_at (i := 0) rfl
      refine many 15 hst hE (.k 0 1 [(18, .pointer (some ⟨b2, 0, none⟩))] (by kernel_rfl) <| .v 1 19 rfl rfl rfl rfl (lb1 0 (.int .i64 x0_.f0) rfl rfl ag3 hb2 rfl) <| .k 2 2 [(20, .bool (decide (x0_.f0 ≥ 1))), (21, .bool (decide (x0_.f0 ≥ 1)))] (by kernel_rfl) .nil) (by kernel_rfl) (fun a hE => ?_)
      by_cases c27 : x0_.f0 ≥ 1
      · rw [if_pos c27] at H
        obtain ⟨J, hE⟩ := hE.norm [(0, .agg #[.int .i64 x0_.f0, .int .i64 x0_.f1, .int .i64 x0_.f2, .int .i64 x0_.f3, .int .i64 x0_.f4, .int .i64 x0_.f5, .slice A0_6 x0_.f6.length c0_6]), (1, .pointer (some ⟨b2, 0, none⟩)), (2, .bool false), (3, .int .i64 x6), (8, .bool (decide (x6 < (x0_.f6.length : Int)))), (21, .bool true)] (.cons rfl <| .cons rfl <| .cons rfl <| .cons rfl <| .cons rfl <| .cons (Eq.trans (b := .bool (decide (x0_.f0 ≥ 1))) rfl (congrArg Value.bool (decide_eq_true c27))) .nil)
        refine many 511 hst hE (.k 4 1 [(22, .pointer (some ⟨b2, 0, none⟩))] (by kernel_rfl) <| .v 5 23 rfl rfl rfl rfl (lb1 0 (.int .i64 x0_.f0) rfl rfl ag3 hb2 rfl) <| .k 6 3 [(24, .bool (decide (x0_.f0 ≤ 10))), (25, .bool (decide (x0_.f0 ≤ 10))), (26, .bool (decide (x0_.f0 ≤ 10)))] (by kernel_rfl) .nil) (by kernel_rfl) (fun a hE => ?_)
        by_cases c28 : x0_.f0 ≤ 10
        · rw [if_pos c28] at H
          obtain ⟨J, hE⟩ := hE.norm [(0, .agg #[.int .i64 x0_.f0, .int .i64 x0_.f1, .int .i64 x0_.f2, .int .i64 x0_.f3, .int .i64 x0_.f4, .int .i64 x0_.f5, .slice A0_6 x0_.f6.length c0_6]), (1, .pointer (some ⟨b2, 0, none⟩)), (2, .bool false), (3, .int .i64 x6), (8, .bool (decide (x6 < (x0_.f6.length : Int)))), (22, .pointer (some ⟨b2, 0, none⟩)), (23, .int .i64 x0_.f0), (24, .bool true), (26, .bool true)] (.cons rfl <| .cons rfl <| .cons rfl <| .cons rfl <| .cons rfl <| .cons rfl <| .cons rfl <| .cons (Eq.trans (b := .bool (decide (x0_.f0 ≤ 10))) rfl (congrArg Value.bool (decide_eq_true c28))) <| .cons (Eq.trans (b := .bool (decide (x0_.f0 ≤ 10))) rfl (congrArg Value.bool (decide_eq_true c28))) .nil)
          refine many 2047 hst hE (.v 9 27 rfl rfl rfl rfl (lbn 0 [.int .i64 x0_.f0, .int .i64 x0_.f1, .int .i64 x0_.f2, .int .i64 x0_.f3, .int .i64 x0_.f4, .int .i64 x0_.f5, .slice A0_6 x0_.f6.length c0_6] rfl rfl ag28 sz28 hb2 rfl) <| .v 10 28 rfl rfl rfl rfl (lbn 0 [.int .i64 x0_.f0, .int .i64 x0_.f1, .int .i64 x0_.f2, .int .i64 x0_.f3, .int .i64 x0_.f4, .int .i64 x0_.f5, .slice A0_6 x0_.f6.length c0_6] rfl rfl ag28 sz28 hb2 rfl) .nil) (by kernel_rfl) (fun a hE => ?_)
          obtain ⟨t29, h30, H⟩ := Option.bind_eq_some_iff.mp H
          refine one 11 4095 hE (some 29) rfl rfl rfl rfl (by kernel_rfl) (Eff.call en78 rfl [.agg #[.int .i64 x0_.f0, .int .i64 x0_.f1, .int .i64 x0_.f2, .int .i64 x0_.f3, .int .i64 x0_.f4, .int .i64 x0_.f5, .slice A0_6 x0_.f6.length c0_6]] rfl (windroseref08_Bare.calls x0_ _ _ _ _ _ hS.own.sub g0_6 h30)) ?_
          rintro _ u31 a ⟨F32, A33, c34, rfl, hC, g35⟩ hE
          refine ⟨fun _ => hC.agr, ?_⟩
          have hs := hC.sub
          replace hS : St W (mine W []) F u31 F32 [box b2 #[.int .i64 x0_.f0, .int .i64 x0_.f1, .int .i64 x0_.f2, .int .i64 x0_.f3, .int .i64 x0_.f4, .int .i64 x0_.f5, .slice A0_6 x0_.f6.length c0_6] 28] := hS.called (X := []) (Y := []) hC
          replace g0_6 := g0_6.mono hs
          obtain ⟨t36, h37, H⟩ := Option.bind_eq_some_iff.mp H
          refine one 12 8191 hE (some 30) rfl rfl rfl rfl (by kernel_rfl) (Eff.call en31 rfl [.agg #[.int .i64 x0_.f0, .int .i64 x0_.f1, .int .i64 x0_.f2, .int .i64 x0_.f3, .int .i64 x0_.f4, .int .i64 x0_.f5, .slice A0_6 x0_.f6.length c0_6], .agg #[.int .i64 t29.f0, .int .i64 t29.f1, .int .i64 t29.f2, .int .i64 t29.f3, .int .i64 t29.f4, .int .i64 t29.f5, .slice A33 t29.f6.length c34]] rfl (windroseref08_Deltas.calls k9 x0_ t29 _ _ _ _ _ _ _ hS.own.sub g0_6 g35 h37)) ?_
          rintro _ u38 a ⟨_, rfl, hC⟩ hE
          refine ⟨fun _ => hC.agr, ?_⟩
          replace hS := hS.lent hC
          refine many 32767 hst hE (.k 13 2 [(31, .bool t36), (32, .bool t36)] (by kernel_rfl) .nil) (by kernel_rfl) (fun a hE => ?_)
          by_cases c39 : t36 = true
          · rw [if_pos c39] at H
            obtain ⟨J, hE⟩ := hE.norm [(0, .agg #[.int .i64 x0_.f0, .int .i64 x0_.f1, .int .i64 x0_.f2, .int .i64 x0_.f3, .int .i64 x0_.f4, .int .i64 x0_.f5, .slice A0_6 x0_.f6.length c0_6]), (1, .pointer (some ⟨b2, 0, none⟩)), (2, .bool false), (3, .int .i64 x6), (8, .bool (decide (x6 < (x0_.f6.length : Int)))), (22, .pointer (some ⟨b2, 0, none⟩)), (23, .int .i64 x0_.f0), (24, .bool true), (27, .agg #[.int .i64 x0_.f0, .int .i64 x0_.f1, .int .i64 x0_.f2, .int .i64 x0_.f3, .int .i64 x0_.f4, .int .i64 x0_.f5, .slice A0_6 x0_.f6.length c0_6]), (28, .agg #[.int .i64 x0_.f0, .int .i64 x0_.f1, .int .i64 x0_.f2, .int .i64 x0_.f3, .int .i64 x0_.f4, .int .i64 x0_.f5, .slice A0_6 x0_.f6.length c0_6]), (29, .agg #[.int .i64 t29.f0, .int .i64 t29.f1, .int .i64 t29.f2, .int .i64 t29.f3, .int .i64 t29.f4, .int .i64 t29.f5, .slice A33 t29.f6.length c34]), (30, .bool true), (32, .bool true)] (.cons rfl <| .cons rfl <| .cons rfl <| .cons rfl <| .cons rfl <| .cons rfl <| .cons rfl <| .cons rfl <| .cons rfl <| .cons rfl <| .cons rfl <| .cons (Eq.trans (b := .bool t36) rfl (congrArg Value.bool c39)) <| .cons (Eq.trans (b := .bool t36) rfl (congrArg Value.bool c39)) .nil)
            have hb2 := hS.blk_at (i := 0) rfl
            refine many 2097151 hst hE (.k 15 1 [(33, .pointer (some ⟨b2, 6, none⟩))] (by kernel_rfl) <| .v 16 34 rfl rfl rfl rfl (lb1 6 (.slice A0_6 x0_.f6.length c0_6) rfl rfl ag26 hb2 rfl) <| .q 17 35 rfl rfl rfl rfl (len_sl rfl rfl ud26) <| .k 18 3 [(36, .bool (decide ((x0_.f6.length : Int) ≤ 3))), (37, .bool (decide ((x0_.f6.length : Int) ≤ 3))), (38, .bool (decide ((x0_.f6.length : Int) ≤ 3)))] (by kernel_rfl) .nil) (by kernel_rfl) (fun a hE => ?_)
            by_cases c40 : (x0_.f6.length : Int) ≤ 3
            · rw [if_pos c40] at H
              obtain ⟨J, hE⟩ := hE.norm [(0, .agg #[.int .i64 x0_.f0, .int .i64 x0_.f1, .int .i64 x0_.f2, .int .i64 x0_.f3, .int .i64 x0_.f4, .int .i64 x0_.f5, .slice A0_6 x0_.f6.length c0_6]), (1, .pointer (some ⟨b2, 0, none⟩)), (2, .bool false), (3, .int .i64 x6), (8, .bool (decide (x6 < (x0_.f6.length : Int)))), (22, .pointer (some ⟨b2, 0, none⟩)), (23, .int .i64 x0_.f0), (24, .bool true), (27, .agg #[.int .i64 x0_.f0, .int .i64 x0_.f1, .int .i64 x0_.f2, .int .i64 x0_.f3, .int .i64 x0_.f4, .int .i64 x0_.f5, .slice A0_6 x0_.f6.length c0_6]), (28, .agg #[.int .i64 x0_.f0, .int .i64 x0_.f1, .int .i64 x0_.f2, .int .i64 x0_.f3, .int .i64 x0_.f4, .int .i64 x0_.f5, .slice A0_6 x0_.f6.length c0_6]), (29, .agg #[.int .i64 t29.f0, .int .i64 t29.f1, .int .i64 t29.f2, .int .i64 t29.f3, .int .i64 t29.f4, .int .i64 t29.f5, .slice A33 t29.f6.length c34]), (30, .bool true), (33, .pointer (some ⟨b2, 6, none⟩)), (34, .slice A0_6 x0_.f6.length c0_6), (35, .int .i64 (x0_.f6.length : Int)), (36, .bool true), (38, .bool true)] (.cons rfl <| .cons rfl <| .cons rfl <| .cons rfl <| .cons rfl <| .cons rfl <| .cons rfl <| .cons rfl <| .cons rfl <| .cons rfl <| .cons rfl <| .cons rfl <| .cons rfl <| .cons rfl <| .cons rfl <| .cons (Eq.trans (b := .bool (decide ((x0_.f6.length : Int) ≤ 3))) rfl (congrArg Value.bool (decide_eq_true c40))) <| .cons (Eq.trans (b := .bool (decide ((x0_.f6.length : Int) ≤ 3))) rfl (congrArg Value.bool (decide_eq_true c40))) .nil)
              refine many 8388607 hst hE (.k 21 1 [(39, .pointer (some ⟨b2, 1, none⟩))] (by kernel_rfl) <| .v 22 40 rfl rfl rfl rfl (lb1 1 (.int .i64 x0_.f1) rfl rfl ag3 hb2 rfl) .nil) (by kernel_rfl) (fun a hE => ?_)
              obtain ⟨t41, h42, H⟩ := Option.bind_eq_some_iff.mp H
              refine one 23 16777215 hE (some 41) rfl rfl rfl rfl (by kernel_rfl) (Eff.call en75 rfl [.int .i64 x0_.f1] rfl (windroseref16_in.calls x0_.f1 _ _ _ hS.own.sub h42)) ?_
              rintro _ u43 a ⟨_, rfl, hC⟩ hE
              refine ⟨fun _ => hC.agr, ?_⟩
              replace hS := hS.lent hC
              refine many 67108863 hst hE (.k 24 2 [(42, .bool t41), (43, .bool t41)] (by kernel_rfl) .nil) (by kernel_rfl) (fun a hE => ?_)
              by_cases c44 : t41 = true
              · rw [if_pos c44] at H
                obtain ⟨J, hE⟩ := hE.norm [(0, .agg #[.int .i64 x0_.f0, .int .i64 x0_.f1, .int .i64 x0_.f2, .int .i64 x0_.f3, .int .i64 x0_.f4, .int .i64 x0_.f5, .slice A0_6 x0_.f6.length c0_6]), (1, .pointer (some ⟨b2, 0, none⟩)), (2, .bool false), (3, .int .i64 x6), (8, .bool (decide (x6 < (x0_.f6.length : Int)))), (22, .pointer (some ⟨b2, 0, none⟩)), (23, .int .i64 x0_.f0), (24, .bool true), (27, .agg #[.int .i64 x0_.f0, .int .i64 x0_.f1, .int .i64 x0_.f2, .int .i64 x0_.f3, .int .i64 x0_.f4, .int .i64 x0_.f5, .slice A0_6 x0_.f6.length c0_6]), (28, .agg #[.int .i64 x0_.f0, .int .i64 x0_.f1, .int .i64 x0_.f2, .int .i64 x0_.f3, .int .i64 x0_.f4, .int .i64 x0_.f5, .slice A0_6 x0_.f6.length c0_6]), (29, .agg #[.int .i64 t29.f0, .int .i64 t29.f1, .int .i64 t29.f2, .int .i64 t29.f3, .int .i64 t29.f4, .int .i64 t29.f5, .slice A33 t29.f6.length c34]), (30, .bool true), (33, .pointer (some ⟨b2, 6, none⟩)), (34, .slice A0_6 x0_.f6.length c0_6), (35, .int .i64 (x0_.f6.length : Int)), (36, .bool true), (39, .pointer (some ⟨b2, 1, none⟩)), (40, .int .i64 x0_.f1), (41, .bool true), (43, .bool true)] (.cons rfl <| .cons rfl <| .cons rfl <| .cons rfl <| .cons rfl <| .cons rfl <| .cons rfl <| .cons rfl <| .cons rfl <| .cons rfl <| .cons rfl <| .cons rfl <| .cons rfl <| .cons rfl <| .cons rfl <| .cons rfl <| .cons rfl <| .cons rfl <| .cons (Eq.trans (b := .bool t41) rfl (congrArg Value.bool c44)) <| .cons (Eq.trans (b := .bool t41) rfl (congrArg Value.bool c44)) .nil)
                have hb2 := hS.blk_at (i := 0) rfl
                refine many 268435455 hst hE (.k 26 1 [(44, .pointer (some ⟨b2, 2, none⟩))] (by kernel_rfl) <| .v 27 45 rfl rfl rfl rfl (lb1 2 (.int .i64 x0_.f2) rfl rfl ag3 hb2 rfl) .nil) (by kernel_rfl) (fun a hE => ?_)
                obtain ⟨t45, h46, H⟩ := Option.bind_eq_some_iff.mp H
                refine one 28 536870911 hE (some 46) rfl rfl rfl rfl (by kernel_rfl) (Eff.call en75 rfl [.int .i64 x0_.f2] rfl (windroseref16_in.calls x0_.f2 _ _ _ hS.own.sub h46)) ?_
                rintro _ u47 a ⟨_, rfl, hC⟩ hE
                refine ⟨fun _ => hC.agr, ?_⟩
                replace hS := hS.lent hC
                refine many 2147483647 hst hE (.k 29 2 [(47, .bool t45), (48, .bool t45)] (by kernel_rfl) .nil) (by kernel_rfl) (fun a hE => ?_)
                by_cases c48 : t45 = true
                · rw [if_pos c48] at H
                  obtain ⟨J, hE⟩ := hE.norm [(0, .agg #[.int .i64 x0_.f0, .int .i64 x0_.f1, .int .i64 x0_.f2, .int .i64 x0_.f3, .int .i64 x0_.f4, .int .i64 x0_.f5, .slice A0_6 x0_.f6.length c0_6]), (1, .pointer (some ⟨b2, 0, none⟩)), (2, .bool false), (3, .int .i64 x6), (8, .bool (decide (x6 < (x0_.f6.length : Int)))), (22, .pointer (some ⟨b2, 0, none⟩)), (23, .int .i64 x0_.f0), (24, .bool true), (27, .agg #[.int .i64 x0_.f0, .int .i64 x0_.f1, .int .i64 x0_.f2, .int .i64 x0_.f3, .int .i64 x0_.f4, .int .i64 x0_.f5, .slice A0_6 x0_.f6.length c0_6]), (28, .agg #[.int .i64 x0_.f0, .int .i64 x0_.f1, .int .i64 x0_.f2, .int .i64 x0_.f3, .int .i64 x0_.f4, .int .i64 x0_.f5, .slice A0_6 x0_.f6.length c0_6]), (29, .agg #[.int .i64 t29.f0, .int .i64 t29.f1, .int .i64 t29.f2, .int .i64 t29.f3, .int .i64 t29.f4, .int .i64 t29.f5, .slice A33 t29.f6.length c34]), (30, .bool true), (33, .pointer (some ⟨b2, 6, none⟩)), (34, .slice A0_6 x0_.f6.length c0_6), (35, .int .i64 (x0_.f6.length : Int)), (36, .bool true), (39, .pointer (some ⟨b2, 1, none⟩)), (40, .int .i64 x0_.f1), (41, .bool true), (44, .pointer (some ⟨b2, 2, none⟩)), (45, .int .i64 x0_.f2), (46, .bool true), (48, .bool true)] (.cons rfl <| .cons rfl <| .cons rfl <| .cons rfl <| .cons rfl <| .cons rfl <| .cons rfl <| .cons rfl <| .cons rfl <| .cons rfl <| .cons rfl <| .cons rfl <| .cons rfl <| .cons rfl <| .cons rfl <| .cons rfl <| .cons rfl <| .cons rfl <| .cons rfl <| .cons rfl <| .cons rfl <| .cons (Eq.trans (b := .bool t45) rfl (congrArg Value.bool c48)) <| .cons (Eq.trans (b := .bool t45) rfl (congrArg Value.bool c48)) .nil)
                  have hb2 := hS.blk_at (i := 0) rfl
                  refine many 8589934591 hst hE (.k 31 1 [(49, .pointer (some ⟨b2, 3, none⟩))] (by kernel_rfl) <| .v 32 50 rfl rfl rfl rfl (lb1 3 (.int .i64 x0_.f3) rfl rfl ag3 hb2 rfl) .nil) (by kernel_rfl) (fun a hE => ?_)
                  obtain ⟨t49, h50, H⟩ := Option.bind_eq_some_iff.mp H
                  refine one 33 17179869183 hE (some 51) rfl rfl rfl rfl (by kernel_rfl) (Eff.call en75 rfl [.int .i64 x0_.f3] rfl (windroseref16_in.calls x0_.f3 _ _ _ hS.own.sub h50)) ?_
                  rintro _ u51 a ⟨_, rfl, hC⟩ hE
                  refine ⟨fun _ => hC.agr, ?_⟩
                  replace hS := hS.lent hC
                  refine many 68719476735 hst hE (.k 34 2 [(52, .bool t49), (53, .bool t49)] (by kernel_rfl) .nil) (by kernel_rfl) (fun a hE => ?_)
                  by_cases c52 : t49 = true
                  · rw [if_pos c52] at H
                    obtain ⟨J, hE⟩ := hE.norm [(0, .agg #[.int .i64 x0_.f0, .int .i64 x0_.f1, .int .i64 x0_.f2, .int .i64 x0_.f3, .int .i64 x0_.f4, .int .i64 x0_.f5, .slice A0_6 x0_.f6.length c0_6]), (1, .pointer (some ⟨b2, 0, none⟩)), (2, .bool false), (3, .int .i64 x6), (8, .bool (decide (x6 < (x0_.f6.length : Int)))), (22, .pointer (some ⟨b2, 0, none⟩)), (23, .int .i64 x0_.f0), (24, .bool true), (27, .agg #[.int .i64 x0_.f0, .int .i64 x0_.f1, .int .i64 x0_.f2, .int .i64 x0_.f3, .int .i64 x0_.f4, .int .i64 x0_.f5, .slice A0_6 x0_.f6.length c0_6]), (28, .agg #[.int .i64 x0_.f0, .int .i64 x0_.f1, .int .i64 x0_.f2, .int .i64 x0_.f3, .int .i64 x0_.f4, .int .i64 x0_.f5, .slice A0_6 x0_.f6.length c0_6]), (29, .agg #[.int .i64 t29.f0, .int .i64 t29.f1, .int .i64 t29.f2, .int .i64 t29.f3, .int .i64 t29.f4, .int .i64 t29.f5, .slice A33 t29.f6.length c34]), (30, .bool true), (33, .pointer (some ⟨b2, 6, none⟩)), (34, .slice A0_6 x0_.f6.length c0_6), (35, .int .i64 (x0_.f6.length : Int)), (36, .bool true), (39, .pointer (some ⟨b2, 1, none⟩)), (40, .int .i64 x0_.f1), (41, .bool true), (44, .pointer (some ⟨b2, 2, none⟩)), (45, .int .i64 x0_.f2), (46, .bool true), (49, .pointer (some ⟨b2, 3, none⟩)), (50, .int .i64 x0_.f3), (51, .bool true), (53, .bool true)] (.cons rfl <| .cons rfl <| .cons rfl <| .cons rfl <| .cons rfl <| .cons rfl <| .cons rfl <| .cons rfl <| .cons rfl <| .cons rfl <| .cons rfl <| .cons rfl <| .cons rfl <| .cons rfl <| .cons rfl <| .cons rfl <| .cons rfl <| .cons rfl <| .cons rfl <| .cons rfl <| .cons rfl <| .cons rfl <| .cons rfl <| .cons rfl <| .cons (Eq.trans (b := .bool t49) rfl (congrArg Value.bool c52)) <| .cons (Eq.trans (b := .bool t49) rfl (congrArg Value.bool c52)) .nil)
                    have hb2 := hS.blk_at (i := 0) rfl
                    refine many 274877906943 hst hE (.k 36 1 [(54, .pointer (some ⟨b2, 4, none⟩))] (by kernel_rfl) <| .v 37 55 rfl rfl rfl rfl (lb1 4 (.int .i64 x0_.f4) rfl rfl ag3 hb2 rfl) .nil) (by kernel_rfl) (fun a hE => ?_)
                    obtain ⟨t53, h54, H⟩ := Option.bind_eq_some_iff.mp H
                    refine one 38 549755813887 hE (some 56) rfl rfl rfl rfl (by kernel_rfl) (Eff.call en75 rfl [.int .i64 x0_.f4] rfl (windroseref16_in.calls x0_.f4 _ _ _ hS.own.sub h54)) ?_
                    rintro _ u55 a ⟨_, rfl, hC⟩ hE
                    refine ⟨fun _ => hC.agr, ?_⟩
                    replace hS := hS.lent hC
                    refine many 2199023255551 hst hE (.k 39 2 [(57, .bool t53), (58, .bool t53)] (by kernel_rfl) .nil) (by kernel_rfl) (fun a hE => ?_)
                    by_cases c56 : t53 = true
                    · rw [if_pos c56] at H
                      obtain ⟨J, hE⟩ := hE.norm [(0, .agg #[.int .i64 x0_.f0, .int .i64 x0_.f1, .int .i64 x0_.f2, .int .i64 x0_.f3, .int .i64 x0_.f4, .int .i64 x0_.f5, .slice A0_6 x0_.f6.length c0_6]), (1, .pointer (some ⟨b2, 0, none⟩)), (2, .bool false), (3, .int .i64 x6), (8, .bool (decide (x6 < (x0_.f6.length : Int)))), (22, .pointer (some ⟨b2, 0, none⟩)), (23, .int .i64 x0_.f0), (24, .bool true), (27, .agg #[.int .i64 x0_.f0, .int .i64 x0_.f1, .int .i64 x0_.f2, .int .i64 x0_.f3, .int .i64 x0_.f4, .int .i64 x0_.f5, .slice A0_6 x0_.f6.length c0_6]), (28, .agg #[.int .i64 x0_.f0, .int .i64 x0_.f1, .int .i64 x0_.f2, .int .i64 x0_.f3, .int .i64 x0_.f4, .int .i64 x0_.f5, .slice A0_6 x0_.f6.length c0_6]), (29, .agg #[.int .i64 t29.f0, .int .i64 t29.f1, .int .i64 t29.f2, .int .i64 t29.f3, .int .i64 t29.f4, .int .i64 t29.f5, .slice A33 t29.f6.length c34]), (30, .bool true), (33, .pointer (some ⟨b2, 6, none⟩)), (34, .slice A0_6 x0_.f6.length c0_6), (35, .int .i64 (x0_.f6.length : Int)), (36, .bool true), (39, .pointer (some ⟨b2, 1, none⟩)), (40, .int .i64 x0_.f1), (41, .bool true), (44, .pointer (some ⟨b2, 2, none⟩)), (45, .int .i64 x0_.f2), (46, .bool true), (49, .pointer (some ⟨b2, 3, none⟩)), (50, .int .i64 x0_.f3), (51, .bool true), (54, .pointer (some ⟨b2, 4, none⟩)), (55, .int .i64 x0_.f4), (56, .bool true), (58, .bool true)] (.cons rfl <| .cons rfl <| .cons rfl <| .cons rfl <| .cons rfl <| .cons rfl <| .cons rfl <| .cons rfl <| .cons rfl <| .cons rfl <| .cons rfl <| .cons rfl <| .cons rfl <| .cons rfl <| .cons rfl <| .cons rfl <| .cons rfl <| .cons rfl <| .cons rfl <| .cons rfl <| .cons rfl <| .cons rfl <| .cons rfl <| .cons rfl <| .cons rfl <| .cons rfl <| .cons rfl <| .cons (Eq.trans (b := .bool t53) rfl (congrArg Value.bool c56)) <| .cons (Eq.trans (b := .bool t53) rfl (congrArg Value.bool c56)) .nil)
                      have hb2 := hS.blk_at (i := 0) rfl
                      refine many 8796093022207 hst hE (.k 41 1 [(59, .pointer (some ⟨b2, 5, none⟩))] (by kernel_rfl) <| .v 42 60 rfl rfl rfl rfl (lb1 5 (.int .i64 x0_.f5) rfl rfl ag3 hb2 rfl) .nil) (by kernel_rfl) (fun a hE => ?_)
                      obtain ⟨t57, h58, H⟩ := Option.bind_eq_some_iff.mp H
                      refine one 43 17592186044415 hE (some 61) rfl rfl rfl rfl (by kernel_rfl) (Eff.call en75 rfl [.int .i64 x0_.f5] rfl (windroseref16_in.calls x0_.f5 _ _ _ hS.own.sub h58)) ?_
                      rintro _ u59 a ⟨_, rfl, hC⟩ hE
                      refine ⟨fun _ => hC.agr, ?_⟩
                      replace hS := hS.lent hC
                      refine many 70368744177663 hst hE (.k 44 2 [(62, .bool t57), (2, .bool t57)] (by kernel_rfl) .nil) (by kernel_rfl) (fun a hE => ?_)
                      refine all_done (by kernel_rfl) ?_
                      refine hK26 _ _ ?_
                      refine wp_ret ?_
                      replace hS := hS.tail
                      obtain rfl := Option.some.inj H
                      exact ret1 hE rfl (.tmp rfl .nil) ⟨_, rfl, _, rfl, hS⟩
                    · rw [if_neg c56] at H
                      obtain ⟨J, hE⟩ := hE.norm [(0, .agg #[.int .i64 x0_.f0, .int .i64 x0_.f1, .int .i64 x0_.f2, .int .i64 x0_.f3, .int .i64 x0_.f4, .int .i64 x0_.f5, .slice A0_6 x0_.f6.length c0_6]), (1, .pointer (some ⟨b2, 0, none⟩)), (2, .bool false), (3, .int .i64 x6), (8, .bool (decide (x6 < (x0_.f6.length : Int)))), (22, .pointer (some ⟨b2, 0, none⟩)), (23, .int .i64 x0_.f0), (24, .bool true), (27, .agg #[.int .i64 x0_.f0, .int .i64 x0_.f1, .int .i64 x0_.f2, .int .i64 x0_.f3, .int .i64 x0_.f4, .int .i64 x0_.f5, .slice A0_6 x0_.f6.length c0_6]), (28, .agg #[.int .i64 x0_.f0, .int .i64 x0_.f1, .int .i64 x0_.f2, .int .i64 x0_.f3, .int .i64 x0_.f4, .int .i64 x0_.f5, .slice A0_6 x0_.f6.length c0_6]), (29, .agg #[.int .i64 t29.f0, .int .i64 t29.f1, .int .i64 t29.f2, .int .i64 t29.f3, .int .i64 t29.f4, .int .i64 t29.f5, .slice A33 t29.f6.length c34]), (30, .bool true), (33, .pointer (some ⟨b2, 6, none⟩)), (34, .slice A0_6 x0_.f6.length c0_6), (35, .int .i64 (x0_.f6.length : Int)), (36, .bool true), (39, .pointer (some ⟨b2, 1, none⟩)), (40, .int .i64 x0_.f1), (41, .bool true), (44, .pointer (some ⟨b2, 2, none⟩)), (45, .int .i64 x0_.f2), (46, .bool true), (49, .pointer (some ⟨b2, 3, none⟩)), (50, .int .i64 x0_.f3), (51, .bool true), (54, .pointer (some ⟨b2, 4, none⟩)), (55, .int .i64 x0_.f4), (56, .bool false), (58, .bool false)] (.cons rfl <| .cons rfl <| .cons rfl <| .cons rfl <| .cons rfl <| .cons rfl <| .cons rfl <| .cons rfl <| .cons rfl <| .cons rfl <| .cons rfl <| .cons rfl <| .cons rfl <| .cons rfl <| .cons rfl <| .cons rfl <| .cons rfl <| .cons rfl <| .cons rfl <| .cons rfl <| .cons rfl <| .cons rfl <| .cons rfl <| .cons rfl <| .cons rfl <| .cons rfl <| .cons rfl <| .cons (Eq.trans (b := .bool t53) rfl (congrArg Value.bool (eq_false_of_ne_true c56))) <| .cons (Eq.trans (b := .bool t53) rfl (congrArg Value.bool (eq_false_of_ne_true c56))) .nil)
                      refine many 70368744177663 hst hE (.k 41 5 [(59, undef), (60, undef), (61, undef), (62, .bool false), (2, .bool false)] (by kernel_rfl) .nil) (by kernel_rfl) (fun a hE => ?_)
                      refine all_done (by kernel_rfl) ?_
                      refine hK26 _ _ ?_
                      refine wp_ret ?_
                      replace hS := hS.tail
                      obtain rfl := Option.some.inj H
                      exact ret1 hE rfl (.tmp rfl .nil) ⟨_, rfl, _, rfl, hS⟩
                  · rw [if_neg c52] at H
                    obtain ⟨J, hE⟩ := hE.norm [(0, .agg #[.int .i64 x0_.f0, .int .i64 x0_.f1, .int .i64 x0_.f2, .int .i64 x0_.f3, .int .i64 x0_.f4, .int .i64 x0_.f5, .slice A0_6 x0_.f6.length c0_6]), (1, .pointer (some ⟨b2, 0, none⟩)), (2, .bool false), (3, .int .i64 x6), (8, .bool (decide (x6 < (x0_.f6.length : Int)))), (22, .pointer (some ⟨b2, 0, none⟩)), (23, .int .i64 x0_.f0), (24, .bool true), (27, .agg #[.int .i64 x0_.f0, .int .i64 x0_.f1, .int .i64 x0_.f2, .int .i64 x0_.f3, .int .i64 x0_.f4, .int .i64 x0_.f5, .slice A0_6 x0_.f6.length c0_6]), (28, .agg #[.int .i64 x0_.f0, .int .i64 x0_.f1, .int .i64 x0_.f2, .int .i64 x0_.f3, .int .i64 x0_.f4, .int .i64 x0_.f5, .slice A0_6 x0_.f6.length c0_6]), (29, .agg #[.int .i64 t29.f0, .int .i64 t29.f1, .int .i64 t29.f2, .int .i64 t29.f3, .int .i64 t29.f4, .int .i64 t29.f5, .slice A33 t29.f6.length c34]), (30, .bool true), (33, .pointer (some ⟨b2, 6, none⟩)), (34, .slice A0_6 x0_.f6.length c0_6), (35, .int .i64 (x0_.f6.length : Int)), (36, .bool true), (39, .pointer (some ⟨b2, 1, none⟩)), (40, .int .i64 x0_.f1), (41, .bool true), (44, .pointer (some ⟨b2, 2, none⟩)), (45, .int .i64 x0_.f2), (46, .bool true), (49, .pointer (some ⟨b2, 3, none⟩)), (50, .int .i64 x0_.f3), (51, .bool false), (53, .bool false)] (.cons rfl <| .cons rfl <| .cons rfl <| .cons rfl <| .cons rfl <| .cons rfl <| .cons rfl <| .cons rfl <| .cons rfl <| .cons rfl <| .cons rfl <| .cons rfl <| .cons rfl <| .cons rfl <| .cons rfl <| .cons rfl <| .cons rfl <| .cons rfl <| .cons rfl <| .cons rfl <| .cons rfl <| .cons rfl <| .cons rfl <| .cons rfl <| .cons (Eq.trans (b := .bool t49) rfl (congrArg Value.bool (eq_false_of_ne_true c52))) <| .cons (Eq.trans (b := .bool t49) rfl (congrArg Value.bool (eq_false_of_ne_true c52))) .nil)
                    refine many 70368744177663 hst hE (.k 36 10 [(54, undef), (55, undef), (56, undef), (57, .bool false), (58, .bool false), (59, undef), (60, undef), (61, undef), (62, .bool false), (2, .bool false)] (by kernel_rfl) .nil) (by kernel_rfl) (fun a hE => ?_)
                    refine all_done (by kernel_rfl) ?_
                    refine hK26 _ _ ?_
                    refine wp_ret ?_
                    replace hS := hS.tail
                    obtain rfl := Option.some.inj H
                    exact ret1 hE rfl (.tmp rfl .nil) ⟨_, rfl, _, rfl, hS⟩
                · rw [if_neg c48] at H
                  obtain ⟨J, hE⟩ := hE.norm [(0, .agg #[.int .i64 x0_.f0, .int .i64 x0_.f1, .int .i64 x0_.f2, .int .i64 x0_.f3, .int .i64 x0_.f4, .int .i64 x0_.f5, .slice A0_6 x0_.f6.length c0_6]), (1, .pointer (some ⟨b2, 0, none⟩)), (2, .bool false), (3, .int .i64 x6), (8, .bool (decide (x6 < (x0_.f6.length : Int)))), (22, .pointer (some ⟨b2, 0, none⟩)), (23, .int .i64 x0_.f0), (24, .bool true), (27, .agg #[.int .i64 x0_.f0, .int .i64 x0_.f1, .int .i64 x0_.f2, .int .i64 x0_.f3, .int .i64 x0_.f4, .int .i64 x0_.f5, .slice A0_6 x0_.f6.length c0_6]), (28, .agg #[.int .i64 x0_.f0, .int .i64 x0_.f1, .int .i64 x0_.f2, .int .i64 x0_.f3, .int .i64 x0_.f4, .int .i64 x0_.f5, .slice A0_6 x0_.f6.length c0_6]), (29, .agg #[.int .i64 t29.f0, .int .i64 t29.f1, .int .i64 t29.f2, .int .i64 t29.f3, .int .i64 t29.f4, .int .i64 t29.f5, .slice A33 t29.f6.length c34]), (30, .bool true), (33, .pointer (some ⟨b2, 6, none⟩)), (34, .slice A0_6 x0_.f6.length c0_6), (35, .int .i64 (x0_.f6.length : Int)), (36, .bool true), (39, .pointer (some ⟨b2, 1, none⟩)), (40, .int .i64 x0_.f1), (41, .bool true), (44, .pointer (some ⟨b2, 2, none⟩)), (45, .int .i64 x0_.f2), (46, .bool false), (48, .bool false)] (.cons rfl <| .cons rfl <| .cons rfl <| .cons rfl <| .cons rfl <| .cons rfl <| .cons rfl <| .cons rfl <| .cons rfl <| .cons rfl <| .cons rfl <| .cons rfl <| .cons rfl <| .cons rfl <| .cons rfl <| .cons rfl <| .cons rfl <| .cons rfl <| .cons rfl <| .cons rfl <| .cons rfl <| .cons (Eq.trans (b := .bool t45) rfl (congrArg Value.bool (eq_false_of_ne_true c48))) <| .cons (Eq.trans (b := .bool t45) rfl (congrArg Value.bool (eq_false_of_ne_true c48))) .nil)
                  refine many 70368744177663 hst hE (.k 31 15 [(49, undef), (50, undef), (51, undef), (52, .bool false), (53, .bool false), (54, undef), (55, undef), (56, undef), (57, .bool false), (58, .bool false), (59, undef), (60, undef), (61, undef), (62, .bool false), (2, .bool false)] (by kernel_rfl) .nil) (by kernel_rfl) (fun a hE => ?_)
                  refine all_done (by kernel_rfl) ?_
                  refine hK26 _ _ ?_
                  refine wp_ret ?_
                  replace hS := hS.tail
                  obtain rfl := Option.some.inj H
                  exact ret1 hE rfl (.tmp rfl .nil) ⟨_, rfl, _, rfl, hS⟩
              · rw [if_neg c44] at H
                obtain ⟨J, hE⟩ := hE.norm [(0, .agg #[.int .i64 x0_.f0, .int .i64 x0_.f1, .int .i64 x0_.f2, .int .i64 x0_.f3, .int .i64 x0_.f4, .int .i64 x0_.f5, .slice A0_6 x0_.f6.length c0_6]), (1, .pointer (some ⟨b2, 0, none⟩)), (2, .bool false), (3, .int .i64 x6), (8, .bool (decide (x6 < (x0_.f6.length : Int)))), (22, .pointer (some ⟨b2, 0, none⟩)), (23, .int .i64 x0_.f0), (24, .bool true), (27, .agg #[.int .i64 x0_.f0, .int .i64 x0_.f1, .int .i64 x0_.f2, .int .i64 x0_.f3, .int .i64 x0_.f4, .int .i64 x0_.f5, .slice A0_6 x0_.f6.length c0_6]), (28, .agg #[.int .i64 x0_.f0, .int .i64 x0_.f1, .int .i64 x0_.f2, .int .i64 x0_.f3, .int .i64 x0_.f4, .int .i64 x0_.f5, .slice A0_6 x0_.f6.length c0_6]), (29, .agg #[.int .i64 t29.f0, .int .i64 t29.f1, .int .i64 t29.f2, .int .i64 t29.f3, .int .i64 t29.f4, .int .i64 t29.f5, .slice A33 t29.f6.length c34]), (30, .bool true), (33, .pointer (some ⟨b2, 6, none⟩)), (34, .slice A0_6 x0_.f6.length c0_6), (35, .int .i64 (x0_.f6.length : Int)), (36, .bool true), (39, .pointer (some ⟨b2, 1, none⟩)), (40, .int .i64 x0_.f1), (41, .bool false), (43, .bool false)] (.cons rfl <| .cons rfl <| .cons rfl <| .cons rfl <| .cons rfl <| .cons rfl <| .cons rfl <| .cons rfl <| .cons rfl <| .cons rfl <| .cons rfl <| .cons rfl <| .cons rfl <| .cons rfl <| .cons rfl <| .cons rfl <| .cons rfl <| .cons rfl <| .cons (Eq.trans (b := .bool t41) rfl (congrArg Value.bool (eq_false_of_ne_true c44))) <| .cons (Eq.trans (b := .bool t41) rfl (congrArg Value.bool (eq_false_of_ne_true c44))) .nil)
                refine many 70368744177663 hst hE (.k 26 20 [(44, undef), (45, undef), (46, undef), (47, .bool false), (48, .bool false), (49, undef), (50, undef), (51, undef), (52, .bool false), (53, .bool false), (54, undef), (55, undef), (56, undef), (57, .bool false), (58, .bool false), (59, undef), (60, undef), (61, undef), (62, .bool false), (2, .bool false)] (by kernel_rfl) .nil) (by kernel_rfl) (fun a hE => ?_)
                refine all_done (by kernel_rfl) ?_
                refine hK26 _ _ ?_
                refine wp_ret ?_
                replace hS := hS.tail
                obtain rfl := Option.some.inj H
                exact ret1 hE rfl (.tmp rfl .nil) ⟨_, rfl, _, rfl, hS⟩
            · rw [if_neg c40] at H
              obtain ⟨J, hE⟩ := hE.norm [(0, .agg #[.int .i64 x0_.f0, .int .i64 x0_.f1, .int .i64 x0_.f2, .int .i64 x0_.f3, .int .i64 x0_.f4, .int .i64 x0_.f5, .slice A0_6 x0_.f6.length c0_6]), (1, .pointer (some ⟨b2, 0, none⟩)), (2, .bool false), (3, .int .i64 x6), (8, .bool (decide (x6 < (x0_.f6.length : Int)))), (22, .pointer (some ⟨b2, 0, none⟩)), (23, .int .i64 x0_.f0), (24, .bool true), (27, .agg #[.int .i64 x0_.f0, .int .i64 x0_.f1, .int .i64 x0_.f2, .int .i64 x0_.f3, .int .i64 x0_.f4, .int .i64 x0_.f5, .slice A0_6 x0_.f6.length c0_6]), (28, .agg #[.int .i64 x0_.f0, .int .i64 x0_.f1, .int .i64 x0_.f2, .int .i64 x0_.f3, .int .i64 x0_.f4, .int .i64 x0_.f5, .slice A0_6 x0_.f6.length c0_6]), (29, .agg #[.int .i64 t29.f0, .int .i64 t29.f1, .int .i64 t29.f2, .int .i64 t29.f3, .int .i64 t29.f4, .int .i64 t29.f5, .slice A33 t29.f6.length c34]), (30, .bool true), (33, .pointer (some ⟨b2, 6, none⟩)), (34, .slice A0_6 x0_.f6.length c0_6), (35, .int .i64 (x0_.f6.length : Int)), (36, .bool false), (38, .bool false)] (.cons rfl <| .cons rfl <| .cons rfl <| .cons rfl <| .cons rfl <| .cons rfl <| .cons rfl <| .cons rfl <| .cons rfl <| .cons rfl <| .cons rfl <| .cons rfl <| .cons rfl <| .cons rfl <| .cons rfl <| .cons (Eq.trans (b := .bool (decide ((x0_.f6.length : Int) ≤ 3))) rfl (congrArg Value.bool (decide_eq_false c40))) <| .cons (Eq.trans (b := .bool (decide ((x0_.f6.length : Int) ≤ 3))) rfl (congrArg Value.bool (decide_eq_false c40))) .nil)
              refine many 70368744177663 hst hE (.k 21 25 [(39, undef), (40, undef), (41, undef), (42, .bool false), (43, .bool false), (44, undef), (45, undef), (46, undef), (47, .bool false), (48, .bool false), (49, undef), (50, undef), (51, undef), (52, .bool false), (53, .bool false), (54, undef), (55, undef), (56, undef), (57, .bool false), (58, .bool false), (59, undef), (60, undef), (61, undef), (62, .bool false), (2, .bool false)] (by kernel_rfl) .nil) (by kernel_rfl) (fun a hE => ?_)
              refine all_done (by kernel_rfl) ?_
              refine hK26 _ _ ?_
              refine wp_ret ?_
              replace hS := hS.tail
              obtain rfl := Option.some.inj H
              exact ret1 hE rfl (.tmp rfl .nil) ⟨_, rfl, _, rfl, hS⟩
          · rw [if_neg c39] at H
            obtain ⟨J, hE⟩ := hE.norm [(0, .agg #[.int .i64 x0_.f0, .int .i64 x0_.f1, .int .i64 x0_.f2, .int .i64 x0_.f3, .int .i64 x0_.f4, .int .i64 x0_.f5, .slice A0_6 x0_.f6.length c0_6]), (1, .pointer (some ⟨b2, 0, none⟩)), (2, .bool false), (3, .int .i64 x6), (8, .bool (decide (x6 < (x0_.f6.length : Int)))), (22, .pointer (some ⟨b2, 0, none⟩)), (23, .int .i64 x0_.f0), (24, .bool true), (27, .agg #[.int .i64 x0_.f0, .int .i64 x0_.f1, .int .i64 x0_.f2, .int .i64 x0_.f3, .int .i64 x0_.f4, .int .i64 x0_.f5, .slice A0_6 x0_.f6.length c0_6]), (28, .agg #[.int .i64 x0_.f0, .int .i64 x0_.f1, .int .i64 x0_.f2, .int .i64 x0_.f3, .int .i64 x0_.f4, .int .i64 x0_.f5, .slice A0_6 x0_.f6.length c0_6]), (29, .agg #[.int .i64 t29.f0, .int .i64 t29.f1, .int .i64 t29.f2, .int .i64 t29.f3, .int .i64 t29.f4, .int .i64 t29.f5, .slice A33 t29.f6.length c34]), (30, .bool false), (32, .bool false)] (.cons rfl <| .cons rfl <| .cons rfl <| .cons rfl <| .cons rfl <| .cons rfl <| .cons rfl <| .cons rfl <| .cons rfl <| .cons rfl <| .cons rfl <| .cons (Eq.trans (b := .bool t36) rfl (congrArg Value.bool (eq_false_of_ne_true c39))) <| .cons (Eq.trans (b := .bool t36) rfl (congrArg Value.bool (eq_false_of_ne_true c39))) .nil)
            refine many 70368744177663 hst hE (.k 15 31 [(33, undef), (34, undef), (35, undef), (36, undef), (37, .bool false), (38, .bool false), (39, undef), (40, undef), (41, undef), (42, .bool false), (43, .bool false), (44, undef), (45, undef), (46, undef), (47, .bool false), (48, .bool false), (49, undef), (50, undef), (51, undef), (52, .bool false), (53, .bool false), (54, undef), (55, undef), (56, undef), (57, .bool false), (58, .bool false), (59, undef), (60, undef), (61, undef), (62, .bool false), (2, .bool false)] (by kernel_rfl) .nil) (by kernel_rfl) (fun a hE => ?_)
            refine all_done (by kernel_rfl) ?_
            refine hK26 _ _ ?_
            refine wp_ret ?_
            replace hS := hS.tail
            obtain rfl := Option.some.inj H
            exact ret1 hE rfl (.tmp rfl .nil) ⟨_, rfl, _, rfl, hS⟩
        · rw [if_neg c28] at H
          obtain ⟨J, hE⟩ := hE.norm [(0, .agg #[.int .i64 x0_.f0, .int .i64 x0_.f1, .int .i64 x0_.f2, .int .i64 x0_.f3, .int .i64 x0_.f4, .int .i64 x0_.f5, .slice A0_6 x0_.f6.length c0_6]), (1, .pointer (some ⟨b2, 0, none⟩)), (2, .bool false), (3, .int .i64 x6), (8, .bool (decide (x6 < (x0_.f6.length : Int)))), (22, .pointer (some ⟨b2, 0, none⟩)), (23, .int .i64 x0_.f0), (24, .bool false), (26, .bool false)] (.cons rfl <| .cons rfl <| .cons rfl <| .cons rfl <| .cons rfl <| .cons rfl <| .cons rfl <| .cons (Eq.trans (b := .bool (decide (x0_.f0 ≤ 10))) rfl (congrArg Value.bool (decide_eq_false c28))) <| .cons (Eq.trans (b := .bool (decide (x0_.f0 ≤ 10))) rfl (congrArg Value.bool (decide_eq_false c28))) .nil)
          refine many 70368744177663 hst hE (.k 9 37 [(27, undef), (28, undef), (29, undef), (30, undef), (31, .bool false), (32, .bool false), (33, undef), (34, undef), (35, undef), (36, undef), (37, .bool false), (38, .bool false), (39, undef), (40, undef), (41, undef), (42, .bool false), (43, .bool false), (44, undef), (45, undef), (46, undef), (47, .bool false), (48, .bool false), (49, undef), (50, undef), (51, undef), (52, .bool false), (53, .bool false), (54, undef), (55, undef), (56, undef), (57, .bool false), (58, .bool false), (59, undef), (60, undef), (61, undef), (62, .bool false), (2, .bool false)] (by kernel_rfl) .nil) (by kernel_rfl) (fun a hE => ?_)
          refine all_done (by kernel_rfl) ?_
          refine hK26 _ _ ?_
          refine wp_ret ?_
          replace hS := hS.tail
          obtain rfl := Option.some.inj H
          exact ret1 hE rfl (.tmp rfl .nil) ⟨_, rfl, _, rfl, hS⟩
      · rw [if_neg c27] at H
        obtain ⟨J, hE⟩ := hE.norm [(0, .agg #[.int .i64 x0_.f0, .int .i64 x0_.f1, .int .i64 x0_.f2, .int .i64 x0_.f3, .int .i64 x0_.f4, .int .i64 x0_.f5, .slice A0_6 x0_.f6.length c0_6]), (1, .pointer (some ⟨b2, 0, none⟩)), (2, .bool false), (3, .int .i64 x6), (8, .bool (decide (x6 < (x0_.f6.length : Int)))), (21, .bool false)] (.cons rfl <| .cons rfl <| .cons rfl <| .cons rfl <| .cons rfl <| .cons (Eq.trans (b := .bool (decide (x0_.f0 ≥ 1))) rfl (congrArg Value.bool (decide_eq_false c27))) .nil)
        refine many 70368744177663 hst hE (.k 4 42 [(22, undef), (23, undef), (24, undef), (25, .bool false), (26, .bool false), (27, undef), (28, undef), (29, undef), (30, undef), (31, .bool false), (32, .bool false), (33, undef), (34, undef), (35, undef), (36, undef), (37, .bool false), (38, .bool false), (39, undef), (40, undef), (41, undef), (42, .bool false), (43, .bool false), (44, undef), (45, undef), (46, undef), (47, .bool false), (48, .bool false), (49, undef), (50, undef), (51, undef), (52, .bool false), (53, .bool false), (54, undef), (55, undef), (56, undef), (57, .bool false), (58, .bool false), (59, undef), (60, undef), (61, undef), (62, .bool false), (2, .bool false)] (by kernel_rfl) .nil) (by kernel_rfl) (fun a hE => ?_)
        refine all_done (by kernel_rfl) ?_
        refine hK26 _ _ ?_
        refine wp_ret ?_
        replace hS := hS.tail
        obtain rfl := Option.some.inj H
        exact ret1 hE rfl (.tmp rfl .nil) ⟨_, rfl, _, rfl, hS⟩

/-! ### windrose/windroseref16.One: function 74 -/
def windroseref16_One.f (k : Nat) (x0_ : S49) (x1_ : S49) : Option Bool := if x0_.f0 = x1_.f0 then ((windroseref08_Deltas.f k x0_.f1 x1_.f1).bind fun t8 => (some t8)) else (some false)
def windroseref16_One.Post (W F : World) (r : Bool) (v : Value) (w' : World) : Prop := ∃ (F' : World), v = .bool r ∧ St W (mine W []) F w' F' []
set_option maxHeartbeats 4000000 in
set_option maxRecDepth 100000 in
theorem windroseref16_One.calls (k : Nat) (x0_ : S49) (x1_ : S49) (A0_7 : Option Addr) (c0_7 : Nat) (A1_7 : Option Addr) (c1_7 : Nat) (r : Bool) (W F : World) (hsub : Sub F W) (g0_7 : Rd (Kn.int .i64) F A0_7 c0_7 x0_.f1.f6) (g1_7 : Rd (Kn.int .i64) F A1_7 c1_7 x1_.f1.f6) (H : windroseref16_One.f k x0_ x1_ = some r) :
    Calls Try.prog 74 #[.agg #[.int .i64 x0_.f0, .int .i64 x0_.f1.f0, .int .i64 x0_.f1.f1, .int .i64 x0_.f1.f2, .int .i64 x0_.f1.f3, .int .i64 x0_.f1.f4, .int .i64 x0_.f1.f5, .slice A0_7 x0_.f1.f6.length c0_7], .agg #[.int .i64 x1_.f0, .int .i64 x1_.f1.f0, .int .i64 x1_.f1.f1, .int .i64 x1_.f1.f2, .int .i64 x1_.f1.f3, .int .i64 x1_.f1.f4, .int .i64 x1_.f1.f5, .slice A1_7 x1_.f1.f6.length c1_7]] W fun e w' => ∃ v, e = .returned v ∧ windroseref16_One.Post W F r v w' := by
  have hS := St.start (Own.nil hsub)
  unfold windroseref16_One.f at H
  refine enter (n := 17) rfl rfl rfl (Nat.le_of_ble_eq_true rfl) (fun a hE => ?_)
  refine wp_seq_k fun K1 hK1 => ?_
  refine plain (L := [0, 1, 2]) rfl ?_
  refine ops_eff 0 hE (some 2) rfl rfl rfl rfl (e_box hS rfl rfl #[.int .i64 x0_.f0, .int .i64 x0_.f1.f0, .int .i64 x0_.f1.f1, .int .i64 x0_.f1.f2, .int .i64 x0_.f1.f3, .int .i64 x0_.f1.f4, .int .i64 x0_.f1.f5, .slice A0_7 x0_.f1.f6.length c0_7] rfl) ?_
  rintro _ u3 a ⟨b2, rfl, hb2, hS, hg⟩ hE
  refine ops_eff 1 hE (some 3) rfl rfl rfl rfl (e_box hS rfl rfl #[.int .i64 x1_.f0, .int .i64 x1_.f1.f0, .int .i64 x1_.f1.f1, .int .i64 x1_.f1.f2, .int .i64 x1_.f1.f3, .int .i64 x1_.f1.f4, .int .i64 x1_.f1.f5, .slice A1_7 x1_.f1.f6.length c1_7] rfl) ?_
  rintro _ u5 a ⟨b4, rfl, hb4, hS, hg⟩ hE
  refine ops_chain (S := Agr _) (.k 2 1 [(4, .bool false)] (by kernel_rfl) .nil) (rest := []) hE (Agr.refl _) (fun a hE => ?_)
  refine ops_done ?_
  refine hK1 _ _ ?_
  refine wp_seq_k fun K6 hK6 => ?_
  refine plain (L := [0, 1, 2, 3, 4, 5, 6, 7, 8, 9, 10, 11, 12]) rfl ?_
  have hb2 := hS.blk_at (i := 1) rfl
  refine ops_chain (S := Agr _) (.k 0 1 [(5, .pointer (some ⟨b2, 0, none⟩))] (by kernel_rfl) <| .v 1 6 rfl rfl rfl rfl (lb1 0 (.int .i64 x0_.f0) rfl rfl ag3 hb2 rfl) <| .k 2 1 [(7, .pointer (some ⟨b4, 0, none⟩))] (by kernel_rfl) <| .v 3 8 rfl rfl rfl rfl (lb1 0 (.int .i64 x1_.f0) rfl rfl ag3 hb4 rfl) <| .k 4 2 [(9, .bool (x0_.f0 == x1_.f0)), (10, .bool (x0_.f0 == x1_.f0))] (by kernel_rfl) .nil) (rest := [6, 7, 8, 9, 10, 11, 12]) hE (Agr.refl _) (fun a hE => ?_)
  by_cases c7 : x0_.f0 = x1_.f0
  · rw [if_pos c7] at H
    obtain ⟨J, hE⟩ := hE.norm [(0, .agg #[.int .i64 x0_.f0, .int .i64 x0_.f1.f0, .int .i64 x0_.f1.f1, .int .i64 x0_.f1.f2, .int .i64 x0_.f1.f3, .int .i64 x0_.f1.f4, .int .i64 x0_.f1.f5, .slice A0_7 x0_.f1.f6.length c0_7]), (1, .agg #[.int .i64 x1_.f0, .int .i64 x1_.f1.f0, .int .i64 x1_.f1.f1, .int .i64 x1_.f1.f2, .int .i64 x1_.f1.f3, .int .i64 x1_.f1.f4, .int .i64 x1_.f1.f5, .slice A1_7 x1_.f1.f6.length c1_7]), (2, .pointer (some ⟨b2, 0, none⟩)), (3, .pointer (some ⟨b4, 0, none⟩)), (4, .bool false), (10, .bool true)] (.cons rfl <| .cons rfl <| .cons rfl <| .cons rfl <| .cons rfl <| .cons (Eq.trans (b := .bool (x0_.f0 == x1_.f0)) rfl (congrArg Value.bool (beq_iff_eq.2 c7))) .nil)
    refine ops_chain (S := Agr _) (.k 6 1 [(11, .pointer (some ⟨b2, 1, none⟩))] (by kernel_rfl) <| .v 7 12 rfl rfl rfl rfl (lbn 1 [.int .i64 x0_.f1.f0, .int .i64 x0_.f1.f1, .int .i64 x0_.f1.f2, .int .i64 x0_.f1.f3, .int .i64 x0_.f1.f4, .int .i64 x0_.f1.f5, .slice A0_7 x0_.f1.f6.length c0_7] rfl rfl ag28 sz28 hb2 rfl) <| .k 8 1 [(13, .pointer (some ⟨b4, 1, none⟩))] (by kernel_rfl) <| .v 9 14 rfl rfl rfl rfl (lbn 1 [.int .i64 x1_.f1.f0, .int .i64 x1_.f1.f1, .int .i64 x1_.f1.f2, .int .i64 x1_.f1.f3, .int .i64 x1_.f1.f4, .int .i64 x1_.f1.f5, .slice A1_7 x1_.f1.f6.length c1_7] rfl rfl ag28 sz28 hb4 rfl) .nil) (rest := [10, 11, 12]) hE (Agr.refl _) (fun a hE => ?_)
    obtain ⟨t8, h9, H⟩ := Option.bind_eq_some_iff.mp H
    refine ops_eff 10 hE (some 15) rfl rfl rfl rfl (Eff.call en31 rfl [.agg #[.int .i64 x0_.f1.f0, .int .i64 x0_.f1.f1, .int .i64 x0_.f1.f2, .int .i64 x0_.f1.f3, .int .i64 x0_.f1.f4, .int .i64 x0_.f1.f5, .slice A0_7 x0_.f1.f6.length c0_7], .agg #[.int .i64 x1_.f1.f0, .int .i64 x1_.f1.f1, .int .i64 x1_.f1.f2, .int .i64 x1_.f1.f3, .int .i64 x1_.f1.f4, .int .i64 x1_.f1.f5, .slice A1_7 x1_.f1.f6.length c1_7]] rfl (windroseref08_Deltas.calls k x0_.f1 x1_.f1 _ _ _ _ _ _ _ hS.own.sub g0_7 g1_7 h9)) ?_
    rintro _ u10 a ⟨_, rfl, hC⟩ hE
    replace hS := hS.lent hC
    refine ops_chain (S := Agr _) (.k 11 2 [(16, .bool t8), (4, .bool t8)] (by kernel_rfl) .nil) (rest := []) hE (Agr.refl _) (fun a hE => ?_)
    refine ops_done ?_
    refine hK6 _ _ ?_
    refine wp_ret ?_
    replace hS := hS.tail
    replace hS := hS.tail
    obtain rfl := Option.some.inj H
    exact ret1 hE rfl (.tmp rfl .nil) ⟨_, rfl, _, rfl, hS⟩
  · rw [if_neg c7] at H
    obtain ⟨J, hE⟩ := hE.norm [(0, .agg #[.int .i64 x0_.f0, .int .i64 x0_.f1.f0, .int .i64 x0_.f1.f1, .int .i64 x0_.f1.f2, .int .i64 x0_.f1.f3, .int .i64 x0_.f1.f4, .int .i64 x0_.f1.f5, .slice A0_7 x0_.f1.f6.length c0_7]), (1, .agg #[.int .i64 x1_.f0, .int .i64 x1_.f1.f0, .int .i64 x1_.f1.f1, .int .i64 x1_.f1.f2, .int .i64 x1_.f1.f3, .int .i64 x1_.f1.f4, .int .i64 x1_.f1.f5, .slice A1_7 x1_.f1.f6.length c1_7]), (2, .pointer (some ⟨b2, 0, none⟩)), (3, .pointer (some ⟨b4, 0, none⟩)), (4, .bool false), (10, .bool false)] (.cons rfl <| .cons rfl <| .cons rfl <| .cons rfl <| .cons rfl <| .cons (Eq.trans (b := .bool (x0_.f0 == x1_.f0)) rfl (congrArg Value.bool (beq_eq_false_iff_ne.2 c7))) .nil)
    refine ops_chain (S := Agr _) (.k 6 7 [(11, undef), (12, undef), (13, undef), (14, undef), (15, undef), (16, .bool false), (4, .bool false)] (by kernel_rfl) .nil) (rest := []) hE (Agr.refl _) (fun a hE => ?_)
    refine ops_done ?_
    refine hK6 _ _ ?_
    refine wp_ret ?_
    replace hS := hS.tail
    replace hS := hS.tail
    obtain rfl := Option.some.inj H
    exact ret1 hE rfl (.tmp rfl .nil) ⟨_, rfl, _, rfl, hS⟩

/-! ### windrose/windroseref16.May: function 22 -/
mutual
def windroseref16_May.l7 : Nat → S24 → Int → Option Bool
  | 0, _, _ => none
  | k + 1, x0_, x6 => if x6 < (x0_.f1.length : Int) then (if 0 ≤ x6 ∧ x6 < (x0_.f1.length : Int) then (if (nth z49 x0_.f1 x6).f0 = 0 then ((windroseref16_One.f k (⟨(nth z49 x0_.f1 x6).f0, (⟨(nth z49 x0_.f1 x6).f1.f0, (nth z49 x0_.f1 x6).f1.f1, (nth z49 x0_.f1 x6).f1.f2, (nth z49 x0_.f1 x6).f1.f3, (nth z49 x0_.f1 x6).f1.f4, (nth z49 x0_.f1 x6).f1.f5, (nth z49 x0_.f1 x6).f1.f6⟩ : S28)⟩ : S49) (⟨0, (⟨0, 0, 0, 0, 0, 0, []⟩ : S28)⟩ : S49)).bind fun t30 => (if t30 = true then (windroseref16_May.j35 k x0_ x6 (x6 == (w64 ((x0_.f1.length : Int) - 1)))) else (windroseref16_May.j35 k x0_ x6 true))) else (windroseref16_May.j35 k x0_ x6 false)) else (none)) else ((windroseref16_in.f x0_.f0).bind fun t58 => (if t58 = true then (some (decide ((x0_.f1.length : Int) ≤ 256))) else (some false)))
def windroseref16_May.j35 : Nat → S24 → Int → Bool → Option Bool
  | 0, _, _, _ => none
  | k + 1, x0_, x6, y34 => if y34 = true then (some false) else (if (nth z49 x0_.f1 x6).f0 = 0 then (windroseref16_May.j50 k x0_ x6 false) else (if (nth z49 x0_.f1 x6).f0 < 1 then (windroseref16_May.j50 k x0_ x6 true) else (if (nth z49 x0_.f1 x6).f0 > x0_.f0 then (windroseref16_May.j50 k x0_ x6 true) else ((windroseref16_Delta.f k (⟨(nth z49 x0_.f1 x6).f1.f0, (nth z49 x0_.f1 x6).f1.f1, (nth z49 x0_.f1 x6).f1.f2, (nth z49 x0_.f1 x6).f1.f3, (nth z49 x0_.f1 x6).f1.f4, (nth z49 x0_.f1 x6).f1.f5, (nth z49 x0_.f1 x6).f1.f6⟩ : S28)).bind fun t46 => (windroseref16_May.j50 k x0_ x6 (!t46))))))
def windroseref16_May.j50 : Nat → S24 → Int → Bool → Option Bool
  | 0, _, _, _ => none
  | k + 1, x0_, x6, y49 => if y49 = true then (some false) else (windroseref16_May.l7 k x0_ (w64 (x6 + 1)))
end
theorem windroseref16_May.l7_s (k : Nat) (x0_ : S24) (x6 : Int) : windroseref16_May.l7 (k + 1) x0_ x6 = (if x6 < (x0_.f1.length : Int) then (if 0 ≤ x6 ∧ x6 < (x0_.f1.length : Int) then (if (nth z49 x0_.f1 x6).f0 = 0 then ((windroseref16_One.f k (⟨(nth z49 x0_.f1 x6).f0, (⟨(nth z49 x0_.f1 x6).f1.f0, (nth z49 x0_.f1 x6).f1.f1, (nth z49 x0_.f1 x6).f1.f2, (nth z49 x0_.f1 x6).f1.f3, (nth z49 x0_.f1 x6).f1.f4, (nth z49 x0_.f1 x6).f1.f5, (nth z49 x0_.f1 x6).f1.f6⟩ : S28)⟩ : S49) (⟨0, (⟨0, 0, 0, 0, 0, 0, []⟩ : S28)⟩ : S49)).bind fun t30 => (if t30 = true then (windroseref16_May.j35 k x0_ x6 (x6 == (w64 ((x0_.f1.length : Int) - 1)))) else (windroseref16_May.j35 k x0_ x6 true))) else (windroseref16_May.j35 k x0_ x6 false)) else (none)) else ((windroseref16_in.f x0_.f0).bind fun t58 => (if t58 = true then (some (decide ((x0_.f1.length : Int) ≤ 256))) else (some false)))) := by kernel_rfl
theorem windroseref16_May.j35_s (k : Nat) (x0_ : S24) (x6 : Int) (y34 : Bool) : windroseref16_May.j35 (k + 1) x0_ x6 y34 = (if y34 = true then (some false) else (if (nth z49 x0_.f1 x6).f0 = 0 then (windroseref16_May.j50 k x0_ x6 false) else (if (nth z49 x0_.f1 x6).f0 < 1 then (windroseref16_May.j50 k x0_ x6 true) else (if (nth z49 x0_.f1 x6).f0 > x0_.f0 then (windroseref16_May.j50 k x0_ x6 true) else ((windroseref16_Delta.f k (⟨(nth z49 x0_.f1 x6).f1.f0, (nth z49 x0_.f1 x6).f1.f1, (nth z49 x0_.f1 x6).f1.f2, (nth z49 x0_.f1 x6).f1.f3, (nth z49 x0_.f1 x6).f1.f4, (nth z49 x0_.f1 x6).f1.f5, (nth z49 x0_.f1 x6).f1.f6⟩ : S28)).bind fun t46 => (windroseref16_May.j50 k x0_ x6 (!t46))))))) := by kernel_rfl
theorem windroseref16_May.j50_s (k : Nat) (x0_ : S24) (x6 : Int) (y49 : Bool) : windroseref16_May.j50 (k + 1) x0_ x6 y49 = (if y49 = true then (some false) else (windroseref16_May.l7 k x0_ (w64 (x6 + 1)))) := by kernel_rfl
def windroseref16_May.f (k : Nat) (x0_ : S24) : Option Bool := windroseref16_May.l7 k x0_ 0
def windroseref16_May.Post (W F : World) (r : Bool) (v : Value) (w' : World) : Prop := ∃ (F' : World), v = .bool r ∧ St W (mine W []) F w' F' []
set_option maxHeartbeats 4000000 in
set_option maxRecDepth 100000 in
theorem windroseref16_May.calls (k : Nat) (x0_ : S24) (A0_1 : Option Addr) (c0_1 : Nat) (r : Bool) (W F : World) (hsub : Sub F W) (g0_1 : Rd k49 F A0_1 c0_1 x0_.f1) (H : windroseref16_May.f k x0_ = some r) :
    Calls Try.prog 22 #[.agg #[.int .i64 x0_.f0, .slice A0_1 x0_.f1.length c0_1]] W fun e w' => ∃ v, e = .returned v ∧ windroseref16_May.Post W F r v w' := by
  have hS := St.start (Own.nil hsub)
  unfold windroseref16_May.f at H
  refine enter (n := 64) rfl rfl rfl (Nat.le_of_ble_eq_true rfl) (fun a hE => ?_)
  refine wp_seq_k fun K1 hK1 => ?_
  refine plain (L := [0, 1]) rfl ?_
  refine ops_eff 0 hE (some 1) rfl rfl rfl rfl (e_box hS rfl rfl #[.int .i64 x0_.f0, .slice A0_1 x0_.f1.length c0_1] rfl) ?_
  rintro _ u3 a ⟨b2, rfl, hb2, hS, hg⟩ hE
  refine ops_chain (S := Agr _) (.k 1 1 [(2, .bool false)] (by kernel_rfl) .nil) (rest := []) hE (Agr.refl _) (fun a hE => ?_)
  refine ops_done ?_
  refine hK1 _ _ ?_
  refine wp_seq_k fun K4 hK4 => ?_
  refine wp_seq_k fun K5 hK5 => ?_
  refine plain (L := [0]) rfl ?_
  refine ops_chain (S := Agr _) (.k 0 1 [(3, .int .i64 0)] (by kernel_rfl) .nil) (rest := []) hE (Agr.refl _) (fun a hE => ?_)
  refine ops_done ?_
  refine hK5 _ _ ?_
  refine wp_block ?_
  obtain ⟨J, hE⟩ := hE.norm [(0, .agg #[.int .i64 x0_.f0, .slice A0_1 x0_.f1.length c0_1]), (1, .pointer (some ⟨b2, 0, none⟩)), (2, .bool false), (3, .int .i64 0)] (.cons rfl <| .cons rfl <| .cons rfl <| .cons rfl .nil)
  refine wp_loop_ghost (fun kq8 a w' => ∃ (J : Nat → Value) (x6 : Int), Env 64 (updL J [(0, .agg #[.int .i64 x0_.f0, .slice A0_1 x0_.f1.length c0_1]), (1, .pointer (some ⟨b2, 0, none⟩)), (2, .bool false), (3, .int .i64 x6)]) a ∧ St W (mine W []) F w' F [box b2 #[.int .i64 x0_.f0, .slice A0_1 x0_.f1.length c0_1] 24] ∧  windroseref16_May.l7 kq8 x0_ x6 = some r) k ⟨J, 0, hE, hS, H⟩ ?_
  rintro kq8 a u10 ⟨J, x6, hE, hS, H⟩
  cases kq8 with
  | zero => cases (show none = some r from H)
  | succ k9 =>
    rw [windroseref16_May.l7_s] at H
    refine wp_seq_k fun K11 hK11 => ?_
    refine wp_seq_k fun K12 hK12 => ?_
    refine plain (L := [0, 1, 2, 3, 4]) rfl ?_
    have hb2 := hS.blk_at (i := 0) rfl
    refine ops_chain (S := Agr _) (.k 0 2 [(5, .int .i64 x6), (6, .pointer (some ⟨b2, 1, none⟩))] (by kernel_rfl) <| .v 2 7 rfl rfl rfl rfl (lb1 1 (.slice A0_1 x0_.f1.length c0_1) rfl rfl ag22 hb2 rfl) <| .v 3 8 rfl rfl rfl rfl (YA.s (len_sl rfl rfl ud22)) <| .k 4 1 [(9, .bool (decide (x6 < (x0_.f1.length : Int))))] (by kernel_rfl) .nil) (rest := []) hE (Agr.refl _) (fun a hE => ?_)
    refine ops_done ?_
    refine hK12 _ _ ?_
    by_cases c13 : x6 < (x0_.f1.length : Int)
    · rw [if_pos c13] at H
      refine cond_t hE (b := (decide (x6 < (x0_.f1.length : Int)))) rfl (decide_eq_true c13) ?_
      refine wp_skip ?_
      refine hK11 _ _ ?_
      refine wp_seq_k fun K14 hK14 => ?_
      refine wp_block ?_
      refine wp_seq_k fun K15 hK15 => ?_
      refine plain (L := [0, 1, 2, 3, 4, 5, 6]) rfl ?_
      by_cases c16 : 0 ≤ x6 ∧ x6 < (x0_.f1.length : Int)
      rotate_left
      · rw [if_neg c16] at H; cases H
      rw [if_pos c16] at H
      obtain ⟨ad17, rfl⟩ := g0_1.addr c16.1 c16.2
      obtain ⟨cs19, ⟨A21, c22, rfl, g23⟩, hc20⟩ := g0_1.el z49 x6 c16.1 c16.2
      refine ops_chain (S := Agr _) (.k 0 1 [(12, .pointer (some ⟨b2, 1, none⟩))] (by kernel_rfl) <| .v 1 13 rfl rfl rfl rfl (lb1 1 (.slice (some ad17) x0_.f1.length c0_1) rfl rfl ag22 hb2 rfl) <| .k 2 1 [(14, .int .i64 x6)] (by kernel_rfl) <| .v 3 15 rfl rfl rfl rfl (YA.s (ix 8 rfl rfl rfl ud22 sz49 c16.1 c16.2)) <| .v 4 16 rfl rfl rfl rfl (lfn [.int .i64 ((nth z49 x0_.f1 x6).f0), .int .i64 ((nth z49 x0_.f1 x6).f1.f0), .int .i64 ((nth z49 x0_.f1 x6).f1.f1), .int .i64 ((nth z49 x0_.f1 x6).f1.f2), .int .i64 ((nth z49 x0_.f1 x6).f1.f3), .int .i64 ((nth z49 x0_.f1 x6).f1.f4), .int .i64 ((nth z49 x0_.f1 x6).f1.f5), .slice A21 (((nth z49 x0_.f1 x6).f1.f6).length) c22] rfl rfl ag49 sz49 hS.own.sub hc20) .nil) (rest := [5, 6]) hE (Agr.refl _) (fun a hE => ?_)
      refine ops_eff 5 hE (some 4) rfl rfl rfl rfl (e_alloc hS rfl z49z #[.int .i64 0, .int .i64 0, .int .i64 0, .int .i64 0, .int .i64 0, .int .i64 0, .int .i64 0, .slice none 0 0] rfl) ?_
      rintro _ u25 a ⟨b24, rfl, hb24, hS, hg⟩ hE
      refine ops_eff 6 hE none rfl rfl rfl rfl (e_store (off := 0) hS rfl rfl rfl sz49 (Nat.le_of_ble_eq_true rfl) (all_one rfl) #[.int .i64 ((nth z49 x0_.f1 x6).f0), .int .i64 ((nth z49 x0_.f1 x6).f1.f0), .int .i64 ((nth z49 x0_.f1 x6).f1.f1), .int .i64 ((nth z49 x0_.f1 x6).f1.f2), .int .i64 ((nth z49 x0_.f1 x6).f1.f3), .int .i64 ((nth z49 x0_.f1 x6).f1.f4), .int .i64 ((nth z49 x0_.f1 x6).f1.f5), .slice A21 (((nth z49 x0_.f1 x6).f1.f6).length) c22] rfl) ?_
      rintro _ u26 a ⟨rfl, hb24, hS, hz⟩ hE
      refine ops_done ?_
      refine hK15 _ _ ?_
      refine wp_seq_k fun K27 hK27 => ?_
      refine wp_seq_k fun K28 hK28 => ?_
      have J38 : ∀ kq36, kq36 ≤ k9 → ∀ (J : Nat → Value) (y34 : Bool) (a : Act) (w' : World), Env 64 (updL J [(0, .agg #[.int .i64 x0_.f0, .slice (some ad17) x0_.f1.length c0_1]), (1, .pointer (some ⟨b2, 0, none⟩)), (2, .bool false), (3, .int .i64 x6), (4, .pointer (some ⟨b24, 0, none⟩)), (9, .bool (decide (x6 < (x0_.f1.length : Int)))), (33, .bool y34)]) a → St W (mine W []) F w' F [box b24 #[.int .i64 ((nth z49 x0_.f1 x6).f0), .int .i64 ((nth z49 x0_.f1 x6).f1.f0), .int .i64 ((nth z49 x0_.f1 x6).f1.f1), .int .i64 ((nth z49 x0_.f1 x6).f1.f2), .int .i64 ((nth z49 x0_.f1 x6).f1.f3), .int .i64 ((nth z49 x0_.f1 x6).f1.f4), .int .i64 ((nth z49 x0_.f1 x6).f1.f5), .slice A21 (((nth z49 x0_.f1 x6).f1.f6).length) c22] 49, box b2 #[.int .i64 x0_.f0, .slice (some ad17) x0_.f1.length c0_1] 24] → windroseref16_May.j35 kq36 x0_ x6 y34 = some r → K28 a w' := by
        intro kq36 hkq J y34 a u39 hE hS H
        cases kq36 with
        | zero => cases (show none = some r from H)
        | succ k37 =>
          rw [windroseref16_May.j35_s] at H
          refine hK28 _ _ ?_
          by_cases c40 : y34 = true
          · rw [if_pos c40] at H
            refine cond_t hE (b := y34) rfl c40 ?_
            refine wp_seq_k fun K41 hK41 => ?_
            refine plain (L := [0]) rfl ?_
            refine ops_chain (S := Agr _) (.k 0 1 [(2, .bool false)] (by kernel_rfl) .nil) (rest := []) hE (Agr.refl _) (fun a hE => ?_)
            refine ops_done ?_
            refine hK41 _ _ ?_
            refine wp_ret (then_ret (block_ret (then_ret (then_ret (block_ret (then_ret ?_))))))
            replace hS := hS.tail
            replace hS := hS.tail
            obtain rfl := Option.some.inj H
            exact ret1 hE rfl (.tmp rfl .nil) ⟨_, rfl, _, rfl, hS⟩
          · rw [if_neg c40] at H
            refine cond_f hE (b := y34) rfl (eq_false_of_ne_true c40) ?_
            refine wp_skip ?_
            refine hK27 _ _ ?_
            refine wp_seq_k fun K42 hK42 => ?_
            have J53 : ∀ kq51, kq51 ≤ k37 → ∀ (J : Nat → Value) (y49 : Bool) (a : Act) (w' : World), Env 64 (updL J [(0, .agg #[.int .i64 x0_.f0, .slice (some ad17) x0_.f1.length c0_1]), (1, .pointer (some ⟨b2, 0, none⟩)), (2, .bool false), (3, .int .i64 x6), (4, .pointer (some ⟨b24, 0, none⟩)), (9, .bool (decide (x6 < (x0_.f1.length : Int)))), (33, .bool y34), (54, .bool y49)]) a → St W (mine W []) F w' F [box b24 #[.int .i64 ((nth z49 x0_.f1 x6).f0), .int .i64 ((nth z49 x0_.f1 x6).f1.f0), .int .i64 ((nth z49 x0_.f1 x6).f1.f1), .int .i64 ((nth z49 x0_.f1 x6).f1.f2), .int .i64 ((nth z49 x0_.f1 x6).f1.f3), .int .i64 ((nth z49 x0_.f1 x6).f1.f4), .int .i64 ((nth z49 x0_.f1 x6).f1.f5), .slice A21 (((nth z49 x0_.f1 x6).f1.f6).length) c22] 49, box b2 #[.int .i64 x0_.f0, .slice (some ad17) x0_.f1.length c0_1] 24] → windroseref16_May.j50 kq51 x0_ x6 y49 = some r → K42 a w' := by
              intro kq51 hkq J y49 a u54 hE hS H
              cases kq51 with
              | zero => cases (show none = some r from H)
              | succ k52 =>
                rw [windroseref16_May.j50_s] at H
                refine hK42 _ _ ?_
                by_cases c55 : y49 = true
                · rw [if_pos c55] at H
                  refine cond_t hE (b := y49) rfl c55 ?_
                  refine wp_seq_k fun K56 hK56 => ?_
                  refine plain (L := [0]) rfl ?_
                  refine ops_chain (S := Agr _) (.k 0 1 [(2, .bool false)] (by kernel_rfl) .nil) (rest := []) hE (Agr.refl _) (fun a hE => ?_)
                  refine ops_done ?_
                  refine hK56 _ _ ?_
                  refine wp_ret (block_ret (then_ret (then_ret (block_ret (then_ret ?_)))))
                  replace hS := hS.tail
                  replace hS := hS.tail
                  obtain rfl := Option.some.inj H
                  exact ret1 hE rfl (.tmp rfl .nil) ⟨_, rfl, _, rfl, hS⟩
                · rw [if_neg c55] at H
                  refine cond_f hE (b := y49) rfl (eq_false_of_ne_true c55) ?_
                  refine wp_skip ?_
                  refine hK14 _ _ ?_
                  refine plain (L := [0, 1, 2]) rfl ?_
                  refine ops_chain (S := Agr _) (.k 0 3 [(10, .int .i64 x6), (11, .int .i64 (w64 (x6 + 1))), (3, .int .i64 (w64 (x6 + 1)))] (by kernel_rfl) .nil) (rest := []) hE (Agr.refl _) (fun a hE => ?_)
                  refine ops_done ?_
                  replace hS := hS.tail
                  obtain ⟨J, hE⟩ := hE.norm [(0, .agg #[.int .i64 x0_.f0, .slice (some ad17) x0_.f1.length c0_1]), (1, .pointer (some ⟨b2, 0, none⟩)), (2, .bool false), (3, .int .i64 (w64 (x6 + 1)))] (.cons rfl <| .cons rfl <| .cons rfl <| .cons rfl .nil)
                  exact then_n ⟨k52, by omega, J, (w64 (x6 + 1)), hE, hS, H⟩
            refine plain (L := [0, 1, 2, 3, 4, 5, 6, 7, 8, 9, 10, 11, 12, 13, 14, 15, 16, 17, 18, 19, 20]) rfl ?_
            have hb24 := hS.blk_at (i := 0) rfl
            refine ops_chain (S := Agr _) (.k 0 1 [(34, .pointer (some ⟨b24, 0, none⟩))] (by kernel_rfl) <| .v 1 35 rfl rfl rfl rfl (lb1 0 (.int .i64 ((nth z49 x0_.f1 x6).f0)) rfl rfl ag3 hb24 rfl) <| .k 2 2 [(36, .bool (!((nth z49 x0_.f1 x6).f0 == 0))), (37, .bool (!((nth z49 x0_.f1 x6).f0 == 0)))] (by kernel_rfl) .nil) (rest := [4, 5, 6, 7, 8, 9, 10, 11, 12, 13, 14, 15, 16, 17, 18, 19, 20]) hE (Agr.refl _) (fun a hE => ?_)
            by_cases c43 : (nth z49 x0_.f1 x6).f0 = 0
            · rw [if_pos c43] at H
              obtain ⟨J, hE⟩ := hE.norm [(0, .agg #[.int .i64 x0_.f0, .slice (some ad17) x0_.f1.length c0_1]), (1, .pointer (some ⟨b2, 0, none⟩)), (2, .bool false), (3, .int .i64 x6), (4, .pointer (some ⟨b24, 0, none⟩)), (9, .bool (decide (x6 < (x0_.f1.length : Int)))), (33, .bool y34), (37, .bool false)] (.cons rfl <| .cons rfl <| .cons rfl <| .cons rfl <| .cons rfl <| .cons rfl <| .cons rfl <| .cons (Eq.trans (b := .bool (!((nth z49 x0_.f1 x6).f0 == 0))) rfl (congrArg Value.bool (congrArg not (beq_iff_eq.2 c43)))) .nil)
              refine ops_chain (S := Agr _) (.k 4 17 [(38, undef), (39, undef), (40, undef), (41, undef), (42, undef), (43, undef), (44, undef), (45, undef), (46, undef), (47, undef), (48, undef), (49, undef), (50, undef), (51, undef), (52, undef), (53, undef), (54, .bool false)] (by kernel_rfl) .nil) (rest := []) hE (Agr.refl _) (fun a hE => ?_)
              refine ops_done ?_
              obtain ⟨J, hE⟩ := hE.norm [(0, .agg #[.int .i64 x0_.f0, .slice (some ad17) x0_.f1.length c0_1]), (1, .pointer (some ⟨b2, 0, none⟩)), (2, .bool false), (3, .int .i64 x6), (4, .pointer (some ⟨b24, 0, none⟩)), (9, .bool (decide (x6 < (x0_.f1.length : Int)))), (33, .bool y34), (54, .bool false)] (.cons rfl <| .cons rfl <| .cons rfl <| .cons rfl <| .cons rfl <| .cons rfl <| .cons rfl <| .cons rfl .nil)
              exact J53 _ (by omega) J false _ _ hE hS H
            · rw [if_neg c43] at H
              obtain ⟨J, hE⟩ := hE.norm [(0, .agg #[.int .i64 x0_.f0, .slice (some ad17) x0_.f1.length c0_1]), (1, .pointer (some ⟨b2, 0, none⟩)), (2, .bool false), (3, .int .i64 x6), (4, .pointer (some ⟨b24, 0, none⟩)), (9, .bool (decide (x6 < (x0_.f1.length : Int)))), (33, .bool y34), (37, .bool true)] (.cons rfl <| .cons rfl <| .cons rfl <| .cons rfl <| .cons rfl <| .cons rfl <| .cons rfl <| .cons (Eq.trans (b := .bool (!((nth z49 x0_.f1 x6).f0 == 0))) rfl (congrArg Value.bool (congrArg not (beq_eq_false_iff_ne.2 c43)))) .nil)
              refine ops_chain (S := Agr _) (.k 4 1 [(38, .pointer (some ⟨b24, 0, none⟩))] (by kernel_rfl) <| .v 5 39 rfl rfl rfl rfl (lb1 0 (.int .i64 ((nth z49 x0_.f1 x6).f0)) rfl rfl ag3 hb24 rfl) <| .k 6 2 [(40, .bool (decide ((nth z49 x0_.f1 x6).f0 < 1))), (41, .bool (decide ((nth z49 x0_.f1 x6).f0 < 1)))] (by kernel_rfl) .nil) (rest := [8, 9, 10, 11, 12, 13, 14, 15, 16, 17, 18, 19, 20]) hE (Agr.refl _) (fun a hE => ?_)
              by_cases c44 : (nth z49 x0_.f1 x6).f0 < 1
              · rw [if_pos c44] at H
                obtain ⟨J, hE⟩ := hE.norm [(0, .agg #[.int .i64 x0_.f0, .slice (some ad17) x0_.f1.length c0_1]), (1, .pointer (some ⟨b2, 0, none⟩)), (2, .bool false), (3, .int .i64 x6), (4, .pointer (some ⟨b24, 0, none⟩)), (9, .bool (decide (x6 < (x0_.f1.length : Int)))), (33, .bool y34), (37, .bool true), (38, .pointer (some ⟨b24, 0, none⟩)), (39, .int .i64 ((nth z49 x0_.f1 x6).f0)), (40, .bool true), (41, .bool true)] (.cons rfl <| .cons rfl <| .cons rfl <| .cons rfl <| .cons rfl <| .cons rfl <| .cons rfl <| .cons rfl <| .cons rfl <| .cons rfl <| .cons (Eq.trans (b := .bool (decide ((nth z49 x0_.f1 x6).f0 < 1))) rfl (congrArg Value.bool (decide_eq_true c44))) <| .cons (Eq.trans (b := .bool (decide ((nth z49 x0_.f1 x6).f0 < 1))) rfl (congrArg Value.bool (decide_eq_true c44))) .nil)
                refine ops_chain (S := Agr _) (.k 8 13 [(42, undef), (43, undef), (44, undef), (45, undef), (46, undef), (47, .bool true), (48, .bool true), (49, undef), (50, undef), (51, undef), (52, undef), (53, .bool true), (54, .bool true)] (by kernel_rfl) .nil) (rest := []) hE (Agr.refl _) (fun a hE => ?_)
                refine ops_done ?_
                obtain ⟨J, hE⟩ := hE.norm [(0, .agg #[.int .i64 x0_.f0, .slice (some ad17) x0_.f1.length c0_1]), (1, .pointer (some ⟨b2, 0, none⟩)), (2, .bool false), (3, .int .i64 x6), (4, .pointer (some ⟨b24, 0, none⟩)), (9, .bool (decide (x6 < (x0_.f1.length : Int)))), (33, .bool y34), (54, .bool true)] (.cons rfl <| .cons rfl <| .cons rfl <| .cons rfl <| .cons rfl <| .cons rfl <| .cons rfl <| .cons rfl .nil)
                exact J53 _ (by omega) J true _ _ hE hS H
              · rw [if_neg c44] at H
                obtain ⟨J, hE⟩ := hE.norm [(0, .agg #[.int .i64 x0_.f0, .slice (some ad17) x0_.f1.length c0_1]), (1, .pointer (some ⟨b2, 0, none⟩)), (2, .bool false), (3, .int .i64 x6), (4, .pointer (some ⟨b24, 0, none⟩)), (9, .bool (decide (x6 < (x0_.f1.length : Int)))), (33, .bool y34), (37, .bool true), (38, .pointer (some ⟨b24, 0, none⟩)), (39, .int .i64 ((nth z49 x0_.f1 x6).f0)), (40, .bool false), (41, .bool false)] (.cons rfl <| .cons rfl <| .cons rfl <| .cons rfl <| .cons rfl <| .cons rfl <| .cons rfl <| .cons rfl <| .cons rfl <| .cons rfl <| .cons (Eq.trans (b := .bool (decide ((nth z49 x0_.f1 x6).f0 < 1))) rfl (congrArg Value.bool (decide_eq_false c44))) <| .cons (Eq.trans (b := .bool (decide ((nth z49 x0_.f1 x6).f0 < 1))) rfl (congrArg Value.bool (decide_eq_false c44))) .nil)
                have hb2 := hS.blk_at (i := 1) rfl
                refine ops_chain (S := Agr _) (.k 8 1 [(42, .pointer (some ⟨b24, 0, none⟩))] (by kernel_rfl) <| .v 9 43 rfl rfl rfl rfl (lb1 0 (.int .i64 ((nth z49 x0_.f1 x6).f0)) rfl rfl ag3 hb24 rfl) <| .k 10 1 [(44, .pointer (some ⟨b2, 0, none⟩))] (by kernel_rfl) <| .v 11 45 rfl rfl rfl rfl (lb1 0 (.int .i64 x0_.f0) rfl rfl ag3 hb2 rfl) <| .k 12 3 [(46, .bool (decide ((nth z49 x0_.f1 x6).f0 > x0_.f0))), (47, .bool (decide ((nth z49 x0_.f1 x6).f0 > x0_.f0))), (48, .bool (decide ((nth z49 x0_.f1 x6).f0 > x0_.f0)))] (by kernel_rfl) .nil) (rest := [15, 16, 17, 18, 19, 20]) hE (Agr.refl _) (fun a hE => ?_)
                by_cases c45 : (nth z49 x0_.f1 x6).f0 > x0_.f0
                · rw [if_pos c45] at H
                  obtain ⟨J, hE⟩ := hE.norm [(0, .agg #[.int .i64 x0_.f0, .slice (some ad17) x0_.f1.length c0_1]), (1, .pointer (some ⟨b2, 0, none⟩)), (2, .bool false), (3, .int .i64 x6), (4, .pointer (some ⟨b24, 0, none⟩)), (9, .bool (decide (x6 < (x0_.f1.length : Int)))), (33, .bool y34), (37, .bool true), (38, .pointer (some ⟨b24, 0, none⟩)), (39, .int .i64 ((nth z49 x0_.f1 x6).f0)), (40, .bool false), (41, .bool false), (42, .pointer (some ⟨b24, 0, none⟩)), (43, .int .i64 ((nth z49 x0_.f1 x6).f0)), (44, .pointer (some ⟨b2, 0, none⟩)), (45, .int .i64 x0_.f0), (46, .bool true), (47, .bool true), (48, .bool true)] (.cons rfl <| .cons rfl <| .cons rfl <| .cons rfl <| .cons rfl <| .cons rfl <| .cons rfl <| .cons rfl <| .cons rfl <| .cons rfl <| .cons rfl <| .cons rfl <| .cons rfl <| .cons rfl <| .cons rfl <| .cons rfl <| .cons (Eq.trans (b := .bool (decide ((nth z49 x0_.f1 x6).f0 > x0_.f0))) rfl (congrArg Value.bool (decide_eq_true c45))) <| .cons (Eq.trans (b := .bool (decide ((nth z49 x0_.f1 x6).f0 > x0_.f0))) rfl (congrArg Value.bool (decide_eq_true c45))) <| .cons (Eq.trans (b := .bool (decide ((nth z49 x0_.f1 x6).f0 > x0_.f0))) rfl (congrArg Value.bool (decide_eq_true c45))) .nil)
                  refine ops_chain (S := Agr _) (.k 15 6 [(49, undef), (50, undef), (51, undef), (52, undef), (53, .bool true), (54, .bool true)] (by kernel_rfl) .nil) (rest := []) hE (Agr.refl _) (fun a hE => ?_)
                  refine ops_done ?_
                  obtain ⟨J, hE⟩ := hE.norm [(0, .agg #[.int .i64 x0_.f0, .slice (some ad17) x0_.f1.length c0_1]), (1, .pointer (some ⟨b2, 0, none⟩)), (2, .bool false), (3, .int .i64 x6), (4, .pointer (some ⟨b24, 0, none⟩)), (9, .bool (decide (x6 < (x0_.f1.length : Int)))), (33, .bool y34), (54, .bool true)] (.cons rfl <| .cons rfl <| .cons rfl <| .cons rfl <| .cons rfl <| .cons rfl <| .cons rfl <| .cons rfl .nil)
                  exact J53 _ (by omega) J true _ _ hE hS H
                · rw [if_neg c45] at H
                  obtain ⟨J, hE⟩ := hE.norm [(0, .agg #[.int .i64 x0_.f0, .slice (some ad17) x0_.f1.length c0_1]), (1, .pointer (some ⟨b2, 0, none⟩)), (2, .bool false), (3, .int .i64 x6), (4, .pointer (some ⟨b24, 0, none⟩)), (9, .bool (decide (x6 < (x0_.f1.length : Int)))), (33, .bool y34), (37, .bool true), (38, .pointer (some ⟨b24, 0, none⟩)), (39, .int .i64 ((nth z49 x0_.f1 x6).f0)), (40, .bool false), (41, .bool false), (42, .pointer (some ⟨b24, 0, none⟩)), (43, .int .i64 ((nth z49 x0_.f1 x6).f0)), (44, .pointer (some ⟨b2, 0, none⟩)), (45, .int .i64 x0_.f0), (46, .bool false), (47, .bool false), (48, .bool false)] (.cons rfl <| .cons rfl <| .cons rfl <| .cons rfl <| .cons rfl <| .cons rfl <| .cons rfl <| .cons rfl <| .cons rfl <| .cons rfl <| .cons rfl <| .cons rfl <| .cons rfl <| .cons rfl <| .cons rfl <| .cons rfl <| .cons (Eq.trans (b := .bool (decide ((nth z49 x0_.f1 x6).f0 > x0_.f0))) rfl (congrArg Value.bool (decide_eq_false c45))) <| .cons (Eq.trans (b := .bool (decide ((nth z49 x0_.f1 x6).f0 > x0_.f0))) rfl (congrArg Value.bool (decide_eq_false c45))) <| .cons (Eq.trans (b := .bool (decide ((nth z49 x0_.f1 x6).f0 > x0_.f0))) rfl (congrArg Value.bool (decide_eq_false c45))) .nil)
                  refine ops_chain (S := Agr _) (.k 15 1 [(49, .pointer (some ⟨b24, 1, none⟩))] (by kernel_rfl) <| .v 16 50 rfl rfl rfl rfl (lbn 1 [.int .i64 ((nth z49 x0_.f1 x6).f1.f0), .int .i64 ((nth z49 x0_.f1 x6).f1.f1), .int .i64 ((nth z49 x0_.f1 x6).f1.f2), .int .i64 ((nth z49 x0_.f1 x6).f1.f3), .int .i64 ((nth z49 x0_.f1 x6).f1.f4), .int .i64 ((nth z49 x0_.f1 x6).f1.f5), .slice A21 (((nth z49 x0_.f1 x6).f1.f6).length) c22] rfl rfl ag28 sz28 hb24 rfl) .nil) (rest := [17, 18, 19, 20]) hE (Agr.refl _) (fun a hE => ?_)
                  obtain ⟨t46, h47, H⟩ := Option.bind_eq_some_iff.mp H
                  refine ops_eff 17 hE (some 51) rfl rfl rfl rfl (Eff.call en24 rfl [.agg #[.int .i64 ((nth z49 x0_.f1 x6).f1.f0), .int .i64 ((nth z49 x0_.f1 x6).f1.f1), .int .i64 ((nth z49 x0_.f1 x6).f1.f2), .int .i64 ((nth z49 x0_.f1 x6).f1.f3), .int .i64 ((nth z49 x0_.f1 x6).f1.f4), .int .i64 ((nth z49 x0_.f1 x6).f1.f5), .slice A21 (((nth z49 x0_.f1 x6).f1.f6).length) c22]] rfl (windroseref16_Delta.calls k37 (⟨(nth z49 x0_.f1 x6).f1.f0, (nth z49 x0_.f1 x6).f1.f1, (nth z49 x0_.f1 x6).f1.f2, (nth z49 x0_.f1 x6).f1.f3, (nth z49 x0_.f1 x6).f1.f4, (nth z49 x0_.f1 x6).f1.f5, (nth z49 x0_.f1 x6).f1.f6⟩ : S28) _ _ _ _ _ hS.own.sub g23 h47)) ?_
                  rintro _ u48 a ⟨_, rfl, hC⟩ hE
                  replace hS := hS.lent hC
                  refine ops_chain (S := Agr _) (.k 18 3 [(52, .bool (!t46)), (53, .bool (!t46)), (54, .bool (!t46))] (by kernel_rfl) .nil) (rest := []) hE (Agr.refl _) (fun a hE => ?_)
                  refine ops_done ?_
                  obtain ⟨J, hE⟩ := hE.norm [(0, .agg #[.int .i64 x0_.f0, .slice (some ad17) x0_.f1.length c0_1]), (1, .pointer (some ⟨b2, 0, none⟩)), (2, .bool false), (3, .int .i64 x6), (4, .pointer (some ⟨b24, 0, none⟩)), (9, .bool (decide (x6 < (x0_.f1.length : Int)))), (33, .bool y34), (54, .bool (!t46))] (.cons rfl <| .cons rfl <| .cons rfl <| .cons rfl <| .cons rfl <| .cons rfl <| .cons rfl <| .cons rfl .nil)
                  exact J53 _ (by omega) J (!t46) _ _ hE hS H
      refine plain (L := [0, 1, 2, 3, 4, 5, 6, 7, 8, 9, 10, 11, 12, 13, 14, 15, 16]) rfl ?_
      refine ops_chain (S := Agr _) (.k 0 1 [(17, .pointer (some ⟨b24, 0, none⟩))] (by kernel_rfl) <| .v 1 18 rfl rfl rfl rfl (lb1 0 (.int .i64 ((nth z49 x0_.f1 x6).f0)) rfl rfl ag3 hb24 rfl) <| .k 2 2 [(19, .bool ((nth z49 x0_.f1 x6).f0 == 0)), (20, .bool ((nth z49 x0_.f1 x6).f0 == 0))] (by kernel_rfl) .nil) (rest := [4, 5, 6, 7, 8, 9, 10, 11, 12, 13, 14, 15, 16]) hE (Agr.refl _) (fun a hE => ?_)
      by_cases c29 : (nth z49 x0_.f1 x6).f0 = 0
      · rw [if_pos c29] at H
        obtain ⟨J, hE⟩ := hE.norm [(0, .agg #[.int .i64 x0_.f0, .slice (some ad17) x0_.f1.length c0_1]), (1, .pointer (some ⟨b2, 0, none⟩)), (2, .bool false), (3, .int .i64 x6), (4, .pointer (some ⟨b24, 0, none⟩)), (9, .bool (decide (x6 < (x0_.f1.length : Int)))), (20, .bool true)] (.cons rfl <| .cons rfl <| .cons rfl <| .cons rfl <| .cons rfl <| .cons rfl <| .cons (Eq.trans (b := .bool ((nth z49 x0_.f1 x6).f0 == 0)) rfl (congrArg Value.bool (beq_iff_eq.2 c29))) .nil)
        refine ops_chain (S := Agr _) (.v 4 21 rfl rfl rfl rfl (lbn 0 [.int .i64 ((nth z49 x0_.f1 x6).f0), .int .i64 ((nth z49 x0_.f1 x6).f1.f0), .int .i64 ((nth z49 x0_.f1 x6).f1.f1), .int .i64 ((nth z49 x0_.f1 x6).f1.f2), .int .i64 ((nth z49 x0_.f1 x6).f1.f3), .int .i64 ((nth z49 x0_.f1 x6).f1.f4), .int .i64 ((nth z49 x0_.f1 x6).f1.f5), .slice A21 (((nth z49 x0_.f1 x6).f1.f6).length) c22] rfl rfl ag49 sz49 hb24 rfl) <| .v 5 22 rfl rfl rfl rfl (YA.s (x_build [] (.agg #[.int .i64 0, .int .i64 0, .int .i64 0, .int .i64 0, .int .i64 0, .int .i64 0, .int .i64 0, .slice none 0 0]) rfl rfl (fun w => by kernel_rfl))) .nil) (rest := [6, 7, 8, 9, 10, 11, 12, 13, 14, 15, 16]) hE (Agr.refl _) (fun a hE => ?_)
        obtain ⟨t30, h31, H⟩ := Option.bind_eq_some_iff.mp H
        refine ops_eff 6 hE (some 23) rfl rfl rfl rfl (Eff.call en74 rfl [.agg #[.int .i64 ((nth z49 x0_.f1 x6).f0), .int .i64 ((nth z49 x0_.f1 x6).f1.f0), .int .i64 ((nth z49 x0_.f1 x6).f1.f1), .int .i64 ((nth z49 x0_.f1 x6).f1.f2), .int .i64 ((nth z49 x0_.f1 x6).f1.f3), .int .i64 ((nth z49 x0_.f1 x6).f1.f4), .int .i64 ((nth z49 x0_.f1 x6).f1.f5), .slice A21 (((nth z49 x0_.f1 x6).f1.f6).length) c22], .agg #[.int .i64 0, .int .i64 0, .int .i64 0, .int .i64 0, .int .i64 0, .int .i64 0, .int .i64 0, .slice none 0 0]] rfl (windroseref16_One.calls k9 (⟨(nth z49 x0_.f1 x6).f0, (⟨(nth z49 x0_.f1 x6).f1.f0, (nth z49 x0_.f1 x6).f1.f1, (nth z49 x0_.f1 x6).f1.f2, (nth z49 x0_.f1 x6).f1.f3, (nth z49 x0_.f1 x6).f1.f4, (nth z49 x0_.f1 x6).f1.f5, (nth z49 x0_.f1 x6).f1.f6⟩ : S28)⟩ : S49) (⟨0, (⟨0, 0, 0, 0, 0, 0, []⟩ : S28)⟩ : S49) _ _ _ _ _ _ _ hS.own.sub g23 (Rd.nil _ _) h31)) ?_
        rintro _ u32 a ⟨_, rfl, hC⟩ hE
        replace hS := hS.lent hC
        refine ops_chain (S := Agr _) (.k 7 2 [(24, .bool (!t30)), (25, .bool (!t30))] (by kernel_rfl) .nil) (rest := [9, 10, 11, 12, 13, 14, 15, 16]) hE (Agr.refl _) (fun a hE => ?_)
        by_cases c33 : t30 = true
        · rw [if_pos c33] at H
          obtain ⟨J, hE⟩ := hE.norm [(0, .agg #[.int .i64 x0_.f0, .slice (some ad17) x0_.f1.length c0_1]), (1, .pointer (some ⟨b2, 0, none⟩)), (2, .bool false), (3, .int .i64 x6), (4, .pointer (some ⟨b24, 0, none⟩)), (9, .bool (decide (x6 < (x0_.f1.length : Int)))), (20, .bool true), (21, .agg #[.int .i64 ((nth z49 x0_.f1 x6).f0), .int .i64 ((nth z49 x0_.f1 x6).f1.f0), .int .i64 ((nth z49 x0_.f1 x6).f1.f1), .int .i64 ((nth z49 x0_.f1 x6).f1.f2), .int .i64 ((nth z49 x0_.f1 x6).f1.f3), .int .i64 ((nth z49 x0_.f1 x6).f1.f4), .int .i64 ((nth z49 x0_.f1 x6).f1.f5), .slice A21 (((nth z49 x0_.f1 x6).f1.f6).length) c22]), (22, .agg #[.int .i64 0, .int .i64 0, .int .i64 0, .int .i64 0, .int .i64 0, .int .i64 0, .int .i64 0, .slice none 0 0]), (23, .bool true), (24, .bool false), (25, .bool false)] (.cons rfl <| .cons rfl <| .cons rfl <| .cons rfl <| .cons rfl <| .cons rfl <| .cons rfl <| .cons rfl <| .cons rfl <| .cons (Eq.trans (b := .bool t30) rfl (congrArg Value.bool c33)) <| .cons (Eq.trans (b := .bool (!t30)) rfl (congrArg Value.bool (congrArg not c33))) <| .cons (Eq.trans (b := .bool (!t30)) rfl (congrArg Value.bool (congrArg not c33))) .nil)
          have hb2 := hS.blk_at (i := 1) rfl
          refine ops_chain (S := Agr _) (.k 9 2 [(26, .int .i64 x6), (27, .pointer (some ⟨b2, 1, none⟩))] (by kernel_rfl) <| .v 11 28 rfl rfl rfl rfl (lb1 1 (.slice (some ad17) x0_.f1.length c0_1) rfl rfl ag22 hb2 rfl) <| .v 12 29 rfl rfl rfl rfl (YA.s (len_sl rfl rfl ud22)) <| .k 13 4 [(30, .int .i64 (w64 ((x0_.f1.length : Int) - 1))), (31, .bool (x6 == (w64 ((x0_.f1.length : Int) - 1)))), (32, .bool (x6 == (w64 ((x0_.f1.length : Int) - 1)))), (33, .bool (x6 == (w64 ((x0_.f1.length : Int) - 1))))] (by kernel_rfl) .nil) (rest := []) hE (Agr.refl _) (fun a hE => ?_)
          refine ops_done ?_
          obtain ⟨J, hE⟩ := hE.norm [(0, .agg #[.int .i64 x0_.f0, .slice (some ad17) x0_.f1.length c0_1]), (1, .pointer (some ⟨b2, 0, none⟩)), (2, .bool false), (3, .int .i64 x6), (4, .pointer (some ⟨b24, 0, none⟩)), (9, .bool (decide (x6 < (x0_.f1.length : Int)))), (33, .bool (x6 == (w64 ((x0_.f1.length : Int) - 1))))] (.cons rfl <| .cons rfl <| .cons rfl <| .cons rfl <| .cons rfl <| .cons rfl <| .cons rfl .nil)
          exact J38 _ (by omega) J (x6 == (w64 ((x0_.f1.length : Int) - 1))) _ _ hE hS H
        · rw [if_neg c33] at H
          obtain ⟨J, hE⟩ := hE.norm [(0, .agg #[.int .i64 x0_.f0, .slice (some ad17) x0_.f1.length c0_1]), (1, .pointer (some ⟨b2, 0, none⟩)), (2, .bool false), (3, .int .i64 x6), (4, .pointer (some ⟨b24, 0, none⟩)), (9, .bool (decide (x6 < (x0_.f1.length : Int)))), (20, .bool true), (21, .agg #[.int .i64 ((nth z49 x0_.f1 x6).f0), .int .i64 ((nth z49 x0_.f1 x6).f1.f0), .int .i64 ((nth z49 x0_.f1 x6).f1.f1), .int .i64 ((nth z49 x0_.f1 x6).f1.f2), .int .i64 ((nth z49 x0_.f1 x6).f1.f3), .int .i64 ((nth z49 x0_.f1 x6).f1.f4), .int .i64 ((nth z49 x0_.f1 x6).f1.f5), .slice A21 (((nth z49 x0_.f1 x6).f1.f6).length) c22]), (22, .agg #[.int .i64 0, .int .i64 0, .int .i64 0, .int .i64 0, .int .i64 0, .int .i64 0, .int .i64 0, .slice none 0 0]), (23, .bool false), (24, .bool true), (25, .bool true)] (.cons rfl <| .cons rfl <| .cons rfl <| .cons rfl <| .cons rfl <| .cons rfl <| .cons rfl <| .cons rfl <| .cons rfl <| .cons (Eq.trans (b := .bool t30) rfl (congrArg Value.bool (eq_false_of_ne_true c33))) <| .cons (Eq.trans (b := .bool (!t30)) rfl (congrArg Value.bool (congrArg not (eq_false_of_ne_true c33)))) <| .cons (Eq.trans (b := .bool (!t30)) rfl (congrArg Value.bool (congrArg not (eq_false_of_ne_true c33)))) .nil)
          refine ops_chain (S := Agr _) (.k 9 8 [(26, undef), (27, undef), (28, undef), (29, undef), (30, undef), (31, undef), (32, .bool true), (33, .bool true)] (by kernel_rfl) .nil) (rest := []) hE (Agr.refl _) (fun a hE => ?_)
          refine ops_done ?_
          obtain ⟨J, hE⟩ := hE.norm [(0, .agg #[.int .i64 x0_.f0, .slice (some ad17) x0_.f1.length c0_1]), (1, .pointer (some ⟨b2, 0, none⟩)), (2, .bool false), (3, .int .i64 x6), (4, .pointer (some ⟨b24, 0, none⟩)), (9, .bool (decide (x6 < (x0_.f1.length : Int)))), (33, .bool true)] (.cons rfl <| .cons rfl <| .cons rfl <| .cons rfl <| .cons rfl <| .cons rfl <| .cons rfl .nil)
          exact J38 _ (by omega) J true _ _ hE hS H
      · rw [if_neg c29] at H
        obtain ⟨J, hE⟩ := hE.norm [(0, .agg #[.int .i64 x0_.f0, .slice (some ad17) x0_.f1.length c0_1]), (1, .pointer (some ⟨b2, 0, none⟩)), (2, .bool false), (3, .int .i64 x6), (4, .pointer (some ⟨b24, 0, none⟩)), (9, .bool (decide (x6 < (x0_.f1.length : Int)))), (20, .bool false)] (.cons rfl <| .cons rfl <| .cons rfl <| .cons rfl <| .cons rfl <| .cons rfl <| .cons (Eq.trans (b := .bool ((nth z49 x0_.f1 x6).f0 == 0)) rfl (congrArg Value.bool (beq_eq_false_iff_ne.2 c29))) .nil)
        refine ops_chain (S := Agr _) (.k 4 13 [(21, undef), (22, undef), (23, undef), (24, undef), (25, undef), (26, undef), (27, undef), (28, undef), (29, undef), (30, undef), (31, undef), (32, undef), (33, .bool false)] (by kernel_rfl) .nil) (rest := []) hE (Agr.refl _) (fun a hE => ?_)
        refine ops_done ?_
        obtain ⟨J, hE⟩ := hE.norm [(0, .agg #[.int .i64 x0_.f0, .slice (some ad17) x0_.f1.length c0_1]), (1, .pointer (some ⟨b2, 0, none⟩)), (2, .bool false), (3, .int .i64 x6), (4, .pointer (some ⟨b24, 0, none⟩)), (9, .bool (decide (x6 < (x0_.f1.length : Int)))), (33, .bool false)] (.cons rfl <| .cons rfl <| .cons rfl <| .cons rfl <| .cons rfl <| .cons rfl <| .cons rfl .nil)
        exact J38 _ (by omega) J false _ _ hE hS H
    · rw [if_neg c13] at H
      refine cond_f hE (b := (decide (x6 < (x0_.f1.length : Int)))) rfl (decide_eq_false c13) ?_
      refine wp_exit ?_
      refine hK4 _ _ ?_
      refine wp_seq_k fun K57 hK57 => ?_
      refine plain (L := [0, 1, 2, 3, 4, 5, 6, 7, 8, 9]) rfl ?_
      refine ops_chain (S := Agr _) (.k 0 1 [(55, .pointer (some ⟨b2, 0, none⟩))] (by kernel_rfl) <| .v 1 56 rfl rfl rfl rfl (lb1 0 (.int .i64 x0_.f0) rfl rfl ag3 hb2 rfl) .nil) (rest := [2, 3, 4, 5, 6, 7, 8, 9]) hE (Agr.refl _) (fun a hE => ?_)
      obtain ⟨t58, h59, H⟩ := Option.bind_eq_some_iff.mp H
      refine ops_eff 2 hE (some 57) rfl rfl rfl rfl (Eff.call en75 rfl [.int .i64 x0_.f0] rfl (windroseref16_in.calls x0_.f0 _ _ _ hS.own.sub h59)) ?_
      rintro _ u60 a ⟨_, rfl, hC⟩ hE
      replace hS := hS.lent hC
      refine ops_chain (S := Agr _) (.k 3 1 [(58, .bool t58)] (by kernel_rfl) .nil) (rest := [4, 5, 6, 7, 8, 9]) hE (Agr.refl _) (fun a hE => ?_)
      by_cases c61 : t58 = true
      · rw [if_pos c61] at H
        obtain ⟨J, hE⟩ := hE.norm [(0, .agg #[.int .i64 x0_.f0, .slice A0_1 x0_.f1.length c0_1]), (1, .pointer (some ⟨b2, 0, none⟩)), (2, .bool false), (3, .int .i64 x6), (9, .bool (decide (x6 < (x0_.f1.length : Int)))), (58, .bool true)] (.cons rfl <| .cons rfl <| .cons rfl <| .cons rfl <| .cons rfl <| .cons (Eq.trans (b := .bool t58) rfl (congrArg Value.bool c61)) .nil)
        have hb2 := hS.blk_at (i := 0) rfl
        refine ops_chain (S := Agr _) (.k 4 1 [(59, .pointer (some ⟨b2, 1, none⟩))] (by kernel_rfl) <| .v 5 60 rfl rfl rfl rfl (lb1 1 (.slice A0_1 x0_.f1.length c0_1) rfl rfl ag22 hb2 rfl) <| .v 6 61 rfl rfl rfl rfl (YA.s (len_sl rfl rfl ud22)) <| .k 7 3 [(62, .bool (decide ((x0_.f1.length : Int) ≤ 256))), (63, .bool (decide ((x0_.f1.length : Int) ≤ 256))), (2, .bool (decide ((x0_.f1.length : Int) ≤ 256)))] (by kernel_rfl) .nil) (rest := []) hE (Agr.refl _) (fun a hE => ?_)
        refine ops_done ?_
        refine hK57 _ _ ?_
        refine wp_ret ?_
        replace hS := hS.tail
        obtain rfl := Option.some.inj H
        exact ret1 hE rfl (.tmp rfl .nil) ⟨_, rfl, _, rfl, hS⟩
      · rw [if_neg c61] at H
        obtain ⟨J, hE⟩ := hE.norm [(0, .agg #[.int .i64 x0_.f0, .slice A0_1 x0_.f1.length c0_1]), (1, .pointer (some ⟨b2, 0, none⟩)), (2, .bool false), (3, .int .i64 x6), (9, .bool (decide (x6 < (x0_.f1.length : Int)))), (58, .bool false)] (.cons rfl <| .cons rfl <| .cons rfl <| .cons rfl <| .cons rfl <| .cons (Eq.trans (b := .bool t58) rfl (congrArg Value.bool (eq_false_of_ne_true c61))) .nil)
        refine ops_chain (S := Agr _) (.k 4 6 [(59, undef), (60, undef), (61, undef), (62, undef), (63, .bool false), (2, .bool false)] (by kernel_rfl) .nil) (rest := []) hE (Agr.refl _) (fun a hE => ?_)
        refine ops_done ?_
        refine hK57 _ _ ?_
        refine wp_ret ?_
        replace hS := hS.tail
        obtain rfl := Option.some.inj H
        exact ret1 hE rfl (.tmp rfl .nil) ⟨_, rfl, _, rfl, hS⟩

/-! ### windrose/windroseref16.List: function 28 -/
def windroseref16_List.l9 : Nat → List S49 → List S49 → Int → Option Bool
  | 0, _, _, _ => none
  | k + 1, x0_, x1_, x8 => if x8 < (x0_.length : Int) then (if 0 ≤ x8 ∧ x8 < (x0_.length : Int) then (if 0 ≤ x8 ∧ x8 < (x1_.length : Int) then ((windroseref16_One.f k (⟨(nth z49 x0_ x8).f0, (⟨(nth z49 x0_ x8).f1.f0, (nth z49 x0_ x8).f1.f1, (nth z49 x0_ x8).f1.f2, (nth z49 x0_ x8).f1.f3, (nth z49 x0_ x8).f1.f4, (nth z49 x0_ x8).f1.f5, (nth z49 x0_ x8).f1.f6⟩ : S28)⟩ : S49) (⟨(nth z49 x1_ x8).f0, (⟨(nth z49 x1_ x8).f1.f0, (nth z49 x1_ x8).f1.f1, (nth z49 x1_ x8).f1.f2, (nth z49 x1_ x8).f1.f3, (nth z49 x1_ x8).f1.f4, (nth z49 x1_ x8).f1.f5, (nth z49 x1_ x8).f1.f6⟩ : S28)⟩ : S49)).bind fun t34 => (if t34 = true then (windroseref16_List.l9 k x0_ x1_ (w64 (x8 + 1))) else (some false))) else (none)) else (none)) else (some true)
theorem windroseref16_List.l9_s (k : Nat) (x0_ : List S49) (x1_ : List S49) (x8 : Int) : windroseref16_List.l9 (k + 1) x0_ x1_ x8 = (if x8 < (x0_.length : Int) then (if 0 ≤ x8 ∧ x8 < (x0_.length : Int) then (if 0 ≤ x8 ∧ x8 < (x1_.length : Int) then ((windroseref16_One.f k (⟨(nth z49 x0_ x8).f0, (⟨(nth z49 x0_ x8).f1.f0, (nth z49 x0_ x8).f1.f1, (nth z49 x0_ x8).f1.f2, (nth z49 x0_ x8).f1.f3, (nth z49 x0_ x8).f1.f4, (nth z49 x0_ x8).f1.f5, (nth z49 x0_ x8).f1.f6⟩ : S28)⟩ : S49) (⟨(nth z49 x1_ x8).f0, (⟨(nth z49 x1_ x8).f1.f0, (nth z49 x1_ x8).f1.f1, (nth z49 x1_ x8).f1.f2, (nth z49 x1_ x8).f1.f3, (nth z49 x1_ x8).f1.f4, (nth z49 x1_ x8).f1.f5, (nth z49 x1_ x8).f1.f6⟩ : S28)⟩ : S49)).bind fun t34 => (if t34 = true then (windroseref16_List.l9 k x0_ x1_ (w64 (x8 + 1))) else (some false))) else (none)) else (none)) else (some true)) := by kernel_rfl
def windroseref16_List.f (k : Nat) (x0_ : List S49) (x1_ : List S49) : Option Bool := if (x0_.length : Int) = (x1_.length : Int) then (windroseref16_List.l9 k x0_ x1_ 0) else (some false)
def windroseref16_List.Post (W F : World) (r : Bool) (v : Value) (w' : World) : Prop := ∃ (F' : World), v = .bool r ∧ St W (mine W []) F w' F' []
set_option maxHeartbeats 4000000 in
set_option maxRecDepth 100000 in
theorem windroseref16_List.calls (k : Nat) (x0_ : List S49) (x1_ : List S49) (A0_0 : Option Addr) (c0_0 : Nat) (A1_0 : Option Addr) (c1_0 : Nat) (r : Bool) (W F : World) (hsub : Sub F W) (g0_0 : Rd k49 F A0_0 c0_0 x0_) (g1_0 : Rd k49 F A1_0 c1_0 x1_) (H : windroseref16_List.f k x0_ x1_ = some r) :
    Calls Try.prog 28 #[.slice A0_0 x0_.length c0_0, .slice A1_0 x1_.length c1_0] W fun e w' => ∃ v, e = .returned v ∧ windroseref16_List.Post W F r v w' := by
  have hS := St.start (Own.nil hsub)
  unfold windroseref16_List.f at H
  refine enter (n := 27) rfl rfl rfl (Nat.le_of_ble_eq_true rfl) (fun a hE => ?_)
  refine wp_seq_k fun K1 hK1 => ?_
  refine plain (L := [0]) rfl ?_
  refine ops_chain (S := Agr _) (.k 0 1 [(4, .bool false)] (by kernel_rfl) .nil) (rest := []) hE (Agr.refl _) (fun a hE => ?_)
  refine ops_done ?_
  refine hK1 _ _ ?_
  refine wp_seq_k fun K2 hK2 => ?_
  refine wp_seq_k fun K3 hK3 => ?_
  refine plain (L := [0, 1, 2, 3, 4]) rfl ?_
  refine ops_chain (S := Agr _) (.k 0 1 [(6, .slice A0_0 x0_.length c0_0)] (by kernel_rfl) <| .v 1 7 rfl rfl rfl rfl (YA.s (len_sl rfl rfl ud22)) <| .k 2 1 [(8, .slice A1_0 x1_.length c1_0)] (by kernel_rfl) <| .v 3 9 rfl rfl rfl rfl (YA.s (len_sl rfl rfl ud22)) <| .k 4 1 [(10, .bool (!((x0_.length : Int) == (x1_.length : Int))))] (by kernel_rfl) .nil) (rest := []) hE (Agr.refl _) (fun a hE => ?_)
  refine ops_done ?_
  refine hK3 _ _ ?_
  by_cases c4 : (x0_.length : Int) = (x1_.length : Int)
  · rw [if_pos c4] at H
    refine cond_f hE (b := (!((x0_.length : Int) == (x1_.length : Int)))) rfl (congrArg not (beq_iff_eq.2 c4)) ?_
    refine wp_skip ?_
    refine hK2 _ _ ?_
    refine wp_seq_k fun K6 hK6 => ?_
    refine wp_seq_k fun K7 hK7 => ?_
    refine plain (L := [0]) rfl ?_
    refine ops_chain (S := Agr _) (.k 0 1 [(5, .int .i64 0)] (by kernel_rfl) .nil) (rest := []) hE (Agr.refl _) (fun a hE => ?_)
    refine ops_done ?_
    refine hK7 _ _ ?_
    refine wp_block ?_
    obtain ⟨J, hE⟩ := hE.norm [(0, .slice A0_0 x0_.length c0_0), (1, .slice A1_0 x1_.length c1_0), (4, .bool false), (5, .int .i64 0), (10, .bool (!((x0_.length : Int) == (x1_.length : Int))))] (.cons rfl <| .cons rfl <| .cons rfl <| .cons rfl <| .cons rfl .nil)
    refine wp_loop_ghost (fun kq10 a w' => ∃ (J : Nat → Value) (x8 : Int), Env 27 (updL J [(0, .slice A0_0 x0_.length c0_0), (1, .slice A1_0 x1_.length c1_0), (4, .bool false), (5, .int .i64 x8), (10, .bool (!((x0_.length : Int) == (x1_.length : Int))))]) a ∧ St W (mine W []) F w' F [] ∧  windroseref16_List.l9 kq10 x0_ x1_ x8 = some r) k ⟨J, 0, hE, hS, H⟩ ?_
    rintro kq10 a u12 ⟨J, x8, hE, hS, H⟩
    cases kq10 with
    | zero => cases (show none = some r from H)
    | succ k11 =>
      rw [windroseref16_List.l9_s] at H
      refine wp_seq_k fun K13 hK13 => ?_
      refine wp_seq_k fun K14 hK14 => ?_
      refine plain (L := [0, 1, 2, 3]) rfl ?_
      refine ops_chain (S := Agr _) (.k 0 2 [(11, .int .i64 x8), (12, .slice A0_0 x0_.length c0_0)] (by kernel_rfl) <| .v 2 13 rfl rfl rfl rfl (YA.s (len_sl rfl rfl ud22)) <| .k 3 1 [(14, .bool (decide (x8 < (x0_.length : Int))))] (by kernel_rfl) .nil) (rest := []) hE (Agr.refl _) (fun a hE => ?_)
      refine ops_done ?_
      refine hK14 _ _ ?_
      by_cases c15 : x8 < (x0_.length : Int)
      · rw [if_pos c15] at H
        refine cond_t hE (b := (decide (x8 < (x0_.length : Int)))) rfl (decide_eq_true c15) ?_
        refine wp_skip ?_
        refine hK13 _ _ ?_
        refine wp_seq_k fun K16 hK16 => ?_
        refine wp_block ?_
        refine wp_seq_k fun K17 hK17 => ?_
        refine drawn 10 [] mixed rfl (by kernel_rfl) (fun hst => ?_)
        replace hS := hS.drew
        by_cases c18 : 0 ≤ x8 ∧ x8 < (x0_.length : Int)
        rotate_left
        · rw [if_neg c18] at H; cases H
        rw [if_pos c18] at H
        obtain ⟨ad19, rfl⟩ := g0_0.addr c18.1 c18.2
        obtain ⟨cs21, ⟨A23, c24, rfl, g25⟩, hc22⟩ := g0_0.el z49 x8 c18.1 c18.2
        by_cases c26 : 0 ≤ x8 ∧ x8 < (x1_.length : Int)
        rotate_left
        · rw [if_neg c26] at H; cases H
        rw [if_pos c26] at H
        obtain ⟨ad27, rfl⟩ := g1_0.addr c26.1 c26.2
        obtain ⟨cs29, ⟨A31, c32, rfl, g33⟩, hc30⟩ := g1_0.el z49 x8 c26.1 c26.2
        refine many 255 hst hE (.k 0 2 [(17, .slice (some ad19) x0_.length c0_0), (18, .int .i64 x8)] (by kernel_rfl) <| .q 2 19 rfl rfl rfl rfl (ix 8 rfl rfl rfl ud22 sz49 c18.1 c18.2) <| .v 3 20 rfl rfl rfl rfl (lfn [.int .i64 ((nth z49 x0_ x8).f0), .int .i64 ((nth z49 x0_ x8).f1.f0), .int .i64 ((nth z49 x0_ x8).f1.f1), .int .i64 ((nth z49 x0_ x8).f1.f2), .int .i64 ((nth z49 x0_ x8).f1.f3), .int .i64 ((nth z49 x0_ x8).f1.f4), .int .i64 ((nth z49 x0_ x8).f1.f5), .slice A23 (((nth z49 x0_ x8).f1.f6).length) c24] rfl rfl ag49 sz49 hS.own.sub hc22) <| .k 4 2 [(21, .slice (some ad27) x1_.length c1_0), (22, .int .i64 x8)] (by kernel_rfl) <| .q 6 23 rfl rfl rfl rfl (ix 8 rfl rfl rfl ud22 sz49 c26.1 c26.2) <| .v 7 24 rfl rfl rfl rfl (lfn [.int .i64 ((nth z49 x1_ x8).f0), .int .i64 ((nth z49 x1_ x8).f1.f0), .int .i64 ((nth z49 x1_ x8).f1.f1), .int .i64 ((nth z49 x1_ x8).f1.f2), .int .i64 ((nth z49 x1_ x8).f1.f3), .int .i64 ((nth z49 x1_ x8).f1.f4), .int .i64 ((nth z49 x1_ x8).f1.f5), .slice A31 (((nth z49 x1_ x8).f1.f6).length) c32] rfl rfl ag49 sz49 hS.own.sub hc30) .nil) (by kernel_rfl) (fun a hE => ?_)
        obtain ⟨t34, h35, H⟩ := Option.bind_eq_some_iff.mp H
        refine one 8 511 hE (some 25) rfl rfl rfl rfl (by kernel_rfl) (Eff.call en74 rfl [.agg #[.int .i64 ((nth z49 x0_ x8).f0), .int .i64 ((nth z49 x0_ x8).f1.f0), .int .i64 ((nth z49 x0_ x8).f1.f1), .int .i64 ((nth z49 x0_ x8).f1.f2), .int .i64 ((nth z49 x0_ x8).f1.f3), .int .i64 ((nth z49 x0_ x8).f1.f4), .int .i64 ((nth z49 x0_ x8).f1.f5), .slice A23 (((nth z49 x0_ x8).f1.f6).length) c24], .agg #[.int .i64 ((nth z49 x1_ x8).f0), .int .i64 ((nth z49 x1_ x8).f1.f0), .int .i64 ((nth z49 x1_ x8).f1.f1), .int .i64 ((nth z49 x1_ x8).f1.f2), .int .i64 ((nth z49 x1_ x8).f1.f3), .int .i64 ((nth z49 x1_ x8).f1.f4), .int .i64 ((nth z49 x1_ x8).f1.f5), .slice A31 (((nth z49 x1_ x8).f1.f6).length) c32]] rfl (windroseref16_One.calls k11 (⟨(nth z49 x0_ x8).f0, (⟨(nth z49 x0_ x8).f1.f0, (nth z49 x0_ x8).f1.f1, (nth z49 x0_ x8).f1.f2, (nth z49 x0_ x8).f1.f3, (nth z49 x0_ x8).f1.f4, (nth z49 x0_ x8).f1.f5, (nth z49 x0_ x8).f1.f6⟩ : S28)⟩ : S49) (⟨(nth z49 x1_ x8).f0, (⟨(nth z49 x1_ x8).f1.f0, (nth z49 x1_ x8).f1.f1, (nth z49 x1_ x8).f1.f2, (nth z49 x1_ x8).f1.f3, (nth z49 x1_ x8).f1.f4, (nth z49 x1_ x8).f1.f5, (nth z49 x1_ x8).f1.f6⟩ : S28)⟩ : S49) _ _ _ _ _ _ _ hS.own.sub g25 g33 h35)) ?_
        rintro _ u36 a ⟨_, rfl, hC⟩ hE
        refine ⟨fun _ => hC.agr, ?_⟩
        replace hS := hS.lent hC
        refine many 1023 hst hE (.k 9 1 [(26, .bool (!t34))] (by kernel_rfl) .nil) (by kernel_rfl) (fun a hE => ?_)
        refine all_done (by kernel_rfl) ?_
        refine hK17 _ _ ?_
        by_cases c37 : t34 = true
        · rw [if_pos c37] at H
          refine cond_f hE (b := (!t34)) rfl (congrArg not c37) ?_
          refine wp_skip ?_
          refine hK16 _ _ ?_
          refine plain (L := [0, 1, 2]) rfl ?_
          refine ops_chain (S := Agr _) (.k 0 3 [(15, .int .i64 x8), (16, .int .i64 (w64 (x8 + 1))), (5, .int .i64 (w64 (x8 + 1)))] (by kernel_rfl) .nil) (rest := []) hE (Agr.refl _) (fun a hE => ?_)
          refine ops_done ?_
          obtain ⟨J, hE⟩ := hE.norm [(0, .slice (some ad19) x0_.length c0_0), (1, .slice (some ad27) x1_.length c1_0), (4, .bool false), (5, .int .i64 (w64 (x8 + 1))), (10, .bool (!((x0_.length : Int) == (x1_.length : Int))))] (.cons rfl <| .cons rfl <| .cons rfl <| .cons rfl <| .cons rfl .nil)
          exact then_n ⟨k11, by omega, J, (w64 (x8 + 1)), hE, hS, H⟩
        · rw [if_neg c37] at H
          refine cond_t hE (b := (!t34)) rfl (congrArg not (eq_false_of_ne_true c37)) ?_
          refine wp_seq_k fun K38 hK38 => ?_
          refine plain (L := [0]) rfl ?_
          refine ops_chain (S := Agr _) (.k 0 1 [(4, .bool false)] (by kernel_rfl) .nil) (rest := []) hE (Agr.refl _) (fun a hE => ?_)
          refine ops_done ?_
          refine hK38 _ _ ?_
          refine wp_ret (block_ret (then_ret (then_ret (block_ret (then_ret ?_)))))
          obtain rfl := Option.some.inj H
          exact ret1 hE rfl (.tmp rfl .nil) ⟨_, rfl, _, rfl, hS⟩
      · rw [if_neg c15] at H
        refine cond_f hE (b := (decide (x8 < (x0_.length : Int)))) rfl (decide_eq_false c15) ?_
        refine wp_exit ?_
        refine hK6 _ _ ?_
        refine wp_seq_k fun K39 hK39 => ?_
        refine plain (L := [0]) rfl ?_
        refine ops_chain (S := Agr _) (.k 0 1 [(4, .bool true)] (by kernel_rfl) .nil) (rest := []) hE (Agr.refl _) (fun a hE => ?_)
        refine ops_done ?_
        refine hK39 _ _ ?_
        refine wp_ret ?_
        obtain rfl := Option.some.inj H
        exact ret1 hE rfl (.tmp rfl .nil) ⟨_, rfl, _, rfl, hS⟩
  · rw [if_neg c4] at H
    refine cond_t hE (b := (!((x0_.length : Int) == (x1_.length : Int)))) rfl (congrArg not (beq_eq_false_iff_ne.2 c4)) ?_
    refine wp_seq_k fun K5 hK5 => ?_
    refine plain (L := [0]) rfl ?_
    refine ops_chain (S := Agr _) (.k 0 1 [(4, .bool false)] (by kernel_rfl) .nil) (rest := []) hE (Agr.refl _) (fun a hE => ?_)
    refine ops_done ?_
    refine hK5 _ _ ?_
    refine wp_ret (then_ret ?_)
    obtain rfl := Option.some.inj H
    exact ret1 hE rfl (.tmp rfl .nil) ⟨_, rfl, _, rfl, hS⟩

/-! ### windrose/windroseref16.Same: function 25 -/
def windroseref16_Same.f (k : Nat) (x0_ : S24) (x1_ : S24) : Option Bool := if x0_.f0 = x1_.f0 then ((windroseref16_List.f k x0_.f1 x1_.f1).bind fun t8 => (some t8)) else (some false)
def windroseref16_Same.Post (W F : World) (r : Bool) (v : Value) (w' : World) : Prop := ∃ (F' : World), v = .bool r ∧ St W (mine W []) F w' F' []
set_option maxHeartbeats 4000000 in
set_option maxRecDepth 100000 in
theorem windroseref16_Same.calls (k : Nat) (x0_ : S24) (x1_ : S24) (A0_1 : Option Addr) (c0_1 : Nat) (A1_1 : Option Addr) (c1_1 : Nat) (r : Bool) (W F : World) (hsub : Sub F W) (g0_1 : Rd k49 F A0_1 c0_1 x0_.f1) (g1_1 : Rd k49 F A1_1 c1_1 x1_.f1) (H : windroseref16_Same.f k x0_ x1_ = some r) :
    Calls Try.prog 25 #[.agg #[.int .i64 x0_.f0, .slice A0_1 x0_.f1.length c0_1], .agg #[.int .i64 x1_.f0, .slice A1_1 x1_.f1.length c1_1]] W fun e w' => ∃ v, e = .returned v ∧ windroseref16_Same.Post W F r v w' := by
  have hS := St.start (Own.nil hsub)
  unfold windroseref16_Same.f at H
  refine enter (n := 17) rfl rfl rfl (Nat.le_of_ble_eq_true rfl) (fun a hE => ?_)
  refine wp_seq_k fun K1 hK1 => ?_
  refine plain (L := [0, 1, 2]) rfl ?_
  refine ops_eff 0 hE (some 2) rfl rfl rfl rfl (e_box hS rfl rfl #[.int .i64 x0_.f0, .slice A0_1 x0_.f1.length c0_1] rfl) ?_
  rintro _ u3 a ⟨b2, rfl, hb2, hS, hg⟩ hE
  refine ops_eff 1 hE (some 3) rfl rfl rfl rfl (e_box hS rfl rfl #[.int .i64 x1_.f0, .slice A1_1 x1_.f1.length c1_1] rfl) ?_
  rintro _ u5 a ⟨b4, rfl, hb4, hS, hg⟩ hE
  refine ops_chain (S := Agr _) (.k 2 1 [(4, .bool false)] (by kernel_rfl) .nil) (rest := []) hE (Agr.refl _) (fun a hE => ?_)
  refine ops_done ?_
  refine hK1 _ _ ?_
  refine wp_seq_k fun K6 hK6 => ?_
  refine plain (L := [0, 1, 2, 3, 4, 5, 6, 7, 8, 9, 10, 11, 12]) rfl ?_
  have hb2 := hS.blk_at (i := 1) rfl
  refine ops_chain (S := Agr _) (.k 0 1 [(5, .pointer (some ⟨b2, 0, none⟩))] (by kernel_rfl) <| .v 1 6 rfl rfl rfl rfl (lb1 0 (.int .i64 x0_.f0) rfl rfl ag3 hb2 rfl) <| .k 2 1 [(7, .pointer (some ⟨b4, 0, none⟩))] (by kernel_rfl) <| .v 3 8 rfl rfl rfl rfl (lb1 0 (.int .i64 x1_.f0) rfl rfl ag3 hb4 rfl) <| .k 4 2 [(9, .bool (x0_.f0 == x1_.f0)), (10, .bool (x0_.f0 == x1_.f0))] (by kernel_rfl) .nil) (rest := [6, 7, 8, 9, 10, 11, 12]) hE (Agr.refl _) (fun a hE => ?_)
  by_cases c7 : x0_.f0 = x1_.f0
  · rw [if_pos c7] at H
    obtain ⟨J, hE⟩ := hE.norm [(0, .agg #[.int .i64 x0_.f0, .slice A0_1 x0_.f1.length c0_1]), (1, .agg #[.int .i64 x1_.f0, .slice A1_1 x1_.f1.length c1_1]), (2, .pointer (some ⟨b2, 0, none⟩)), (3, .pointer (some ⟨b4, 0, none⟩)), (4, .bool false), (10, .bool true)] (.cons rfl <| .cons rfl <| .cons rfl <| .cons rfl <| .cons rfl <| .cons (Eq.trans (b := .bool (x0_.f0 == x1_.f0)) rfl (congrArg Value.bool (beq_iff_eq.2 c7))) .nil)
    refine ops_chain (S := Agr _) (.k 6 1 [(11, .pointer (some ⟨b2, 1, none⟩))] (by kernel_rfl) <| .v 7 12 rfl rfl rfl rfl (lb1 1 (.slice A0_1 x0_.f1.length c0_1) rfl rfl ag22 hb2 rfl) <| .k 8 1 [(13, .pointer (some ⟨b4, 1, none⟩))] (by kernel_rfl) <| .v 9 14 rfl rfl rfl rfl (lb1 1 (.slice A1_1 x1_.f1.length c1_1) rfl rfl ag22 hb4 rfl) .nil) (rest := [10, 11, 12]) hE (Agr.refl _) (fun a hE => ?_)
    obtain ⟨t8, h9, H⟩ := Option.bind_eq_some_iff.mp H
    refine ops_eff 10 hE (some 15) rfl rfl rfl rfl (Eff.call en28 rfl [.slice A0_1 x0_.f1.length c0_1, .slice A1_1 x1_.f1.length c1_1] rfl (windroseref16_List.calls k x0_.f1 x1_.f1 _ _ _ _ _ _ _ hS.own.sub g0_1 g1_1 h9)) ?_
    rintro _ u10 a ⟨_, rfl, hC⟩ hE
    replace hS := hS.lent hC
    refine ops_chain (S := Agr _) (.k 11 2 [(16, .bool t8), (4, .bool t8)] (by kernel_rfl) .nil) (rest := []) hE (Agr.refl _) (fun a hE => ?_)
    refine ops_done ?_
    refine hK6 _ _ ?_
    refine wp_ret ?_
    replace hS := hS.tail
    replace hS := hS.tail
    obtain rfl := Option.some.inj H
    exact ret1 hE rfl (.tmp rfl .nil) ⟨_, rfl, _, rfl, hS⟩
  · rw [if_neg c7] at H
    obtain ⟨J, hE⟩ := hE.norm [(0, .agg #[.int .i64 x0_.f0, .slice A0_1 x0_.f1.length c0_1]), (1, .agg #[.int .i64 x1_.f0, .slice A1_1 x1_.f1.length c1_1]), (2, .pointer (some ⟨b2, 0, none⟩)), (3, .pointer (some ⟨b4, 0, none⟩)), (4, .bool false), (10, .bool false)] (.cons rfl <| .cons rfl <| .cons rfl <| .cons rfl <| .cons rfl <| .cons (Eq.trans (b := .bool (x0_.f0 == x1_.f0)) rfl (congrArg Value.bool (beq_eq_false_iff_ne.2 c7))) .nil)
    refine ops_chain (S := Agr _) (.k 6 7 [(11, undef), (12, undef), (13, undef), (14, undef), (15, undef), (16, .bool false), (4, .bool false)] (by kernel_rfl) .nil) (rest := []) hE (Agr.refl _) (fun a hE => ?_)
    refine ops_done ?_
    refine hK6 _ _ ?_
    refine wp_ret ?_
    replace hS := hS.tail
    replace hS := hS.tail
    obtain rfl := Option.some.inj H
    exact ret1 hE rfl (.tmp rfl .nil) ⟨_, rfl, _, rfl, hS⟩

end Go.Proofs.Ytilgmccdpddeoaa.SX
