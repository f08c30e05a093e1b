/- Functions of the program, what each computes (written by wip/s/sl.py). -/
import Derived.Test.YtilgmccdpddeoaaSX4
namespace Go.Proofs.Ytilgmccdpddeoaa.SX
open Go Go.RowKit Go.Proofs.Ytilgmccdpddeoaa.Sl
set_option linter.unusedVariables false
set_option linter.unusedSimpArgs false
/-! ### windrose/windroseref16.Prepare: function 26 -/
mutual
def windroseref16_Prepare.j15 : Nat → S24 → Int → Int → Bool → Option (S24 × (List S49) × Int)
  | 0, _, _, _, _ => none
  | k + 1, x0_, x1_, x2_, y14 => if y14 = true then (some (x0_, [], 1)) else (if x1_ < x0_.f0 then (some (x0_, [], 9)) else (windroseref16_Prepare.l44 k x0_ x1_ ([] : List S49) (w64 (x2_ - 1))))
def windroseref16_Prepare.l44 : Nat → S24 → Int → List S49 → Int → Option (S24 × (List S49) × Int)
  | 0, _, _, _, _ => none
  | k + 1, x0_, x1_, l42, x43 => if x43 < (x0_.f1.length : Int) then (if 0 ≤ x43 ∧ x43 < (x0_.f1.length : Int) then (if ((l42.length : Int) + ((1 : Nat) : Int)) * 80 ≤ 140737488355328 then (windroseref16_Prepare.l44 k x0_ x1_ (l42 ++ [(⟨(nth z49 x0_.f1 x43).f0, (⟨(nth z49 x0_.f1 x43).f1.f0, (nth z49 x0_.f1 x43).f1.f1, (nth z49 x0_.f1 x43).f1.f2, (nth z49 x0_.f1 x43).f1.f3, (nth z49 x0_.f1 x43).f1.f4, (nth z49 x0_.f1 x43).f1.f5, (nth z49 x0_.f1 x43).f1.f6⟩ : S28)⟩ : S49)]) (w64 (x43 + 1))) else (none)) else (none)) else (some ((⟨x1_, x0_.f1⟩ : S24), l42, 0))
end
theorem windroseref16_Prepare.j15_s (k : Nat) (x0_ : S24) (x1_ : Int) (x2_ : Int) (y14 : Bool) : windroseref16_Prepare.j15 (k + 1) x0_ x1_ x2_ y14 = (if y14 = true then (some (x0_, [], 1)) else (if x1_ < x0_.f0 then (some (x0_, [], 9)) else (windroseref16_Prepare.l44 k x0_ x1_ ([] : List S49) (w64 (x2_ - 1))))) := by kernel_rfl
theorem windroseref16_Prepare.l44_s (k : Nat) (x0_ : S24) (x1_ : Int) (l42 : List S49) (x43 : Int) : windroseref16_Prepare.l44 (k + 1) x0_ x1_ l42 x43 = (if x43 < (x0_.f1.length : Int) then (if 0 ≤ x43 ∧ x43 < (x0_.f1.length : Int) then (if ((l42.length : Int) + ((1 : Nat) : Int)) * 80 ≤ 140737488355328 then (windroseref16_Prepare.l44 k x0_ x1_ (l42 ++ [(⟨(nth z49 x0_.f1 x43).f0, (⟨(nth z49 x0_.f1 x43).f1.f0, (nth z49 x0_.f1 x43).f1.f1, (nth z49 x0_.f1 x43).f1.f2, (nth z49 x0_.f1 x43).f1.f3, (nth z49 x0_.f1 x43).f1.f4, (nth z49 x0_.f1 x43).f1.f5, (nth z49 x0_.f1 x43).f1.f6⟩ : S28)⟩ : S49)]) (w64 (x43 + 1))) else (none)) else (none)) else (some ((⟨x1_, x0_.f1⟩ : S24), l42, 0))) := by kernel_rfl
def windroseref16_Prepare.f (k : Nat) (x0_ : S24) (x1_ : Int) (x2_ : Int) : Option (S24 × (List S49) × Int) := if x1_ < 1 then (windroseref16_Prepare.j15 k x0_ x1_ x2_ true) else ((windroseref16_in.f x1_).bind fun t9 => (if t9 = true then (if x2_ < 1 then (windroseref16_Prepare.j15 k x0_ x1_ x2_ true) else (windroseref16_Prepare.j15 k x0_ x1_ x2_ (decide (x2_ > 257)))) else (windroseref16_Prepare.j15 k x0_ x1_ x2_ true)))
def windroseref16_Prepare.Post (W F : World) (r : S24 × (List S49) × Int) (v : Value) (w' : World) : Prop := ∃ (F' : World) (A0_1 : Option Addr) (c0_1 : Nat) (A1_0 : Option Addr) (c1_0 : Nat), v = .tuple #[.agg #[.int .i64 r.1.f0, .slice A0_1 r.1.f1.length c0_1], .slice A1_0 r.2.1.length c1_0, .int .i64 r.2.2] ∧ St W (mine W []) F w' F' [row k49 49 (.slice A1_0 r.2.1.length c1_0) r.2.1] ∧ Rd k49 F' A0_1 c0_1 r.1.f1
set_option maxHeartbeats 4000000 in
set_option maxRecDepth 100000 in
theorem windroseref16_Prepare.calls (k : Nat) (x0_ : S24) (x1_ : Int) (x2_ : Int) (A0_1 : Option Addr) (c0_1 : Nat) (r : S24 × (List S49) × Int) (W F : World) (hsub : Sub F W) (g0_1 : Rd k49 F A0_1 c0_1 x0_.f1) (H : windroseref16_Prepare.f k x0_ x1_ x2_ = some r) :
    Calls Try.prog 26 #[.agg #[.int .i64 x0_.f0, .slice A0_1 x0_.f1.length c0_1], .int .i64 x1_, .int .i64 x2_] W fun e w' => ∃ v, e = .returned v ∧ windroseref16_Prepare.Post W F r v w' := by
  have hS := St.start (Own.nil hsub)
  unfold windroseref16_Prepare.f at H
  refine enter (n := 54) rfl rfl rfl (Nat.le_of_ble_eq_true rfl) (fun a hE => ?_)
  refine wp_seq_k fun K1 hK1 => ?_
  refine plain (L := [0, 1, 2, 3]) rfl ?_
  refine ops_eff 0 hE (some 3) rfl rfl rfl rfl (e_box hS rfl rfl #[.int .i64 x0_.f0, .slice A0_1 x0_.f1.length c0_1] rfl) ?_
  rintro _ u3 a ⟨b2, rfl, hb2, hS, hg⟩ hE
  refine ops_eff 1 hE (some 6) rfl rfl rfl rfl (e_alloc hS rfl z24z #[.int .i64 0, .slice none 0 0] rfl) ?_
  rintro _ u5 a ⟨b4, rfl, hb4, hS, hg⟩ hE
  refine ops_chain (S := Agr _) (.k 2 2 [(7, .slice none 0 0), (8, .int .i64 0)] (by kernel_rfl) .nil) (rest := []) hE (Agr.refl _) (fun a hE => ?_)
  refine ops_done ?_
  refine hK1 _ _ ?_
  refine wp_seq_k fun K6 hK6 => ?_
  refine wp_seq_k fun K7 hK7 => ?_
  have J18 : ∀ kq16, kq16 ≤ k → ∀ (J : Nat → Value) (y14 : Bool) (a : Act) (w' : World), Env 54 (updL J [(0, .agg #[.int .i64 x0_.f0, .slice A0_1 x0_.f1.length c0_1]), (1, .int .i64 x1_), (2, .int .i64 x2_), (3, .pointer (some ⟨b2, 0, none⟩)), (6, .pointer (some ⟨b4, 0, none⟩)), (7, .slice none 0 0), (8, .int .i64 0), (25, .bool y14)]) a → St W (mine W []) F w' F [box b4 #[.int .i64 0, .slice none 0 0] 24, box b2 #[.int .i64 x0_.f0, .slice A0_1 x0_.f1.length c0_1] 24] → windroseref16_Prepare.j15 kq16 x0_ x1_ x2_ y14 = some r → K7 a w' := by
    intro kq16 hkq J y14 a u19 hE hS H
    cases kq16 with
    | zero => cases (show none = some r from H)
    | succ k17 =>
      rw [windroseref16_Prepare.j15_s] at H
      refine hK7 _ _ ?_
      by_cases c20 : y14 = true
      · rw [if_pos c20] at H
        refine cond_t hE (b := y14) rfl c20 ?_
        refine wp_seq_k fun K21 hK21 => ?_
        refine plain (L := [0, 1, 2, 3]) rfl ?_
        have hb2 := hS.blk_at (i := 1) rfl
        refine ops_chain (S := Agr _) (.v 0 26 rfl rfl rfl rfl (lbn 0 [.int .i64 x0_.f0, .slice A0_1 x0_.f1.length c0_1] rfl rfl ag24 sz24 hb2 rfl) .nil) (rest := [1, 2, 3]) hE (Agr.refl _) (fun a hE => ?_)
        refine ops_eff 1 hE none rfl rfl rfl rfl (e_store (off := 0) hS rfl rfl rfl sz24 (Nat.le_of_ble_eq_true rfl) (all_one rfl) #[.int .i64 x0_.f0, .slice A0_1 x0_.f1.length c0_1] rfl) ?_
        rintro _ u22 a ⟨rfl, hb4, hS, hz⟩ hE
        refine ops_chain (S := Agr _) (.k 2 2 [(7, .slice none 0 0), (8, .int .i64 1)] (by kernel_rfl) .nil) (rest := []) hE (Agr.refl _) (fun a hE => ?_)
        refine ops_done ?_
        refine hK21 _ _ ?_
        refine wp_ret (then_ret ?_)
        replace hS := hS.nilrow k49 49
        replace hS := hS.front 1 rfl
        replace hS := hS.tail
        replace hS := hS.front 1 rfl
        replace hS := hS.tail
        obtain rfl := Option.some.inj H
        exact retN hE rfl (of_decide_eq_true rfl) (.cell rfl (res_blk [.int .i64 x0_.f0, .slice A0_1 x0_.f1.length c0_1] ag24 sz24 hb4 rfl) (.tmp rfl (.tmp rfl .nil))) ⟨_, rfl, _, _, _, _, _, rfl, hS, g0_1⟩
      · rw [if_neg c20] at H
        refine cond_f hE (b := y14) rfl (eq_false_of_ne_true c20) ?_
        refine wp_skip ?_
        refine hK6 _ _ ?_
        refine wp_seq_k fun K24 hK24 => ?_
        refine wp_seq_k fun K25 hK25 => ?_
        refine plain (L := [0, 1, 2, 3]) rfl ?_
        have hb2 := hS.blk_at (i := 1) rfl
        refine ops_chain (S := Agr _) (.k 0 2 [(27, .int .i64 x1_), (28, .pointer (some ⟨b2, 0, none⟩))] (by kernel_rfl) <| .v 2 29 rfl rfl rfl rfl (lb1 0 (.int .i64 x0_.f0) rfl rfl ag3 hb2 rfl) <| .k 3 1 [(30, .bool (decide (x1_ < x0_.f0)))] (by kernel_rfl) .nil) (rest := []) hE (Agr.refl _) (fun a hE => ?_)
        refine ops_done ?_
        refine hK25 _ _ ?_
        by_cases c26 : x1_ < x0_.f0
        · rw [if_pos c26] at H
          refine cond_t hE (b := (decide (x1_ < x0_.f0))) rfl (decide_eq_true c26) ?_
          refine wp_seq_k fun K27 hK27 => ?_
          refine plain (L := [0, 1, 2, 3]) rfl ?_
          refine ops_chain (S := Agr _) (.v 0 31 rfl rfl rfl rfl (lbn 0 [.int .i64 x0_.f0, .slice A0_1 x0_.f1.length c0_1] rfl rfl ag24 sz24 hb2 rfl) .nil) (rest := [1, 2, 3]) hE (Agr.refl _) (fun a hE => ?_)
          refine ops_eff 1 hE none rfl rfl rfl rfl (e_store (off := 0) hS rfl rfl rfl sz24 (Nat.le_of_ble_eq_true rfl) (all_one rfl) #[.int .i64 x0_.f0, .slice A0_1 x0_.f1.length c0_1] rfl) ?_
          rintro _ u28 a ⟨rfl, hb4, hS, hz⟩ hE
          refine ops_chain (S := Agr _) (.k 2 2 [(7, .slice none 0 0), (8, .int .i64 9)] (by kernel_rfl) .nil) (rest := []) hE (Agr.refl _) (fun a hE => ?_)
          refine ops_done ?_
          refine hK27 _ _ ?_
          refine wp_ret (then_ret ?_)
          replace hS := hS.nilrow k49 49
          replace hS := hS.front 1 rfl
          replace hS := hS.tail
          replace hS := hS.front 1 rfl
          replace hS := hS.tail
          obtain rfl := Option.some.inj H
          exact retN hE rfl (of_decide_eq_true rfl) (.cell rfl (res_blk [.int .i64 x0_.f0, .slice A0_1 x0_.f1.length c0_1] ag24 sz24 hb4 rfl) (.tmp rfl (.tmp rfl .nil))) ⟨_, rfl, _, _, _, _, _, rfl, hS, g0_1⟩
        · rw [if_neg c26] at H
          refine cond_f hE (b := (decide (x1_ < x0_.f0))) rfl (decide_eq_false c26) ?_
          refine wp_skip ?_
          refine hK24 _ _ ?_
          refine wp_seq_k fun K30 hK30 => ?_
          refine plain (L := [0, 1, 2]) rfl ?_
          refine ops_chain (S := Agr _) (.k 0 2 [(32, .int .i64 x1_), (33, .pointer (some ⟨b2, 0, none⟩))] (by kernel_rfl) .nil) (rest := [2]) hE (Agr.refl _) (fun a hE => ?_)
          replace hS := hS.front 1 rfl
          refine ops_eff 2 hE none rfl rfl rfl rfl (e_store (off := 0) hS rfl rfl rfl sz3 (Nat.le_of_ble_eq_true rfl) (all_one rfl) #[.int .i64 x1_, .slice A0_1 x0_.f1.length c0_1] rfl) ?_
          rintro _ u31 a ⟨rfl, hb2, hS, hz⟩ hE
          refine ops_done ?_
          refine hK30 _ _ ?_
          refine wp_seq_k fun K32 hK32 => ?_
          refine plain (L := [0, 1]) rfl ?_
          refine ops_eff 0 hE (some 34) rfl rfl rfl rfl (e_lit (d := k49) (e := 49) hS [] ([] : List S49) (.nil) rfl rfl rfl rfl (by kernel_rfl)) ?_
          rintro _ u33 a ⟨A34, c35, rfl, hS, hg⟩ hE
          refine ops_chain (S := Agr _) (.k 1 1 [(9, .slice A34 (([] : List S49).length) c35)] (by kernel_rfl) .nil) (rest := []) hE (Agr.refl _) (fun a hE => ?_)
          refine ops_done ?_
          refine hK32 _ _ ?_
          refine wp_seq_k fun K37 hK37 => ?_
          refine wp_seq_k fun K38 hK38 => ?_
          refine plain (L := [0, 1, 2]) rfl ?_
          refine ops_chain (S := Agr _) (.k 0 3 [(35, .int .i64 x2_), (36, .int .i64 (w64 (x2_ - 1))), (10, .int .i64 (w64 (x2_ - 1)))] (by kernel_rfl) .nil) (rest := []) hE (Agr.refl _) (fun a hE => ?_)
          refine ops_done ?_
          refine hK38 _ _ ?_
          refine wp_block ?_
          replace hS := hS.front 2 rfl
          replace hS := hS.front 2 rfl
          obtain ⟨J, hE⟩ := hE.norm [(0, .agg #[.int .i64 x0_.f0, .slice A0_1 x0_.f1.length c0_1]), (1, .int .i64 x1_), (2, .int .i64 x2_), (3, .pointer (some ⟨b2, 0, none⟩)), (6, .pointer (some ⟨b4, 0, none⟩)), (7, .slice none 0 0), (8, .int .i64 0), (9, .slice A34 (([] : List S49).length) c35), (10, .int .i64 (w64 (x2_ - 1))), (25, .bool y14), (30, .bool (decide (x1_ < x0_.f0)))] (.cons rfl <| .cons rfl <| .cons rfl <| .cons rfl <| .cons rfl <| .cons rfl <| .cons rfl <| .cons rfl <| .cons rfl <| .cons rfl <| .cons rfl .nil)
          refine wp_loop_ghost (fun kq45 a w' => ∃ (J : Nat → Value) (A40 : Option Addr) (c41 : Nat) (l42 : List S49) (x43 : Int), Env 54 (updL J [(0, .agg #[.int .i64 x0_.f0, .slice A0_1 x0_.f1.length c0_1]), (1, .int .i64 x1_), (2, .int .i64 x2_), (3, .pointer (some ⟨b2, 0, none⟩)), (6, .pointer (some ⟨b4, 0, none⟩)), (7, .slice none 0 0), (8, .int .i64 0), (9, .slice A40 l42.length c41), (10, .int .i64 x43), (25, .bool y14), (30, .bool (decide (x1_ < x0_.f0)))]) a ∧ St W (mine W []) F w' F [box b2 #[.int .i64 x1_, .slice A0_1 x0_.f1.length c0_1] 24, box b4 #[.int .i64 0, .slice none 0 0] 24, row k49 49 (.slice A40 l42.length c41) l42] ∧  windroseref16_Prepare.l44 kq45 x0_ x1_ l42 x43 = some r) k17 ⟨J, A34, c35, ([] : List S49), (w64 (x2_ - 1)), hE, hS, H⟩ ?_
          rintro kq45 a u47 ⟨J, A40, c41, l42, x43, hE, hS, H⟩
          cases kq45 with
          | zero => cases (show none = some r from H)
          | succ k46 =>
            rw [windroseref16_Prepare.l44_s] at H
            refine wp_seq_k fun K48 hK48 => ?_
            refine wp_seq_k fun K49 hK49 => ?_
            refine plain (L := [0, 1, 2, 3, 4]) rfl ?_
            have hb2 := hS.blk_at (i := 0) rfl
            refine ops_chain (S := Agr _) (.k 0 2 [(37, .int .i64 x43), (38, .pointer (some ⟨b2, 1, none⟩))] (by kernel_rfl) <| .v 2 39 rfl rfl rfl rfl (lb1 1 (.slice A0_1 x0_.f1.length c0_1) rfl rfl ag22 hb2 rfl) <| .v 3 40 rfl rfl rfl rfl (YA.s (len_sl rfl rfl ud22)) <| .k 4 1 [(41, .bool (decide (x43 < (x0_.f1.length : Int))))] (by kernel_rfl) .nil) (rest := []) hE (Agr.refl _) (fun a hE => ?_)
            refine ops_done ?_
            refine hK49 _ _ ?_
            by_cases c50 : x43 < (x0_.f1.length : Int)
            · rw [if_pos c50] at H
              refine cond_t hE (b := (decide (x43 < (x0_.f1.length : Int)))) rfl (decide_eq_true c50) ?_
              refine wp_skip ?_
              refine hK48 _ _ ?_
              refine wp_seq_k fun K51 hK51 => ?_
              refine wp_block ?_
              refine plain (L := [0, 1, 2, 3, 4, 5, 6, 7, 8]) rfl ?_
              by_cases c52 : 0 ≤ x43 ∧ x43 < (x0_.f1.length : Int)
              rotate_left
              · rw [if_neg c52] at H; cases H
              rw [if_pos c52] at H
              obtain ⟨ad53, rfl⟩ := g0_1.addr c52.1 c52.2
              obtain ⟨cs55, ⟨A57, c58, rfl, g59⟩, hc56⟩ := g0_1.el z49 x43 c52.1 c52.2
              refine ops_chain (S := Agr _) (.k 0 2 [(44, .slice A40 l42.length c41), (45, .pointer (some ⟨b2, 1, none⟩))] (by kernel_rfl) <| .v 2 46 rfl rfl rfl rfl (lb1 1 (.slice (some ad53) x0_.f1.length c0_1) rfl rfl ag22 hb2 rfl) <| .k 3 1 [(47, .int .i64 x43)] (by kernel_rfl) <| .v 4 48 rfl rfl rfl rfl (YA.s (ix 8 rfl rfl rfl ud22 sz49 c52.1 c52.2)) <| .v 5 49 rfl rfl rfl rfl (lfn [.int .i64 ((nth z49 x0_.f1 x43).f0), .int .i64 ((nth z49 x0_.f1 x43).f1.f0), .int .i64 ((nth z49 x0_.f1 x43).f1.f1), .int .i64 ((nth z49 x0_.f1 x43).f1.f2), .int .i64 ((nth z49 x0_.f1 x43).f1.f3), .int .i64 ((nth z49 x0_.f1 x43).f1.f4), .int .i64 ((nth z49 x0_.f1 x43).f1.f5), .slice A57 (((nth z49 x0_.f1 x43).f1.f6).length) c58] rfl rfl ag49 sz49 hS.own.sub hc56) .nil) (rest := [6, 7, 8]) hE (Agr.refl _) (fun a hE => ?_)
              refine ops_eff 6 hE (some 50) rfl rfl rfl rfl (e_lit (d := k49) (e := 49) hS [(0, .agg #[.int .i64 ((nth z49 x0_.f1 x43).f0), .int .i64 ((nth z49 x0_.f1 x43).f1.f0), .int .i64 ((nth z49 x0_.f1 x43).f1.f1), .int .i64 ((nth z49 x0_.f1 x43).f1.f2), .int .i64 ((nth z49 x0_.f1 x43).f1.f3), .int .i64 ((nth z49 x0_.f1 x43).f1.f4), .int .i64 ((nth z49 x0_.f1 x43).f1.f5), .slice A57 (((nth z49 x0_.f1 x43).f1.f6).length) c58])] [(⟨(nth z49 x0_.f1 x43).f0, (⟨(nth z49 x0_.f1 x43).f1.f0, (nth z49 x0_.f1 x43).f1.f1, (nth z49 x0_.f1 x43).f1.f2, (nth z49 x0_.f1 x43).f1.f3, (nth z49 x0_.f1 x43).f1.f4, (nth z49 x0_.f1 x43).f1.f5, (nth z49 x0_.f1 x43).f1.f6⟩ : S28)⟩ : S49)] (.cons ⟨_, _, rfl, g59⟩ .nil) rfl rfl rfl rfl (by kernel_rfl)) ?_
              rintro _ u60 a ⟨A61, c62, rfl, hS, hg⟩ hE
              by_cases c64 : ((l42.length : Int) + ((1 : Nat) : Int)) * 80 ≤ 140737488355328
              rotate_left
              · rw [if_neg c64] at H; cases H
              rw [if_pos c64] at H
              replace hS := hS.front 3 rfl
              refine ops_eff 7 hE (some 51) rfl rfl rfl rfl (e_append (d := k49) hS rfl rfl rfl ud22 in49 rfl rfl rfl (row_src (hS.row_at (i := 1) rfl)) c64) ?_
              rintro _ u67 a ⟨A65, c66, rfl, hS, hz⟩ hE
              refine ops_chain (S := Agr _) (.k 8 1 [(9, .slice A65 ((l42 ++ [(⟨(nth z49 x0_.f1 x43).f0, (⟨(nth z49 x0_.f1 x43).f1.f0, (nth z49 x0_.f1 x43).f1.f1, (nth z49 x0_.f1 x43).f1.f2, (nth z49 x0_.f1 x43).f1.f3, (nth z49 x0_.f1 x43).f1.f4, (nth z49 x0_.f1 x43).f1.f5, (nth z49 x0_.f1 x43).f1.f6⟩ : S28)⟩ : S49)]).length) c66)] (by kernel_rfl) .nil) (rest := []) hE (Agr.refl _) (fun a hE => ?_)
              refine ops_done ?_
              refine hK51 _ _ ?_
              refine plain (L := [0, 1, 2]) rfl ?_
              refine ops_chain (S := Agr _) (.k 0 3 [(42, .int .i64 x43), (43, .int .i64 (w64 (x43 + 1))), (10, .int .i64 (w64 (x43 + 1)))] (by kernel_rfl) .nil) (rest := []) hE (Agr.refl _) (fun a hE => ?_)
              refine ops_done ?_
              replace hS := hS.front 1 rfl
              replace hS := hS.tail
              replace hS := hS.front 2 rfl
              replace hS := hS.front 2 rfl
              obtain ⟨J, hE⟩ := hE.norm [(0, .agg #[.int .i64 x0_.f0, .slice (some ad53) x0_.f1.length c0_1]), (1, .int .i64 x1_), (2, .int .i64 x2_), (3, .pointer (some ⟨b2, 0, none⟩)), (6, .pointer (some ⟨b4, 0, none⟩)), (7, .slice none 0 0), (8, .int .i64 0), (9, .slice A65 ((l42 ++ [(⟨(nth z49 x0_.f1 x43).f0, (⟨(nth z49 x0_.f1 x43).f1.f0, (nth z49 x0_.f1 x43).f1.f1, (nth z49 x0_.f1 x43).f1.f2, (nth z49 x0_.f1 x43).f1.f3, (nth z49 x0_.f1 x43).f1.f4, (nth z49 x0_.f1 x43).f1.f5, (nth z49 x0_.f1 x43).f1.f6⟩ : S28)⟩ : S49)]).length) c66), (10, .int .i64 (w64 (x43 + 1))), (25, .bool y14), (30, .bool (decide (x1_ < x0_.f0)))] (.cons rfl <| .cons rfl <| .cons rfl <| .cons rfl <| .cons rfl <| .cons rfl <| .cons rfl <| .cons rfl <| .cons rfl <| .cons rfl <| .cons rfl .nil)
              exact then_n ⟨k46, by omega, J, A65, c66, (l42 ++ [(⟨(nth z49 x0_.f1 x43).f0, (⟨(nth z49 x0_.f1 x43).f1.f0, (nth z49 x0_.f1 x43).f1.f1, (nth z49 x0_.f1 x43).f1.f2, (nth z49 x0_.f1 x43).f1.f3, (nth z49 x0_.f1 x43).f1.f4, (nth z49 x0_.f1 x43).f1.f5, (nth z49 x0_.f1 x43).f1.f6⟩ : S28)⟩ : S49)]), (w64 (x43 + 1)), hE, hS, H⟩
            · rw [if_neg c50] at H
              refine cond_f hE (b := (decide (x43 < (x0_.f1.length : Int)))) rfl (decide_eq_false c50) ?_
              refine wp_exit ?_
              refine hK37 _ _ ?_
              refine wp_seq_k fun K68 hK68 => ?_
              refine plain (L := [0, 1, 2, 3, 4]) rfl ?_
              refine ops_chain (S := Agr _) (.v 0 52 rfl rfl rfl rfl (lbn 0 [.int .i64 x1_, .slice A0_1 x0_.f1.length c0_1] rfl rfl ag24 sz24 hb2 rfl) <| .k 1 1 [(53, .slice A40 l42.length c41)] (by kernel_rfl) .nil) (rest := [2, 3, 4]) hE (Agr.refl _) (fun a hE => ?_)
              replace hS := hS.front 1 rfl
              refine ops_eff 2 hE none rfl rfl rfl rfl (e_store (off := 0) hS rfl rfl rfl sz24 (Nat.le_of_ble_eq_true rfl) (all_one rfl) #[.int .i64 x1_, .slice A0_1 x0_.f1.length c0_1] rfl) ?_
              rintro _ u69 a ⟨rfl, hb4, hS, hz⟩ hE
              refine ops_chain (S := Agr _) (.k 3 2 [(7, .slice A40 l42.length c41), (8, .int .i64 0)] (by kernel_rfl) .nil) (rest := []) hE (Agr.refl _) (fun a hE => ?_)
              refine ops_done ?_
              refine hK68 _ _ ?_
              refine wp_ret ?_
              replace hS := hS.tail
              replace hS := hS.tail
              obtain rfl := Option.some.inj H
              exact retN hE rfl (of_decide_eq_true rfl) (.cell rfl (res_blk [.int .i64 x1_, .slice A0_1 x0_.f1.length c0_1] ag24 sz24 hb4 rfl) (.tmp rfl (.tmp rfl .nil))) ⟨_, rfl, _, _, _, _, _, rfl, hS, g0_1⟩
  refine plain (L := [0, 1, 2, 3, 4, 5, 6, 7, 8, 9, 10, 11, 12, 13, 14]) rfl ?_
  refine ops_chain (S := Agr _) (.k 0 3 [(11, .int .i64 x1_), (12, .bool (decide (x1_ < 1))), (13, .bool (decide (x1_ < 1)))] (by kernel_rfl) .nil) (rest := [3, 4, 5, 6, 7, 8, 9, 10, 11, 12, 13, 14]) hE (Agr.refl _) (fun a hE => ?_)
  by_cases c8 : x1_ < 1
  · rw [if_pos c8] at H
    obtain ⟨J, hE⟩ := hE.norm [(0, .agg #[.int .i64 x0_.f0, .slice A0_1 x0_.f1.length c0_1]), (1, .int .i64 x1_), (2, .int .i64 x2_), (3, .pointer (some ⟨b2, 0, none⟩)), (6, .pointer (some ⟨b4, 0, none⟩)), (7, .slice none 0 0), (8, .int .i64 0), (13, .bool true)] (.cons rfl <| .cons rfl <| .cons rfl <| .cons rfl <| .cons rfl <| .cons rfl <| .cons rfl <| .cons (Eq.trans (b := .bool (decide (x1_ < 1))) rfl (congrArg Value.bool (decide_eq_true c8))) .nil)
    refine ops_chain (S := Agr _) (.k 3 12 [(14, undef), (15, undef), (16, undef), (17, .bool true), (18, .bool true), (19, undef), (20, undef), (21, .bool true), (22, .bool true), (23, undef), (24, undef), (25, .bool true)] (by kernel_rfl) .nil) (rest := []) hE (Agr.refl _) (fun a hE => ?_)
    refine ops_done ?_
    obtain ⟨J, hE⟩ := hE.norm [(0, .agg #[.int .i64 x0_.f0, .slice A0_1 x0_.f1.length c0_1]), (1, .int .i64 x1_), (2, .int .i64 x2_), (3, .pointer (some ⟨b2, 0, none⟩)), (6, .pointer (some ⟨b4, 0, none⟩)), (7, .slice none 0 0), (8, .int .i64 0), (25, .bool true)] (.cons rfl <| .cons rfl <| .cons rfl <| .cons rfl <| .cons rfl <| .cons rfl <| .cons rfl <| .cons rfl .nil)
    exact J18 _ (by omega) J true _ _ hE hS H
  · rw [if_neg c8] at H
    obtain ⟨J, hE⟩ := hE.norm [(0, .agg #[.int .i64 x0_.f0, .slice A0_1 x0_.f1.length c0_1]), (1, .int .i64 x1_), (2, .int .i64 x2_), (3, .pointer (some ⟨b2, 0, none⟩)), (6, .pointer (some ⟨b4, 0, none⟩)), (7, .slice none 0 0), (8, .int .i64 0), (13, .bool false)] (.cons rfl <| .cons rfl <| .cons rfl <| .cons rfl <| .cons rfl <| .cons rfl <| .cons rfl <| .cons (Eq.trans (b := .bool (decide (x1_ < 1))) rfl (congrArg Value.bool (decide_eq_false c8))) .nil)
    refine ops_chain (S := Agr _) (.k 3 1 [(14, .int .i64 x1_)] (by kernel_rfl) .nil) (rest := [4, 5, 6, 7, 8, 9, 10, 11, 12, 13, 14]) hE (Agr.refl _) (fun a hE => ?_)
    obtain ⟨t9, h10, H⟩ := Option.bind_eq_some_iff.mp H
    refine ops_eff 4 hE (some 15) rfl rfl rfl rfl (Eff.call en75 rfl [.int .i64 x1_] rfl (windroseref16_in.calls x1_ _ _ _ hS.own.sub h10)) ?_
    rintro _ u11 a ⟨_, rfl, hC⟩ hE
    replace hS := hS.lent hC
    refine ops_chain (S := Agr _) (.k 5 3 [(16, .bool (!t9)), (17, .bool (!t9)), (18, .bool (!t9))] (by kernel_rfl) .nil) (rest := [8, 9, 10, 11, 12, 13, 14]) hE (Agr.refl _) (fun a hE => ?_)
    by_cases c12 : t9 = true
    · rw [if_pos c12] at H
      obtain ⟨J, hE⟩ := hE.norm [(0, .agg #[.int .i64 x0_.f0, .slice A0_1 x0_.f1.length c0_1]), (1, .int .i64 x1_), (2, .int .i64 x2_), (3, .pointer (some ⟨b2, 0, none⟩)), (6, .pointer (some ⟨b4, 0, none⟩)), (7, .slice none 0 0), (8, .int .i64 0), (14, .int .i64 x1_), (15, .bool true), (16, .bool false), (18, .bool false)] (.cons rfl <| .cons rfl <| .cons rfl <| .cons rfl <| .cons rfl <| .cons rfl <| .cons rfl <| .cons rfl <| .cons (Eq.trans (b := .bool t9) rfl (congrArg Value.bool c12)) <| .cons (Eq.trans (b := .bool (!t9)) rfl (congrArg Value.bool (congrArg not c12))) <| .cons (Eq.trans (b := .bool (!t9)) rfl (congrArg Value.bool (congrArg not c12))) .nil)
      refine ops_chain (S := Agr _) (.k 8 4 [(19, .int .i64 x2_), (20, .bool (decide (x2_ < 1))), (21, .bool (decide (x2_ < 1))), (22, .bool (decide (x2_ < 1)))] (by kernel_rfl) .nil) (rest := [12, 13, 14]) hE (Agr.refl _) (fun a hE => ?_)
      by_cases c13 : x2_ < 1
      · rw [if_pos c13] at H
        obtain ⟨J, hE⟩ := hE.norm [(0, .agg #[.int .i64 x0_.f0, .slice A0_1 x0_.f1.length c0_1]), (1, .int .i64 x1_), (2, .int .i64 x2_), (3, .pointer (some ⟨b2, 0, none⟩)), (6, .pointer (some ⟨b4, 0, none⟩)), (7, .slice none 0 0), (8, .int .i64 0), (14, .int .i64 x1_), (15, .bool true), (16, .bool false), (19, .int .i64 x2_), (20, .bool true), (22, .bool true)] (.cons rfl <| .cons rfl <| .cons rfl <| .cons rfl <| .cons rfl <| .cons rfl <| .cons rfl <| .cons rfl <| .cons rfl <| .cons rfl <| .cons rfl <| .cons (Eq.trans (b := .bool (decide (x2_ < 1))) rfl (congrArg Value.bool (decide_eq_true c13))) <| .cons (Eq.trans (b := .bool (decide (x2_ < 1))) rfl (congrArg Value.bool (decide_eq_true c13))) .nil)
        refine ops_chain (S := Agr _) (.k 12 3 [(23, undef), (24, undef), (25, .bool true)] (by kernel_rfl) .nil) (rest := []) hE (Agr.refl _) (fun a hE => ?_)
        refine ops_done ?_
        obtain ⟨J, hE⟩ := hE.norm [(0, .agg #[.int .i64 x0_.f0, .slice A0_1 x0_.f1.length c0_1]), (1, .int .i64 x1_), (2, .int .i64 x2_), (3, .pointer (some ⟨b2, 0, none⟩)), (6, .pointer (some ⟨b4, 0, none⟩)), (7, .slice none 0 0), (8, .int .i64 0), (25, .bool true)] (.cons rfl <| .cons rfl <| .cons rfl <| .cons rfl <| .cons rfl <| .cons rfl <| .cons rfl <| .cons rfl .nil)
        exact J18 _ (by omega) J true _ _ hE hS H
      · rw [if_neg c13] at H
        obtain ⟨J, hE⟩ := hE.norm [(0, .agg #[.int .i64 x0_.f0, .slice A0_1 x0_.f1.length c0_1]), (1, .int .i64 x1_), (2, .int .i64 x2_), (3, .pointer (some ⟨b2, 0, none⟩)), (6, .pointer (some ⟨b4, 0, none⟩)), (7, .slice none 0 0), (8, .int .i64 0), (14, .int .i64 x1_), (15, .bool true), (16, .bool false), (19, .int .i64 x2_), (20, .bool false), (22, .bool false)] (.cons rfl <| .cons rfl <| .cons rfl <| .cons rfl <| .cons rfl <| .cons rfl <| .cons rfl <| .cons rfl <| .cons rfl <| .cons rfl <| .cons rfl <| .cons (Eq.trans (b := .bool (decide (x2_ < 1))) rfl (congrArg Value.bool (decide_eq_false c13))) <| .cons (Eq.trans (b := .bool (decide (x2_ < 1))) rfl (congrArg Value.bool (decide_eq_false c13))) .nil)
        refine ops_chain (S := Agr _) (.k 12 3 [(23, .int .i64 x2_), (24, .bool (decide (x2_ > 257))), (25, .bool (decide (x2_ > 257)))] (by kernel_rfl) .nil) (rest := []) hE (Agr.refl _) (fun a hE => ?_)
        refine ops_done ?_
        obtain ⟨J, hE⟩ := hE.norm [(0, .agg #[.int .i64 x0_.f0, .slice A0_1 x0_.f1.length c0_1]), (1, .int .i64 x1_), (2, .int .i64 x2_), (3, .pointer (some ⟨b2, 0, none⟩)), (6, .pointer (some ⟨b4, 0, none⟩)), (7, .slice none 0 0), (8, .int .i64 0), (25, .bool (decide (x2_ > 257)))] (.cons rfl <| .cons rfl <| .cons rfl <| .cons rfl <| .cons rfl <| .cons rfl <| .cons rfl <| .cons rfl .nil)
        exact J18 _ (by omega) J (decide (x2_ > 257)) _ _ hE hS H
    · rw [if_neg c12] at H
      obtain ⟨J, hE⟩ := hE.norm [(0, .agg #[.int .i64 x0_.f0, .slice A0_1 x0_.f1.length c0_1]), (1, .int .i64 x1_), (2, .int .i64 x2_), (3, .pointer (some ⟨b2, 0, none⟩)), (6, .pointer (some ⟨b4, 0, none⟩)), (7, .slice none 0 0), (8, .int .i64 0), (14, .int .i64 x1_), (15, .bool false), (16, .bool true), (18, .bool true)] (.cons rfl <| .cons rfl <| .cons rfl <| .cons rfl <| .cons rfl <| .cons rfl <| .cons rfl <| .cons rfl <| .cons (Eq.trans (b := .bool t9) rfl (congrArg Value.bool (eq_false_of_ne_true c12))) <| .cons (Eq.trans (b := .bool (!t9)) rfl (congrArg Value.bool (congrArg not (eq_false_of_ne_true c12)))) <| .cons (Eq.trans (b := .bool (!t9)) rfl (congrArg Value.bool (congrArg not (eq_false_of_ne_true c12)))) .nil)
      refine ops_chain (S := Agr _) (.k 8 7 [(19, undef), (20, undef), (21, .bool true), (22, .bool true), (23, undef), (24, undef), (25, .bool true)] (by kernel_rfl) .nil) (rest := []) hE (Agr.refl _) (fun a hE => ?_)
      refine ops_done ?_
      obtain ⟨J, hE⟩ := hE.norm [(0, .agg #[.int .i64 x0_.f0, .slice A0_1 x0_.f1.length c0_1]), (1, .int .i64 x1_), (2, .int .i64 x2_), (3, .pointer (some ⟨b2, 0, none⟩)), (6, .pointer (some ⟨b4, 0, none⟩)), (7, .slice none 0 0), (8, .int .i64 0), (25, .bool true)] (.cons rfl <| .cons rfl <| .cons rfl <| .cons rfl <| .cons rfl <| .cons rfl <| .cons rfl <| .cons rfl .nil)
      exact J18 _ (by omega) J true _ _ hE hS H

/-! ### windrose/windroseref16.Accept: function 27 -/
mutual
def windroseref16_Accept.j21 : Nat → S24 → Int → Int → S28 → Bool → Option (S24 × Int)
  | 0, _, _, _, _, _ => none
  | k + 1, x0_, x1_, x2_, x3_, y20 => if y20 = true then (some (x0_, 1)) else (if x1_ < x0_.f0 then (some (x0_, 9)) else (windroseref16_Accept.l46 k x0_ x1_ x2_ x3_ ([] : List S49) 0))
def windroseref16_Accept.l46 : Nat → S24 → Int → Int → S28 → List S49 → Int → Option (S24 × Int)
  | 0, _, _, _, _, _, _ => none
  | k + 1, x0_, x1_, x2_, x3_, l44, x45 => if x45 < (x0_.f1.length : Int) then (windroseref16_Accept.j54 k x0_ x1_ x2_ x3_ l44 x45 true) else (windroseref16_Accept.j54 k x0_ x1_ x2_ x3_ l44 x45 (decide (x45 < x2_)))
def windroseref16_Accept.j54 : Nat → S24 → Int → Int → S28 → List S49 → Int → Bool → Option (S24 × Int)
  | 0, _, _, _, _, _, _, _ => none
  | k + 1, x0_, x1_, x2_, x3_, l44, x45, y53 => if y53 = true then (if x45 < (x0_.f1.length : Int) then (if 0 ≤ x45 ∧ x45 < (x0_.f1.length : Int) then (windroseref16_Accept.j88 k x0_ x1_ x2_ x3_ l44 x45 ((nth z49 x0_.f1 x45).f0) ((nth z49 x0_.f1 x45).f1.f0) ((nth z49 x0_.f1 x45).f1.f1) ((nth z49 x0_.f1 x45).f1.f2) ((nth z49 x0_.f1 x45).f1.f3) ((nth z49 x0_.f1 x45).f1.f4) ((nth z49 x0_.f1 x45).f1.f5) ((nth z49 x0_.f1 x45).f1.f6)) else (none)) else (windroseref16_Accept.j88 k x0_ x1_ x2_ x3_ l44 x45 0 0 0 0 0 0 0 [])) else (some ((⟨x1_, l44⟩ : S24), 0))
def windroseref16_Accept.j88 : Nat → S24 → Int → Int → S28 → List S49 → Int → Int → Int → Int → Int → Int → Int → Int → List Int → Option (S24 × Int)
  | 0, _, _, _, _, _, _, _, _, _, _, _, _, _, _ => none
  | k + 1, x0_, x1_, x2_, x3_, l44, x45, x77, x78, x79, x80, x81, x82, x83, l86 => if x45 = (w64 (x2_ - 1)) then (windroseref16_Accept.j108 k x0_ x1_ x2_ x3_ l44 x45 x1_ x3_.f0 x3_.f1 x3_.f2 x3_.f3 x3_.f4 x3_.f5 x3_.f6) else (windroseref16_Accept.j108 k x0_ x1_ x2_ x3_ l44 x45 x77 x78 x79 x80 x81 x82 x83 l86)
def windroseref16_Accept.j108 : Nat → S24 → Int → Int → S28 → List S49 → Int → Int → Int → Int → Int → Int → Int → Int → List Int → Option (S24 × Int)
  | 0, _, _, _, _, _, _, _, _, _, _, _, _, _, _ => none
  | k + 1, x0_, x1_, x2_, x3_, l44, x45, x97, x98, x99, x100, x101, x102, x103, l106 => if ((l44.length : Int) + ((1 : Nat) : Int)) * 80 ≤ 140737488355328 then (windroseref16_Accept.l46 k x0_ x1_ x2_ x3_ (l44 ++ [(⟨x97, (⟨x98, x99, x100, x101, x102, x103, l106⟩ : S28)⟩ : S49)]) (w64 (x45 + 1))) else (none)
end
theorem windroseref16_Accept.j21_s (k : Nat) (x0_ : S24) (x1_ : Int) (x2_ : Int) (x3_ : S28) (y20 : Bool) : windroseref16_Accept.j21 (k + 1) x0_ x1_ x2_ x3_ y20 = (if y20 = true then (some (x0_, 1)) else (if x1_ < x0_.f0 then (some (x0_, 9)) else (windroseref16_Accept.l46 k x0_ x1_ x2_ x3_ ([] : List S49) 0))) := by kernel_rfl
theorem windroseref16_Accept.l46_s (k : Nat) (x0_ : S24) (x1_ : Int) (x2_ : Int) (x3_ : S28) (l44 : List S49) (x45 : Int) : windroseref16_Accept.l46 (k + 1) x0_ x1_ x2_ x3_ l44 x45 = (if x45 < (x0_.f1.length : Int) then (windroseref16_Accept.j54 k x0_ x1_ x2_ x3_ l44 x45 true) else (windroseref16_Accept.j54 k x0_ x1_ x2_ x3_ l44 x45 (decide (x45 < x2_)))) := by kernel_rfl
theorem windroseref16_Accept.j54_s (k : Nat) (x0_ : S24) (x1_ : Int) (x2_ : Int) (x3_ : S28) (l44 : List S49) (x45 : Int) (y53 : Bool) : windroseref16_Accept.j54 (k + 1) x0_ x1_ x2_ x3_ l44 x45 y53 = (if y53 = true then (if x45 < (x0_.f1.length : Int) then (if 0 ≤ x45 ∧ x45 < (x0_.f1.length : Int) then (windroseref16_Accept.j88 k x0_ x1_ x2_ x3_ l44 x45 ((nth z49 x0_.f1 x45).f0) ((nth z49 x0_.f1 x45).f1.f0) ((nth z49 x0_.f1 x45).f1.f1) ((nth z49 x0_.f1 x45).f1.f2) ((nth z49 x0_.f1 x45).f1.f3) ((nth z49 x0_.f1 x45).f1.f4) ((nth z49 x0_.f1 x45).f1.f5) ((nth z49 x0_.f1 x45).f1.f6)) else (none)) else (windroseref16_Accept.j88 k x0_ x1_ x2_ x3_ l44 x45 0 0 0 0 0 0 0 [])) else (some ((⟨x1_, l44⟩ : S24), 0))) := by kernel_rfl
theorem windroseref16_Accept.j88_s (k : Nat) (x0_ : S24) (x1_ : Int) (x2_ : Int) (x3_ : S28) (l44 : List S49) (x45 : Int) (x77 : Int) (x78 : Int) (x79 : Int) (x80 : Int) (x81 : Int) (x82 : Int) (x83 : Int) (l86 : List Int) : windroseref16_Accept.j88 (k + 1) x0_ x1_ x2_ x3_ l44 x45 x77 x78 x79 x80 x81 x82 x83 l86 = (if x45 = (w64 (x2_ - 1)) then (windroseref16_Accept.j108 k x0_ x1_ x2_ x3_ l44 x45 x1_ x3_.f0 x3_.f1 x3_.f2 x3_.f3 x3_.f4 x3_.f5 x3_.f6) else (windroseref16_Accept.j108 k x0_ x1_ x2_ x3_ l44 x45 x77 x78 x79 x80 x81 x82 x83 l86)) := by kernel_rfl
theorem windroseref16_Accept.j108_s (k : Nat) (x0_ : S24) (x1_ : Int) (x2_ : Int) (x3_ : S28) (l44 : List S49) (x45 : Int) (x97 : Int) (x98 : Int) (x99 : Int) (x100 : Int) (x101 : Int) (x102 : Int) (x103 : Int) (l106 : List Int) : windroseref16_Accept.j108 (k + 1) x0_ x1_ x2_ x3_ l44 x45 x97 x98 x99 x100 x101 x102 x103 l106 = (if ((l44.length : Int) + ((1 : Nat) : Int)) * 80 ≤ 140737488355328 then (windroseref16_Accept.l46 k x0_ x1_ x2_ x3_ (l44 ++ [(⟨x97, (⟨x98, x99, x100, x101, x102, x103, l106⟩ : S28)⟩ : S49)]) (w64 (x45 + 1))) else (none)) := by kernel_rfl
def windroseref16_Accept.f (k : Nat) (x0_ : S24) (x1_ : Int) (x2_ : Int) (x3_ : S28) : Option (S24 × Int) := if x1_ < 1 then (windroseref16_Accept.j21 k x0_ x1_ x2_ x3_ true) else ((windroseref16_in.f x1_).bind fun t11 => (if t11 = true then (if x2_ < 1 then (windroseref16_Accept.j21 k x0_ x1_ x2_ x3_ true) else (if x2_ > 256 then (windroseref16_Accept.j21 k x0_ x1_ x2_ x3_ true) else ((windroseref16_Delta.f k x3_).bind fun t17 => (windroseref16_Accept.j21 k x0_ x1_ x2_ x3_ (!t17))))) else (windroseref16_Accept.j21 k x0_ x1_ x2_ x3_ true)))
def windroseref16_Accept.Post (W F : World) (r : S24 × Int) (v : Value) (w' : World) : Prop := ∃ (F' : World) (A0_1 : Option Addr) (c0_1 : Nat), v = .tuple #[.agg #[.int .i64 r.1.f0, .slice A0_1 r.1.f1.length c0_1], .int .i64 r.2] ∧ St W (mine W []) F w' F' [] ∧ Rd k49 F' A0_1 c0_1 r.1.f1
set_option maxHeartbeats 4000000 in
set_option maxRecDepth 100000 in
theorem windroseref16_Accept.calls (k : Nat) (x0_ : S24) (x1_ : Int) (x2_ : Int) (x3_ : S28) (A0_1 : Option Addr) (c0_1 : Nat) (A3_6 : Option Addr) (c3_6 : Nat) (r : S24 × Int) (W F : World) (hsub : Sub F W) (g0_1 : Rd k49 F A0_1 c0_1 x0_.f1) (g3_6 : Rd (Kn.int .i64) F A3_6 c3_6 x3_.f6) (H : windroseref16_Accept.f k x0_ x1_ x2_ x3_ = some r) :
    Calls Try.prog 27 #[.agg #[.int .i64 x0_.f0, .slice A0_1 x0_.f1.length c0_1], .int .i64 x1_, .int .i64 x2_, .agg #[.int .i64 x3_.f0, .int .i64 x3_.f1, .int .i64 x3_.f2, .int .i64 x3_.f3, .int .i64 x3_.f4, .int .i64 x3_.f5, .slice A3_6 x3_.f6.length c3_6]] W fun e w' => ∃ v, e = .returned v ∧ windroseref16_Accept.Post W F r v w' := by
  have hS := St.start (Own.nil hsub)
  unfold windroseref16_Accept.f at H
  refine enter (n := 77) rfl rfl rfl (Nat.le_of_ble_eq_true rfl) (fun a hE => ?_)
  refine wp_seq_k fun K1 hK1 => ?_
  refine plain (L := [0, 1, 2, 3]) rfl ?_
  refine ops_eff 0 hE (some 4) rfl rfl rfl rfl (e_box hS rfl rfl #[.int .i64 x0_.f0, .slice A0_1 x0_.f1.length c0_1] rfl) ?_
  rintro _ u3 a ⟨b2, rfl, hb2, hS, hg⟩ hE
  refine ops_eff 1 hE (some 7) rfl rfl rfl rfl (e_box hS rfl rfl #[.int .i64 x3_.f0, .int .i64 x3_.f1, .int .i64 x3_.f2, .int .i64 x3_.f3, .int .i64 x3_.f4, .int .i64 x3_.f5, .slice A3_6 x3_.f6.length c3_6] rfl) ?_
  rintro _ u5 a ⟨b4, rfl, hb4, hS, hg⟩ hE
  refine ops_eff 2 hE (some 8) rfl rfl rfl rfl (e_alloc hS rfl z24z #[.int .i64 0, .slice none 0 0] rfl) ?_
  rintro _ u7 a ⟨b6, rfl, hb6, hS, hg⟩ hE
  refine ops_chain (S := Agr _) (.k 3 1 [(9, .int .i64 0)] (by kernel_rfl) .nil) (rest := []) hE (Agr.refl _) (fun a hE => ?_)
  refine ops_done ?_
  refine hK1 _ _ ?_
  refine wp_seq_k fun K8 hK8 => ?_
  refine wp_seq_k fun K9 hK9 => ?_
  have J24 : ∀ kq22, kq22 ≤ k → ∀ (J : Nat → Value) (y20 : Bool) (a : Act) (w' : World), Env 77 (updL J [(0, .agg #[.int .i64 x0_.f0, .slice A0_1 x0_.f1.length c0_1]), (1, .int .i64 x1_), (2, .int .i64 x2_), (3, .agg #[.int .i64 x3_.f0, .int .i64 x3_.f1, .int .i64 x3_.f2, .int .i64 x3_.f3, .int .i64 x3_.f4, .int .i64 x3_.f5, .slice A3_6 x3_.f6.length c3_6]), (4, .pointer (some ⟨b2, 0, none⟩)), (7, .pointer (some ⟨b4, 0, none⟩)), (8, .pointer (some ⟨b6, 0, none⟩)), (9, .int .i64 0), (32, .bool y20)]) a → St W (mine W []) F w' F [box b6 #[.int .i64 0, .slice none 0 0] 24, box b4 #[.int .i64 x3_.f0, .int .i64 x3_.f1, .int .i64 x3_.f2, .int .i64 x3_.f3, .int .i64 x3_.f4, .int .i64 x3_.f5, .slice A3_6 x3_.f6.length c3_6] 28, box b2 #[.int .i64 x0_.f0, .slice A0_1 x0_.f1.length c0_1] 24] → windroseref16_Accept.j21 kq22 x0_ x1_ x2_ x3_ y20 = some r → K9 a w' := by
    intro kq22 hkq J y20 a u25 hE hS H
    cases kq22 with
    | zero => cases (show none = some r from H)
    | succ k23 =>
      rw [windroseref16_Accept.j21_s] at H
      refine hK9 _ _ ?_
      by_cases c26 : y20 = true
      · rw [if_pos c26] at H
        refine cond_t hE (b := y20) rfl c26 ?_
        refine wp_seq_k fun K27 hK27 => ?_
        refine plain (L := [0, 1, 2]) rfl ?_
        have hb2 := hS.blk_at (i := 2) rfl
        refine ops_chain (S := Agr _) (.v 0 33 rfl rfl rfl rfl (lbn 0 [.int .i64 x0_.f0, .slice A0_1 x0_.f1.length c0_1] rfl rfl ag24 sz24 hb2 rfl) .nil) (rest := [1, 2]) hE (Agr.refl _) (fun a hE => ?_)
        refine ops_eff 1 hE none rfl rfl rfl rfl (e_store (off := 0) hS rfl rfl rfl sz24 (Nat.le_of_ble_eq_true rfl) (all_one rfl) #[.int .i64 x0_.f0, .slice A0_1 x0_.f1.length c0_1] rfl) ?_
        rintro _ u28 a ⟨rfl, hb6, hS, hz⟩ hE
        refine ops_chain (S := Agr _) (.k 2 1 [(9, .int .i64 1)] (by kernel_rfl) .nil) (rest := []) hE (Agr.refl _) (fun a hE => ?_)
        refine ops_done ?_
        refine hK27 _ _ ?_
        refine wp_ret (then_ret ?_)
        replace hS := hS.tail
        replace hS := hS.tail
        replace hS := hS.tail
        obtain rfl := Option.some.inj H
        exact retN hE rfl (of_decide_eq_true rfl) (.cell rfl (res_blk [.int .i64 x0_.f0, .slice A0_1 x0_.f1.length c0_1] ag24 sz24 hb6 rfl) (.tmp rfl .nil)) ⟨_, rfl, _, _, _, rfl, hS, g0_1⟩
      · rw [if_neg c26] at H
        refine cond_f hE (b := y20) rfl (eq_false_of_ne_true c26) ?_
        refine wp_skip ?_
        refine hK8 _ _ ?_
        refine wp_seq_k fun K29 hK29 => ?_
        refine wp_seq_k fun K30 hK30 => ?_
        refine plain (L := [0, 1, 2, 3]) rfl ?_
        have hb2 := hS.blk_at (i := 2) rfl
        refine ops_chain (S := Agr _) (.k 0 2 [(34, .int .i64 x1_), (35, .pointer (some ⟨b2, 0, none⟩))] (by kernel_rfl) <| .v 2 36 rfl rfl rfl rfl (lb1 0 (.int .i64 x0_.f0) rfl rfl ag3 hb2 rfl) <| .k 3 1 [(37, .bool (decide (x1_ < x0_.f0)))] (by kernel_rfl) .nil) (rest := []) hE (Agr.refl _) (fun a hE => ?_)
        refine ops_done ?_
        refine hK30 _ _ ?_
        by_cases c31 : x1_ < x0_.f0
        · rw [if_pos c31] at H
          refine cond_t hE (b := (decide (x1_ < x0_.f0))) rfl (decide_eq_true c31) ?_
          refine wp_seq_k fun K32 hK32 => ?_
          refine plain (L := [0, 1, 2]) rfl ?_
          refine ops_chain (S := Agr _) (.v 0 38 rfl rfl rfl rfl (lbn 0 [.int .i64 x0_.f0, .slice A0_1 x0_.f1.length c0_1] rfl rfl ag24 sz24 hb2 rfl) .nil) (rest := [1, 2]) hE (Agr.refl _) (fun a hE => ?_)
          refine ops_eff 1 hE none rfl rfl rfl rfl (e_store (off := 0) hS rfl rfl rfl sz24 (Nat.le_of_ble_eq_true rfl) (all_one rfl) #[.int .i64 x0_.f0, .slice A0_1 x0_.f1.length c0_1] rfl) ?_
          rintro _ u33 a ⟨rfl, hb6, hS, hz⟩ hE
          refine ops_chain (S := Agr _) (.k 2 1 [(9, .int .i64 9)] (by kernel_rfl) .nil) (rest := []) hE (Agr.refl _) (fun a hE => ?_)
          refine ops_done ?_
          refine hK32 _ _ ?_
          refine wp_ret (then_ret ?_)
          replace hS := hS.tail
          replace hS := hS.tail
          replace hS := hS.tail
          obtain rfl := Option.some.inj H
          exact retN hE rfl (of_decide_eq_true rfl) (.cell rfl (res_blk [.int .i64 x0_.f0, .slice A0_1 x0_.f1.length c0_1] ag24 sz24 hb6 rfl) (.tmp rfl .nil)) ⟨_, rfl, _, _, _, rfl, hS, g0_1⟩
        · rw [if_neg c31] at H
          refine cond_f hE (b := (decide (x1_ < x0_.f0))) rfl (decide_eq_false c31) ?_
          refine wp_skip ?_
          refine hK29 _ _ ?_
          refine wp_seq_k fun K34 hK34 => ?_
          refine plain (L := [0, 1]) rfl ?_
          refine ops_eff 0 hE (some 39) rfl rfl rfl rfl (e_lit (d := k49) (e := 49) hS [] ([] : List S49) (.nil) rfl rfl rfl rfl (by kernel_rfl)) ?_
          rintro _ u35 a ⟨A36, c37, rfl, hS, hg⟩ hE
          refine ops_chain (S := Agr _) (.k 1 1 [(10, .slice A36 (([] : List S49).length) c37)] (by kernel_rfl) .nil) (rest := []) hE (Agr.refl _) (fun a hE => ?_)
          refine ops_done ?_
          refine hK34 _ _ ?_
          refine wp_seq_k fun K39 hK39 => ?_
          refine wp_seq_k fun K40 hK40 => ?_
          refine plain (L := [0]) rfl ?_
          refine ops_chain (S := Agr _) (.k 0 1 [(11, .int .i64 0)] (by kernel_rfl) .nil) (rest := []) hE (Agr.refl _) (fun a hE => ?_)
          refine ops_done ?_
          refine hK40 _ _ ?_
          refine wp_block ?_
          replace hS := hS.front 3 rfl
          replace hS := hS.front 3 rfl
          replace hS := hS.front 3 rfl
          obtain ⟨J, hE⟩ := hE.norm [(0, .agg #[.int .i64 x0_.f0, .slice A0_1 x0_.f1.length c0_1]), (1, .int .i64 x1_), (2, .int .i64 x2_), (3, .agg #[.int .i64 x3_.f0, .int .i64 x3_.f1, .int .i64 x3_.f2, .int .i64 x3_.f3, .int .i64 x3_.f4, .int .i64 x3_.f5, .slice A3_6 x3_.f6.length c3_6]), (4, .pointer (some ⟨b2, 0, none⟩)), (7, .pointer (some ⟨b4, 0, none⟩)), (8, .pointer (some ⟨b6, 0, none⟩)), (9, .int .i64 0), (10, .slice A36 (([] : List S49).length) c37), (11, .int .i64 0), (32, .bool y20), (37, .bool (decide (x1_ < x0_.f0)))] (.cons rfl <| .cons rfl <| .cons rfl <| .cons rfl <| .cons rfl <| .cons rfl <| .cons rfl <| .cons rfl <| .cons rfl <| .cons rfl <| .cons rfl <| .cons rfl .nil)
          refine wp_loop_ghost (fun kq47 a w' => ∃ (J : Nat → Value) (A42 : Option Addr) (c43 : Nat) (l44 : List S49) (x45 : Int), Env 77 (updL J [(0, .agg #[.int .i64 x0_.f0, .slice A0_1 x0_.f1.length c0_1]), (1, .int .i64 x1_), (2, .int .i64 x2_), (3, .agg #[.int .i64 x3_.f0, .int .i64 x3_.f1, .int .i64 x3_.f2, .int .i64 x3_.f3, .int .i64 x3_.f4, .int .i64 x3_.f5, .slice A3_6 x3_.f6.length c3_6]), (4, .pointer (some ⟨b2, 0, none⟩)), (7, .pointer (some ⟨b4, 0, none⟩)), (8, .pointer (some ⟨b6, 0, none⟩)), (9, .int .i64 0), (10, .slice A42 l44.length c43), (11, .int .i64 x45), (32, .bool y20), (37, .bool (decide (x1_ < x0_.f0)))]) a ∧ St W (mine W []) F w' F [box b6 #[.int .i64 0, .slice none 0 0] 24, box b4 #[.int .i64 x3_.f0, .int .i64 x3_.f1, .int .i64 x3_.f2, .int .i64 x3_.f3, .int .i64 x3_.f4, .int .i64 x3_.f5, .slice A3_6 x3_.f6.length c3_6] 28, box b2 #[.int .i64 x0_.f0, .slice A0_1 x0_.f1.length c0_1] 24, row k49 49 (.slice A42 l44.length c43) l44] ∧  windroseref16_Accept.l46 kq47 x0_ x1_ x2_ x3_ l44 x45 = some r) k23 ⟨J, A36, c37, ([] : List S49), 0, hE, hS, H⟩ ?_
          rintro kq47 a u49 ⟨J, A42, c43, l44, x45, hE, hS, H⟩
          cases kq47 with
          | zero => cases (show none = some r from H)
          | succ k48 =>
            rw [windroseref16_Accept.l46_s] at H
            refine wp_seq_k fun K50 hK50 => ?_
            refine wp_seq_k fun K51 hK51 => ?_
            have J57 : ∀ kq55, kq55 ≤ k48 → ∀ (J : Nat → Value) (y53 : Bool) (a : Act) (w' : World), Env 77 (updL J [(0, .agg #[.int .i64 x0_.f0, .slice A0_1 x0_.f1.length c0_1]), (1, .int .i64 x1_), (2, .int .i64 x2_), (3, .agg #[.int .i64 x3_.f0, .int .i64 x3_.f1, .int .i64 x3_.f2, .int .i64 x3_.f3, .int .i64 x3_.f4, .int .i64 x3_.f5, .slice A3_6 x3_.f6.length c3_6]), (4, .pointer (some ⟨b2, 0, none⟩)), (7, .pointer (some ⟨b4, 0, none⟩)), (8, .pointer (some ⟨b6, 0, none⟩)), (9, .int .i64 0), (10, .slice A42 l44.length c43), (11, .int .i64 x45), (32, .bool y20), (37, .bool (decide (x1_ < x0_.f0))), (49, .bool y53)]) a → St W (mine W []) F w' F [box b6 #[.int .i64 0, .slice none 0 0] 24, box b4 #[.int .i64 x3_.f0, .int .i64 x3_.f1, .int .i64 x3_.f2, .int .i64 x3_.f3, .int .i64 x3_.f4, .int .i64 x3_.f5, .slice A3_6 x3_.f6.length c3_6] 28, box b2 #[.int .i64 x0_.f0, .slice A0_1 x0_.f1.length c0_1] 24, row k49 49 (.slice A42 l44.length c43) l44] → windroseref16_Accept.j54 kq55 x0_ x1_ x2_ x3_ l44 x45 y53 = some r → K51 a w' := by
              intro kq55 hkq J y53 a u58 hE hS H
              cases kq55 with
              | zero => cases (show none = some r from H)
              | succ k56 =>
                rw [windroseref16_Accept.j54_s] at H
                refine hK51 _ _ ?_
                by_cases c59 : y53 = true
                · rw [if_pos c59] at H
                  refine cond_t hE (b := y53) rfl c59 ?_
                  refine wp_skip ?_
                  refine hK50 _ _ ?_
                  refine wp_seq_k fun K60 hK60 => ?_
                  refine wp_block ?_
                  refine wp_seq_k fun K61 hK61 => ?_
                  refine plain (L := [0, 1, 2]) rfl ?_
                  refine ops_chain (S := Agr _) (.v 0 52 rfl rfl rfl rfl (YA.s (x_build [] (.agg #[.int .i64 0, .int .i64 0, .int .i64 0, .int .i64 0, .int .i64 0, .int .i64 0, .int .i64 0, .slice none 0 0]) rfl rfl (fun w => by kernel_rfl))) .nil) (rest := [1, 2]) hE (Agr.refl _) (fun a hE => ?_)
                  refine ops_eff 1 hE (some 12) rfl rfl rfl rfl (e_alloc hS rfl z49z #[.int .i64 0, .int .i64 0, .int .i64 0, .int .i64 0, .int .i64 0, .int .i64 0, .int .i64 0, .slice none 0 0] rfl) ?_
                  rintro _ u63 a ⟨b62, rfl, hb62, hS, hg⟩ hE
                  refine ops_eff 2 hE none rfl rfl rfl rfl (e_store (off := 0) hS rfl rfl rfl sz49 (Nat.le_of_ble_eq_true rfl) (all_one rfl) #[.int .i64 0, .int .i64 0, .int .i64 0, .int .i64 0, .int .i64 0, .int .i64 0, .int .i64 0, .slice none 0 0] rfl) ?_
                  rintro _ u64 a ⟨rfl, hb62, hS, hz⟩ hE
                  refine ops_done ?_
                  refine hK61 _ _ ?_
                  refine wp_seq_k fun K65 hK65 => ?_
                  have J91 : ∀ kq89, kq89 ≤ k56 → ∀ (J : Nat → Value) (x77 : Int) (x78 : Int) (x79 : Int) (x80 : Int) (x81 : Int) (x82 : Int) (x83 : Int) (A84 : Option Addr) (c85 : Nat) (l86 : List Int) (a : Act) (w' : World), Env 77 (updL J [(0, .agg #[.int .i64 x0_.f0, .slice A0_1 x0_.f1.length c0_1]), (1, .int .i64 x1_), (2, .int .i64 x2_), (3, .agg #[.int .i64 x3_.f0, .int .i64 x3_.f1, .int .i64 x3_.f2, .int .i64 x3_.f3, .int .i64 x3_.f4, .int .i64 x3_.f5, .slice A3_6 x3_.f6.length c3_6]), (4, .pointer (some ⟨b2, 0, none⟩)), (7, .pointer (some ⟨b4, 0, none⟩)), (8, .pointer (some ⟨b6, 0, none⟩)), (9, .int .i64 0), (10, .slice A42 l44.length c43), (11, .int .i64 x45), (12, .pointer (some ⟨b62, 0, none⟩)), (32, .bool y20), (37, .bool (decide (x1_ < x0_.f0))), (49, .bool y53), (57, .bool (decide (x45 < (x0_.f1.length : Int))))]) a → St W (mine W []) F w' F [box b62 #[.int .i64 x77, .int .i64 x78, .int .i64 x79, .int .i64 x80, .int .i64 x81, .int .i64 x82, .int .i64 x83, .slice A84 l86.length c85] 49, box b6 #[.int .i64 0, .slice none 0 0] 24, box b4 #[.int .i64 x3_.f0, .int .i64 x3_.f1, .int .i64 x3_.f2, .int .i64 x3_.f3, .int .i64 x3_.f4, .int .i64 x3_.f5, .slice A3_6 x3_.f6.length c3_6] 28, box b2 #[.int .i64 x0_.f0, .slice A0_1 x0_.f1.length c0_1] 24, row k49 49 (.slice A42 l44.length c43) l44] → Rd (Kn.int .i64) F A84 c85 l86 → windroseref16_Accept.j88 kq89 x0_ x1_ x2_ x3_ l44 x45 x77 x78 x79 x80 x81 x82 x83 l86 = some r → K65 a w' := by
                    intro kq89 hkq J x77 x78 x79 x80 x81 x82 x83 A84 c85 l86 a u92 hE hS g87 H
                    cases kq89 with
                    | zero => cases (show none = some r from H)
                    | succ k90 =>
                      rw [windroseref16_Accept.j88_s] at H
                      refine hK65 _ _ ?_
                      refine wp_seq_k fun K93 hK93 => ?_
                      have J111 : ∀ kq109, kq109 ≤ k90 → ∀ (J : Nat → Value) (x97 : Int) (x98 : Int) (x99 : Int) (x100 : Int) (x101 : Int) (x102 : Int) (x103 : Int) (A104 : Option Addr) (c105 : Nat) (l106 : List Int) (a : Act) (w' : World), Env 77 (updL J [(0, .agg #[.int .i64 x0_.f0, .slice A0_1 x0_.f1.length c0_1]), (1, .int .i64 x1_), (2, .int .i64 x2_), (3, .agg #[.int .i64 x3_.f0, .int .i64 x3_.f1, .int .i64 x3_.f2, .int .i64 x3_.f3, .int .i64 x3_.f4, .int .i64 x3_.f5, .slice A3_6 x3_.f6.length c3_6]), (4, .pointer (some ⟨b2, 0, none⟩)), (7, .pointer (some ⟨b4, 0, none⟩)), (8, .pointer (some ⟨b6, 0, none⟩)), (9, .int .i64 0), (10, .slice A42 l44.length c43), (11, .int .i64 x45), (12, .pointer (some ⟨b62, 0, none⟩)), (32, .bool y20), (37, .bool (decide (x1_ < x0_.f0))), (49, .bool y53), (57, .bool (decide (x45 < (x0_.f1.length : Int)))), (66, .bool (x45 == (w64 (x2_ - 1))))]) a → St W (mine W []) F w' F [box b62 #[.int .i64 x97, .int .i64 x98, .int .i64 x99, .int .i64 x100, .int .i64 x101, .int .i64 x102, .int .i64 x103, .slice A104 l106.length c105] 49, box b6 #[.int .i64 0, .slice none 0 0] 24, box b4 #[.int .i64 x3_.f0, .int .i64 x3_.f1, .int .i64 x3_.f2, .int .i64 x3_.f3, .int .i64 x3_.f4, .int .i64 x3_.f5, .slice A3_6 x3_.f6.length c3_6] 28, box b2 #[.int .i64 x0_.f0, .slice A0_1 x0_.f1.length c0_1] 24, row k49 49 (.slice A42 l44.length c43) l44] → Rd (Kn.int .i64) F A104 c105 l106 → windroseref16_Accept.j108 kq109 x0_ x1_ x2_ x3_ l44 x45 x97 x98 x99 x100 x101 x102 x103 l106 = some r → K93 a w' := by
                        intro kq109 hkq J x97 x98 x99 x100 x101 x102 x103 A104 c105 l106 a u112 hE hS g107 H
                        cases kq109 with
                        | zero => cases (show none = some r from H)
                        | succ k110 =>
                          rw [windroseref16_Accept.j108_s] at H
                          refine hK93 _ _ ?_
                          refine plain (L := [0, 1, 2, 3, 4]) rfl ?_
                          have hb62 := hS.blk_at (i := 0) rfl
                          refine ops_chain (S := Agr _) (.k 0 1 [(70, .slice A42 l44.length c43)] (by kernel_rfl) <| .v 1 71 rfl rfl rfl rfl (lbn 0 [.int .i64 x97, .int .i64 x98, .int .i64 x99, .int .i64 x100, .int .i64 x101, .int .i64 x102, .int .i64 x103, .slice A104 l106.length c105] rfl rfl ag49 sz49 hb62 rfl) .nil) (rest := [2, 3, 4]) hE (Agr.refl _) (fun a hE => ?_)
                          refine ops_eff 2 hE (some 72) rfl rfl rfl rfl (e_lit (d := k49) (e := 49) hS [(0, .agg #[.int .i64 x97, .int .i64 x98, .int .i64 x99, .int .i64 x100, .int .i64 x101, .int .i64 x102, .int .i64 x103, .slice A104 l106.length c105])] [(⟨x97, (⟨x98, x99, x100, x101, x102, x103, l106⟩ : S28)⟩ : S49)] (.cons ⟨_, _, rfl, g107⟩ .nil) rfl rfl rfl rfl (by kernel_rfl)) ?_
                          rintro _ u113 a ⟨A114, c115, rfl, hS, hg⟩ hE
                          by_cases c117 : ((l44.length : Int) + ((1 : Nat) : Int)) * 80 ≤ 140737488355328
                          rotate_left
                          · rw [if_neg c117] at H; cases H
                          rw [if_pos c117] at H
                          replace hS := hS.front 5 rfl
                          refine ops_eff 3 hE (some 73) rfl rfl rfl rfl (e_append (d := k49) hS rfl rfl rfl ud22 in49 rfl rfl rfl (row_src (hS.row_at (i := 1) rfl)) c117) ?_
                          rintro _ u120 a ⟨A118, c119, rfl, hS, hz⟩ hE
                          refine ops_chain (S := Agr _) (.k 4 1 [(10, .slice A118 ((l44 ++ [(⟨x97, (⟨x98, x99, x100, x101, x102, x103, l106⟩ : S28)⟩ : S49)]).length) c119)] (by kernel_rfl) .nil) (rest := []) hE (Agr.refl _) (fun a hE => ?_)
                          refine ops_done ?_
                          refine hK60 _ _ ?_
                          refine plain (L := [0, 1, 2]) rfl ?_
                          refine ops_chain (S := Agr _) (.k 0 3 [(50, .int .i64 x45), (51, .int .i64 (w64 (x45 + 1))), (11, .int .i64 (w64 (x45 + 1)))] (by kernel_rfl) .nil) (rest := []) hE (Agr.refl _) (fun a hE => ?_)
                          refine ops_done ?_
                          replace hS := hS.front 1 rfl
                          replace hS := hS.tail
                          replace hS := hS.front 1 rfl
                          replace hS := hS.tail
                          replace hS := hS.front 3 rfl
                          replace hS := hS.front 3 rfl
                          replace hS := hS.front 3 rfl
                          obtain ⟨J, hE⟩ := hE.norm [(0, .agg #[.int .i64 x0_.f0, .slice A0_1 x0_.f1.length c0_1]), (1, .int .i64 x1_), (2, .int .i64 x2_), (3, .agg #[.int .i64 x3_.f0, .int .i64 x3_.f1, .int .i64 x3_.f2, .int .i64 x3_.f3, .int .i64 x3_.f4, .int .i64 x3_.f5, .slice A3_6 x3_.f6.length c3_6]), (4, .pointer (some ⟨b2, 0, none⟩)), (7, .pointer (some ⟨b4, 0, none⟩)), (8, .pointer (some ⟨b6, 0, none⟩)), (9, .int .i64 0), (10, .slice A118 ((l44 ++ [(⟨x97, (⟨x98, x99, x100, x101, x102, x103, l106⟩ : S28)⟩ : S49)]).length) c119), (11, .int .i64 (w64 (x45 + 1))), (32, .bool y20), (37, .bool (decide (x1_ < x0_.f0)))] (.cons rfl <| .cons rfl <| .cons rfl <| .cons rfl <| .cons rfl <| .cons rfl <| .cons rfl <| .cons rfl <| .cons rfl <| .cons rfl <| .cons rfl <| .cons rfl .nil)
                          exact then_n ⟨k110, by omega, J, A118, c119, (l44 ++ [(⟨x97, (⟨x98, x99, x100, x101, x102, x103, l106⟩ : S28)⟩ : S49)]), (w64 (x45 + 1)), hE, hS, H⟩
                      refine wp_seq_k fun K94 hK94 => ?_
                      refine plain (L := [0, 1, 2, 3]) rfl ?_
                      refine ops_chain (S := Agr _) (.k 0 4 [(63, .int .i64 x45), (64, .int .i64 x2_), (65, .int .i64 (w64 (x2_ - 1))), (66, .bool (x45 == (w64 (x2_ - 1))))] (by kernel_rfl) .nil) (rest := []) hE (Agr.refl _) (fun a hE => ?_)
                      refine ops_done ?_
                      refine hK94 _ _ ?_
                      by_cases c95 : x45 = (w64 (x2_ - 1))
                      · rw [if_pos c95] at H
                        refine cond_t hE (b := (x45 == (w64 (x2_ - 1)))) rfl (beq_iff_eq.2 c95) ?_
                        refine plain (L := [0, 1, 2, 3]) rfl ?_
                        have hb4 := hS.blk_at (i := 2) rfl
                        refine ops_chain (S := Agr _) (.k 0 1 [(67, .int .i64 x1_)] (by kernel_rfl) <| .v 1 68 rfl rfl rfl rfl (lbn 0 [.int .i64 x3_.f0, .int .i64 x3_.f1, .int .i64 x3_.f2, .int .i64 x3_.f3, .int .i64 x3_.f4, .int .i64 x3_.f5, .slice A3_6 x3_.f6.length c3_6] rfl rfl ag28 sz28 hb4 rfl) <| .v 2 69 rfl rfl rfl rfl (YA.s (x_build [(0, .int .i64 x1_), (1, .agg #[.int .i64 x3_.f0, .int .i64 x3_.f1, .int .i64 x3_.f2, .int .i64 x3_.f3, .int .i64 x3_.f4, .int .i64 x3_.f5, .slice A3_6 x3_.f6.length c3_6])] (.agg #[.int .i64 x1_, .int .i64 x3_.f0, .int .i64 x3_.f1, .int .i64 x3_.f2, .int .i64 x3_.f3, .int .i64 x3_.f4, .int .i64 x3_.f5, .slice A3_6 x3_.f6.length c3_6]) rfl rfl (fun w => by kernel_rfl))) .nil) (rest := [3]) hE (Agr.refl _) (fun a hE => ?_)
                        refine ops_eff 3 hE none rfl rfl rfl rfl (e_store (off := 0) hS rfl rfl rfl sz49 (Nat.le_of_ble_eq_true rfl) (all_one rfl) #[.int .i64 x1_, .int .i64 x3_.f0, .int .i64 x3_.f1, .int .i64 x3_.f2, .int .i64 x3_.f3, .int .i64 x3_.f4, .int .i64 x3_.f5, .slice A3_6 x3_.f6.length c3_6] rfl) ?_
                        rintro _ u96 a ⟨rfl, hb62, hS, hz⟩ hE
                        refine ops_done ?_
                        obtain ⟨J, hE⟩ := hE.norm [(0, .agg #[.int .i64 x0_.f0, .slice A0_1 x0_.f1.length c0_1]), (1, .int .i64 x1_), (2, .int .i64 x2_), (3, .agg #[.int .i64 x3_.f0, .int .i64 x3_.f1, .int .i64 x3_.f2, .int .i64 x3_.f3, .int .i64 x3_.f4, .int .i64 x3_.f5, .slice A3_6 x3_.f6.length c3_6]), (4, .pointer (some ⟨b2, 0, none⟩)), (7, .pointer (some ⟨b4, 0, none⟩)), (8, .pointer (some ⟨b6, 0, none⟩)), (9, .int .i64 0), (10, .slice A42 l44.length c43), (11, .int .i64 x45), (12, .pointer (some ⟨b62, 0, none⟩)), (32, .bool y20), (37, .bool (decide (x1_ < x0_.f0))), (49, .bool y53), (57, .bool (decide (x45 < (x0_.f1.length : Int)))), (66, .bool (x45 == (w64 (x2_ - 1))))] (.cons rfl <| .cons rfl <| .cons rfl <| .cons rfl <| .cons rfl <| .cons rfl <| .cons rfl <| .cons rfl <| .cons rfl <| .cons rfl <| .cons rfl <| .cons rfl <| .cons rfl <| .cons rfl <| .cons rfl <| .cons rfl .nil)
                        exact J111 _ (by omega) J x1_ x3_.f0 x3_.f1 x3_.f2 x3_.f3 x3_.f4 x3_.f5 A3_6 c3_6 x3_.f6 _ _ hE hS g3_6 H
                      · rw [if_neg c95] at H
                        refine cond_f hE (b := (x45 == (w64 (x2_ - 1)))) rfl (beq_eq_false_iff_ne.2 c95) ?_
                        refine wp_skip ?_
                        obtain ⟨J, hE⟩ := hE.norm [(0, .agg #[.int .i64 x0_.f0, .slice A0_1 x0_.f1.length c0_1]), (1, .int .i64 x1_), (2, .int .i64 x2_), (3, .agg #[.int .i64 x3_.f0, .int .i64 x3_.f1, .int .i64 x3_.f2, .int .i64 x3_.f3, .int .i64 x3_.f4, .int .i64 x3_.f5, .slice A3_6 x3_.f6.length c3_6]), (4, .pointer (some ⟨b2, 0, none⟩)), (7, .pointer (some ⟨b4, 0, none⟩)), (8, .pointer (some ⟨b6, 0, none⟩)), (9, .int .i64 0), (10, .slice A42 l44.length c43), (11, .int .i64 x45), (12, .pointer (some ⟨b62, 0, none⟩)), (32, .bool y20), (37, .bool (decide (x1_ < x0_.f0))), (49, .bool y53), (57, .bool (decide (x45 < (x0_.f1.length : Int)))), (66, .bool (x45 == (w64 (x2_ - 1))))] (.cons rfl <| .cons rfl <| .cons rfl <| .cons rfl <| .cons rfl <| .cons rfl <| .cons rfl <| .cons rfl <| .cons rfl <| .cons rfl <| .cons rfl <| .cons rfl <| .cons rfl <| .cons rfl <| .cons rfl <| .cons rfl .nil)
                        exact J111 _ (by omega) J x77 x78 x79 x80 x81 x82 x83 A84 c85 l86 _ _ hE hS g87 H
                  refine wp_seq_k fun K66 hK66 => ?_
                  refine plain (L := [0, 1, 2, 3, 4]) rfl ?_
                  have hb2 := hS.blk_at (i := 3) rfl
                  refine ops_chain (S := Agr _) (.k 0 2 [(53, .int .i64 x45), (54, .pointer (some ⟨b2, 1, none⟩))] (by kernel_rfl) <| .v 2 55 rfl rfl rfl rfl (lb1 1 (.slice A0_1 x0_.f1.length c0_1) rfl rfl ag22 hb2 rfl) <| .v 3 56 rfl rfl rfl rfl (YA.s (len_sl rfl rfl ud22)) <| .k 4 1 [(57, .bool (decide (x45 < (x0_.f1.length : Int))))] (by kernel_rfl) .nil) (rest := []) hE (Agr.refl _) (fun a hE => ?_)
                  refine ops_done ?_
                  refine hK66 _ _ ?_
                  by_cases c67 : x45 < (x0_.f1.length : Int)
                  · rw [if_pos c67] at H
                    refine cond_t hE (b := (decide (x45 < (x0_.f1.length : Int)))) rfl (decide_eq_true c67) ?_
                    refine plain (L := [0, 1, 2, 3, 4, 5]) rfl ?_
                    by_cases c68 : 0 ≤ x45 ∧ x45 < (x0_.f1.length : Int)
                    rotate_left
                    · rw [if_neg c68] at H; cases H
                    rw [if_pos c68] at H
                    obtain ⟨ad69, rfl⟩ := g0_1.addr c68.1 c68.2
                    obtain ⟨cs71, ⟨A73, c74, rfl, g75⟩, hc72⟩ := g0_1.el z49 x45 c68.1 c68.2
                    refine ops_chain (S := Agr _) (.k 0 1 [(58, .pointer (some ⟨b2, 1, none⟩))] (by kernel_rfl) <| .v 1 59 rfl rfl rfl rfl (lb1 1 (.slice (some ad69) x0_.f1.length c0_1) rfl rfl ag22 hb2 rfl) <| .k 2 1 [(60, .int .i64 x45)] (by kernel_rfl) <| .v 3 61 rfl rfl rfl rfl (YA.s (ix 8 rfl rfl rfl ud22 sz49 c68.1 c68.2)) <| .v 4 62 rfl rfl rfl rfl (lfn [.int .i64 ((nth z49 x0_.f1 x45).f0), .int .i64 ((nth z49 x0_.f1 x45).f1.f0), .int .i64 ((nth z49 x0_.f1 x45).f1.f1), .int .i64 ((nth z49 x0_.f1 x45).f1.f2), .int .i64 ((nth z49 x0_.f1 x45).f1.f3), .int .i64 ((nth z49 x0_.f1 x45).f1.f4), .int .i64 ((nth z49 x0_.f1 x45).f1.f5), .slice A73 (((nth z49 x0_.f1 x45).f1.f6).length) c74] rfl rfl ag49 sz49 hS.own.sub hc72) .nil) (rest := [5]) hE (Agr.refl _) (fun a hE => ?_)
                    refine ops_eff 5 hE none rfl rfl rfl rfl (e_store (off := 0) hS rfl rfl rfl sz49 (Nat.le_of_ble_eq_true rfl) (all_one rfl) #[.int .i64 ((nth z49 x0_.f1 x45).f0), .int .i64 ((nth z49 x0_.f1 x45).f1.f0), .int .i64 ((nth z49 x0_.f1 x45).f1.f1), .int .i64 ((nth z49 x0_.f1 x45).f1.f2), .int .i64 ((nth z49 x0_.f1 x45).f1.f3), .int .i64 ((nth z49 x0_.f1 x45).f1.f4), .int .i64 ((nth z49 x0_.f1 x45).f1.f5), .slice A73 (((nth z49 x0_.f1 x45).f1.f6).length) c74] rfl) ?_
                    rintro _ u76 a ⟨rfl, hb62, hS, hz⟩ hE
                    refine ops_done ?_
                    obtain ⟨J, hE⟩ := hE.norm [(0, .agg #[.int .i64 x0_.f0, .slice (some ad69) x0_.f1.length c0_1]), (1, .int .i64 x1_), (2, .int .i64 x2_), (3, .agg #[.int .i64 x3_.f0, .int .i64 x3_.f1, .int .i64 x3_.f2, .int .i64 x3_.f3, .int .i64 x3_.f4, .int .i64 x3_.f5, .slice A3_6 x3_.f6.length c3_6]), (4, .pointer (some ⟨b2, 0, none⟩)), (7, .pointer (some ⟨b4, 0, none⟩)), (8, .pointer (some ⟨b6, 0, none⟩)), (9, .int .i64 0), (10, .slice A42 l44.length c43), (11, .int .i64 x45), (12, .pointer (some ⟨b62, 0, none⟩)), (32, .bool y20), (37, .bool (decide (x1_ < x0_.f0))), (49, .bool y53), (57, .bool (decide (x45 < (x0_.f1.length : Int))))] (.cons rfl <| .cons rfl <| .cons rfl <| .cons rfl <| .cons rfl <| .cons rfl <| .cons rfl <| .cons rfl <| .cons rfl <| .cons rfl <| .cons rfl <| .cons rfl <| .cons rfl <| .cons rfl <| .cons rfl .nil)
                    exact J91 _ (by omega) J ((nth z49 x0_.f1 x45).f0) ((nth z49 x0_.f1 x45).f1.f0) ((nth z49 x0_.f1 x45).f1.f1) ((nth z49 x0_.f1 x45).f1.f2) ((nth z49 x0_.f1 x45).f1.f3) ((nth z49 x0_.f1 x45).f1.f4) ((nth z49 x0_.f1 x45).f1.f5) A73 c74 ((nth z49 x0_.f1 x45).f1.f6) _ _ hE hS g75 H
                  · rw [if_neg c67] at H
                    refine cond_f hE (b := (decide (x45 < (x0_.f1.length : Int)))) rfl (decide_eq_false c67) ?_
                    refine wp_skip ?_
                    obtain ⟨J, hE⟩ := hE.norm [(0, .agg #[.int .i64 x0_.f0, .slice A0_1 x0_.f1.length c0_1]), (1, .int .i64 x1_), (2, .int .i64 x2_), (3, .agg #[.int .i64 x3_.f0, .int .i64 x3_.f1, .int .i64 x3_.f2, .int .i64 x3_.f3, .int .i64 x3_.f4, .int .i64 x3_.f5, .slice A3_6 x3_.f6.length c3_6]), (4, .pointer (some ⟨b2, 0, none⟩)), (7, .pointer (some ⟨b4, 0, none⟩)), (8, .pointer (some ⟨b6, 0, none⟩)), (9, .int .i64 0), (10, .slice A42 l44.length c43), (11, .int .i64 x45), (12, .pointer (some ⟨b62, 0, none⟩)), (32, .bool y20), (37, .bool (decide (x1_ < x0_.f0))), (49, .bool y53), (57, .bool (decide (x45 < (x0_.f1.length : Int))))] (.cons rfl <| .cons rfl <| .cons rfl <| .cons rfl <| .cons rfl <| .cons rfl <| .cons rfl <| .cons rfl <| .cons rfl <| .cons rfl <| .cons rfl <| .cons rfl <| .cons rfl <| .cons rfl <| .cons rfl .nil)
                    exact J91 _ (by omega) J 0 0 0 0 0 0 0 none 0 [] _ _ hE hS (Rd.nil _ _) H
                · rw [if_neg c59] at H
                  refine cond_f hE (b := y53) rfl (eq_false_of_ne_true c59) ?_
                  refine wp_exit ?_
                  refine hK39 _ _ ?_
                  refine wp_seq_k fun K121 hK121 => ?_
                  refine plain (L := [0, 1, 2, 3, 4]) rfl ?_
                  refine ops_chain (S := Agr _) (.k 0 2 [(74, .int .i64 x1_), (75, .slice A42 l44.length c43)] (by kernel_rfl) <| .v 2 76 rfl rfl rfl rfl (YA.s (x_build [(0, .int .i64 x1_), (1, .slice A42 l44.length c43)] (.agg #[.int .i64 x1_, .slice A42 l44.length c43]) rfl rfl (fun w => by kernel_rfl))) .nil) (rest := [3, 4]) hE (Agr.refl _) (fun a hE => ?_)
                  refine ops_eff 3 hE none rfl rfl rfl rfl (e_store (off := 0) hS rfl rfl rfl sz24 (Nat.le_of_ble_eq_true rfl) (all_one rfl) #[.int .i64 x1_, .slice A42 l44.length c43] rfl) ?_
                  rintro _ u122 a ⟨rfl, hb6, hS, hz⟩ hE
                  refine ops_chain (S := Agr _) (.k 4 1 [(9, .int .i64 0)] (by kernel_rfl) .nil) (rest := []) hE (Agr.refl _) (fun a hE => ?_)
                  refine ops_done ?_
                  refine hK121 _ _ ?_
                  refine wp_ret ?_
                  replace hS := hS.front 3 rfl
                  obtain ⟨F123, hs, g124, hS⟩ := hS.give
                  replace g0_1 := g0_1.mono hs
                  replace g3_6 := g3_6.mono hs
                  replace hS := hS.tail
                  replace hS := hS.tail
                  replace hS := hS.tail
                  obtain rfl := Option.some.inj H
                  exact retN hE rfl (of_decide_eq_true rfl) (.cell rfl (res_blk [.int .i64 x1_, .slice A42 l44.length c43] ag24 sz24 hb6 rfl) (.tmp rfl .nil)) ⟨_, rfl, _, _, _, rfl, hS, g124⟩
            refine plain (L := [0, 1, 2, 3, 4, 5, 6, 7, 8, 9]) rfl ?_
            have hb2 := hS.blk_at (i := 2) rfl
            refine ops_chain (S := Agr _) (.k 0 2 [(40, .int .i64 x45), (41, .pointer (some ⟨b2, 1, none⟩))] (by kernel_rfl) <| .v 2 42 rfl rfl rfl rfl (lb1 1 (.slice A0_1 x0_.f1.length c0_1) rfl rfl ag22 hb2 rfl) <| .v 3 43 rfl rfl rfl rfl (YA.s (len_sl rfl rfl ud22)) <| .k 4 2 [(44, .bool (decide (x45 < (x0_.f1.length : Int)))), (45, .bool (decide (x45 < (x0_.f1.length : Int))))] (by kernel_rfl) .nil) (rest := [6, 7, 8, 9]) hE (Agr.refl _) (fun a hE => ?_)
            by_cases c52 : x45 < (x0_.f1.length : Int)
            · rw [if_pos c52] at H
              obtain ⟨J, hE⟩ := hE.norm [(0, .agg #[.int .i64 x0_.f0, .slice A0_1 x0_.f1.length c0_1]), (1, .int .i64 x1_), (2, .int .i64 x2_), (3, .agg #[.int .i64 x3_.f0, .int .i64 x3_.f1, .int .i64 x3_.f2, .int .i64 x3_.f3, .int .i64 x3_.f4, .int .i64 x3_.f5, .slice A3_6 x3_.f6.length c3_6]), (4, .pointer (some ⟨b2, 0, none⟩)), (7, .pointer (some ⟨b4, 0, none⟩)), (8, .pointer (some ⟨b6, 0, none⟩)), (9, .int .i64 0), (10, .slice A42 l44.length c43), (11, .int .i64 x45), (32, .bool y20), (37, .bool (decide (x1_ < x0_.f0))), (45, .bool true)] (.cons rfl <| .cons rfl <| .cons rfl <| .cons rfl <| .cons rfl <| .cons rfl <| .cons rfl <| .cons rfl <| .cons rfl <| .cons rfl <| .cons rfl <| .cons rfl <| .cons (Eq.trans (b := .bool (decide (x45 < (x0_.f1.length : Int)))) rfl (congrArg Value.bool (decide_eq_true c52))) .nil)
              refine ops_chain (S := Agr _) (.k 6 4 [(46, undef), (47, undef), (48, undef), (49, .bool true)] (by kernel_rfl) .nil) (rest := []) hE (Agr.refl _) (fun a hE => ?_)
              refine ops_done ?_
              obtain ⟨J, hE⟩ := hE.norm [(0, .agg #[.int .i64 x0_.f0, .slice A0_1 x0_.f1.length c0_1]), (1, .int .i64 x1_), (2, .int .i64 x2_), (3, .agg #[.int .i64 x3_.f0, .int .i64 x3_.f1, .int .i64 x3_.f2, .int .i64 x3_.f3, .int .i64 x3_.f4, .int .i64 x3_.f5, .slice A3_6 x3_.f6.length c3_6]), (4, .pointer (some ⟨b2, 0, none⟩)), (7, .pointer (some ⟨b4, 0, none⟩)), (8, .pointer (some ⟨b6, 0, none⟩)), (9, .int .i64 0), (10, .slice A42 l44.length c43), (11, .int .i64 x45), (32, .bool y20), (37, .bool (decide (x1_ < x0_.f0))), (49, .bool true)] (.cons rfl <| .cons rfl <| .cons rfl <| .cons rfl <| .cons rfl <| .cons rfl <| .cons rfl <| .cons rfl <| .cons rfl <| .cons rfl <| .cons rfl <| .cons rfl <| .cons rfl .nil)
              exact J57 _ (by omega) J true _ _ hE hS H
            · rw [if_neg c52] at H
              obtain ⟨J, hE⟩ := hE.norm [(0, .agg #[.int .i64 x0_.f0, .slice A0_1 x0_.f1.length c0_1]), (1, .int .i64 x1_), (2, .int .i64 x2_), (3, .agg #[.int .i64 x3_.f0, .int .i64 x3_.f1, .int .i64 x3_.f2, .int .i64 x3_.f3, .int .i64 x3_.f4, .int .i64 x3_.f5, .slice A3_6 x3_.f6.length c3_6]), (4, .pointer (some ⟨b2, 0, none⟩)), (7, .pointer (some ⟨b4, 0, none⟩)), (8, .pointer (some ⟨b6, 0, none⟩)), (9, .int .i64 0), (10, .slice A42 l44.length c43), (11, .int .i64 x45), (32, .bool y20), (37, .bool (decide (x1_ < x0_.f0))), (45, .bool false)] (.cons rfl <| .cons rfl <| .cons rfl <| .cons rfl <| .cons rfl <| .cons rfl <| .cons rfl <| .cons rfl <| .cons rfl <| .cons rfl <| .cons rfl <| .cons rfl <| .cons (Eq.trans (b := .bool (decide (x45 < (x0_.f1.length : Int)))) rfl (congrArg Value.bool (decide_eq_false c52))) .nil)
              refine ops_chain (S := Agr _) (.k 6 4 [(46, .int .i64 x45), (47, .int .i64 x2_), (48, .bool (decide (x45 < x2_))), (49, .bool (decide (x45 < x2_)))] (by kernel_rfl) .nil) (rest := []) hE (Agr.refl _) (fun a hE => ?_)
              refine ops_done ?_
              obtain ⟨J, hE⟩ := hE.norm [(0, .agg #[.int .i64 x0_.f0, .slice A0_1 x0_.f1.length c0_1]), (1, .int .i64 x1_), (2, .int .i64 x2_), (3, .agg #[.int .i64 x3_.f0, .int .i64 x3_.f1, .int .i64 x3_.f2, .int .i64 x3_.f3, .int .i64 x3_.f4, .int .i64 x3_.f5, .slice A3_6 x3_.f6.length c3_6]), (4, .pointer (some ⟨b2, 0, none⟩)), (7, .pointer (some ⟨b4, 0, none⟩)), (8, .pointer (some ⟨b6, 0, none⟩)), (9, .int .i64 0), (10, .slice A42 l44.length c43), (11, .int .i64 x45), (32, .bool y20), (37, .bool (decide (x1_ < x0_.f0))), (49, .bool (decide (x45 < x2_)))] (.cons rfl <| .cons rfl <| .cons rfl <| .cons rfl <| .cons rfl <| .cons rfl <| .cons rfl <| .cons rfl <| .cons rfl <| .cons rfl <| .cons rfl <| .cons rfl <| .cons rfl .nil)
              exact J57 _ (by omega) J (decide (x45 < x2_)) _ _ hE hS H
  refine plain (L := [0, 1, 2, 3, 4, 5, 6, 7, 8, 9, 10, 11, 12, 13, 14, 15, 16, 17, 18, 19]) rfl ?_
  refine ops_chain (S := Agr _) (.k 0 3 [(13, .int .i64 x1_), (14, .bool (decide (x1_ < 1))), (15, .bool (decide (x1_ < 1)))] (by kernel_rfl) .nil) (rest := [3, 4, 5, 6, 7, 8, 9, 10, 11, 12, 13, 14, 15, 16, 17, 18, 19]) hE (Agr.refl _) (fun a hE => ?_)
  by_cases c10 : x1_ < 1
  · rw [if_pos c10] at H
    obtain ⟨J, hE⟩ := hE.norm [(0, .agg #[.int .i64 x0_.f0, .slice A0_1 x0_.f1.length c0_1]), (1, .int .i64 x1_), (2, .int .i64 x2_), (3, .agg #[.int .i64 x3_.f0, .int .i64 x3_.f1, .int .i64 x3_.f2, .int .i64 x3_.f3, .int .i64 x3_.f4, .int .i64 x3_.f5, .slice A3_6 x3_.f6.length c3_6]), (4, .pointer (some ⟨b2, 0, none⟩)), (7, .pointer (some ⟨b4, 0, none⟩)), (8, .pointer (some ⟨b6, 0, none⟩)), (9, .int .i64 0), (15, .bool true)] (.cons rfl <| .cons rfl <| .cons rfl <| .cons rfl <| .cons rfl <| .cons rfl <| .cons rfl <| .cons rfl <| .cons (Eq.trans (b := .bool (decide (x1_ < 1))) rfl (congrArg Value.bool (decide_eq_true c10))) .nil)
    refine ops_chain (S := Agr _) (.k 3 17 [(16, undef), (17, undef), (18, undef), (19, .bool true), (20, .bool true), (21, undef), (22, undef), (23, .bool true), (24, .bool true), (25, undef), (26, undef), (27, .bool true), (28, .bool true), (29, undef), (30, undef), (31, undef), (32, .bool true)] (by kernel_rfl) .nil) (rest := []) hE (Agr.refl _) (fun a hE => ?_)
    refine ops_done ?_
    obtain ⟨J, hE⟩ := hE.norm [(0, .agg #[.int .i64 x0_.f0, .slice A0_1 x0_.f1.length c0_1]), (1, .int .i64 x1_), (2, .int .i64 x2_), (3, .agg #[.int .i64 x3_.f0, .int .i64 x3_.f1, .int .i64 x3_.f2, .int .i64 x3_.f3, .int .i64 x3_.f4, .int .i64 x3_.f5, .slice A3_6 x3_.f6.length c3_6]), (4, .pointer (some ⟨b2, 0, none⟩)), (7, .pointer (some ⟨b4, 0, none⟩)), (8, .pointer (some ⟨b6, 0, none⟩)), (9, .int .i64 0), (32, .bool true)] (.cons rfl <| .cons rfl <| .cons rfl <| .cons rfl <| .cons rfl <| .cons rfl <| .cons rfl <| .cons rfl <| .cons rfl .nil)
    exact J24 _ (by omega) J true _ _ hE hS H
  · rw [if_neg c10] at H
    obtain ⟨J, hE⟩ := hE.norm [(0, .agg #[.int .i64 x0_.f0, .slice A0_1 x0_.f1.length c0_1]), (1, .int .i64 x1_), (2, .int .i64 x2_), (3, .agg #[.int .i64 x3_.f0, .int .i64 x3_.f1, .int .i64 x3_.f2, .int .i64 x3_.f3, .int .i64 x3_.f4, .int .i64 x3_.f5, .slice A3_6 x3_.f6.length c3_6]), (4, .pointer (some ⟨b2, 0, none⟩)), (7, .pointer (some ⟨b4, 0, none⟩)), (8, .pointer (some ⟨b6, 0, none⟩)), (9, .int .i64 0), (15, .bool false)] (.cons rfl <| .cons rfl <| .cons rfl <| .cons rfl <| .cons rfl <| .cons rfl <| .cons rfl <| .cons rfl <| .cons (Eq.trans (b := .bool (decide (x1_ < 1))) rfl (congrArg Value.bool (decide_eq_false c10))) .nil)
    refine ops_chain (S := Agr _) (.k 3 1 [(16, .int .i64 x1_)] (by kernel_rfl) .nil) (rest := [4, 5, 6, 7, 8, 9, 10, 11, 12, 13, 14, 15, 16, 17, 18, 19]) hE (Agr.refl _) (fun a hE => ?_)
    obtain ⟨t11, h12, H⟩ := Option.bind_eq_some_iff.mp H
    refine ops_eff 4 hE (some 17) rfl rfl rfl rfl (Eff.call en75 rfl [.int .i64 x1_] rfl (windroseref16_in.calls x1_ _ _ _ hS.own.sub h12)) ?_
    rintro _ u13 a ⟨_, rfl, hC⟩ hE
    replace hS := hS.lent hC
    refine ops_chain (S := Agr _) (.k 5 3 [(18, .bool (!t11)), (19, .bool (!t11)), (20, .bool (!t11))] (by kernel_rfl) .nil) (rest := [8, 9, 10, 11, 12, 13, 14, 15, 16, 17, 18, 19]) hE (Agr.refl _) (fun a hE => ?_)
    by_cases c14 : t11 = true
    · rw [if_pos c14] at H
      obtain ⟨J, hE⟩ := hE.norm [(0, .agg #[.int .i64 x0_.f0, .slice A0_1 x0_.f1.length c0_1]), (1, .int .i64 x1_), (2, .int .i64 x2_), (3, .agg #[.int .i64 x3_.f0, .int .i64 x3_.f1, .int .i64 x3_.f2, .int .i64 x3_.f3, .int .i64 x3_.f4, .int .i64 x3_.f5, .slice A3_6 x3_.f6.length c3_6]), (4, .pointer (some ⟨b2, 0, none⟩)), (7, .pointer (some ⟨b4, 0, none⟩)), (8, .pointer (some ⟨b6, 0, none⟩)), (9, .int .i64 0), (16, .int .i64 x1_), (17, .bool true), (18, .bool false), (20, .bool false)] (.cons rfl <| .cons rfl <| .cons rfl <| .cons rfl <| .cons rfl <| .cons rfl <| .cons rfl <| .cons rfl <| .cons rfl <| .cons (Eq.trans (b := .bool t11) rfl (congrArg Value.bool c14)) <| .cons (Eq.trans (b := .bool (!t11)) rfl (congrArg Value.bool (congrArg not c14))) <| .cons (Eq.trans (b := .bool (!t11)) rfl (congrArg Value.bool (congrArg not c14))) .nil)
      refine ops_chain (S := Agr _) (.k 8 4 [(21, .int .i64 x2_), (22, .bool (decide (x2_ < 1))), (23, .bool (decide (x2_ < 1))), (24, .bool (decide (x2_ < 1)))] (by kernel_rfl) .nil) (rest := [12, 13, 14, 15, 16, 17, 18, 19]) hE (Agr.refl _) (fun a hE => ?_)
      by_cases c15 : x2_ < 1
      · rw [if_pos c15] at H
        obtain ⟨J, hE⟩ := hE.norm [(0, .agg #[.int .i64 x0_.f0, .slice A0_1 x0_.f1.length c0_1]), (1, .int .i64 x1_), (2, .int .i64 x2_), (3, .agg #[.int .i64 x3_.f0, .int .i64 x3_.f1, .int .i64 x3_.f2, .int .i64 x3_.f3, .int .i64 x3_.f4, .int .i64 x3_.f5, .slice A3_6 x3_.f6.length c3_6]), (4, .pointer (some ⟨b2, 0, none⟩)), (7, .pointer (some ⟨b4, 0, none⟩)), (8, .pointer (some ⟨b6, 0, none⟩)), (9, .int .i64 0), (16, .int .i64 x1_), (17, .bool true), (18, .bool false), (21, .int .i64 x2_), (22, .bool true), (24, .bool true)] (.cons rfl <| .cons rfl <| .cons rfl <| .cons rfl <| .cons rfl <| .cons rfl <| .cons rfl <| .cons rfl <| .cons rfl <| .cons rfl <| .cons rfl <| .cons rfl <| .cons (Eq.trans (b := .bool (decide (x2_ < 1))) rfl (congrArg Value.bool (decide_eq_true c15))) <| .cons (Eq.trans (b := .bool (decide (x2_ < 1))) rfl (congrArg Value.bool (decide_eq_true c15))) .nil)
        refine ops_chain (S := Agr _) (.k 12 8 [(25, undef), (26, undef), (27, .bool true), (28, .bool true), (29, undef), (30, undef), (31, undef), (32, .bool true)] (by kernel_rfl) .nil) (rest := []) hE (Agr.refl _) (fun a hE => ?_)
        refine ops_done ?_
        obtain ⟨J, hE⟩ := hE.norm [(0, .agg #[.int .i64 x0_.f0, .slice A0_1 x0_.f1.length c0_1]), (1, .int .i64 x1_), (2, .int .i64 x2_), (3, .agg #[.int .i64 x3_.f0, .int .i64 x3_.f1, .int .i64 x3_.f2, .int .i64 x3_.f3, .int .i64 x3_.f4, .int .i64 x3_.f5, .slice A3_6 x3_.f6.length c3_6]), (4, .pointer (some ⟨b2, 0, none⟩)), (7, .pointer (some ⟨b4, 0, none⟩)), (8, .pointer (some ⟨b6, 0, none⟩)), (9, .int .i64 0), (32, .bool true)] (.cons rfl <| .cons rfl <| .cons rfl <| .cons rfl <| .cons rfl <| .cons rfl <| .cons rfl <| .cons rfl <| .cons rfl .nil)
        exact J24 _ (by omega) J true _ _ hE hS H
      · rw [if_neg c15] at H
        obtain ⟨J, hE⟩ := hE.norm [(0, .agg #[.int .i64 x0_.f0, .slice A0_1 x0_.f1.length c0_1]), (1, .int .i64 x1_), (2, .int .i64 x2_), (3, .agg #[.int .i64 x3_.f0, .int .i64 x3_.f1, .int .i64 x3_.f2, .int .i64 x3_.f3, .int .i64 x3_.f4, .int .i64 x3_.f5, .slice A3_6 x3_.f6.length c3_6]), (4, .pointer (some ⟨b2, 0, none⟩)), (7, .pointer (some ⟨b4, 0, none⟩)), (8, .pointer (some ⟨b6, 0, none⟩)), (9, .int .i64 0), (16, .int .i64 x1_), (17, .bool true), (18, .bool false), (21, .int .i64 x2_), (22, .bool false), (24, .bool false)] (.cons rfl <| .cons rfl <| .cons rfl <| .cons rfl <| .cons rfl <| .cons rfl <| .cons rfl <| .cons rfl <| .cons rfl <| .cons rfl <| .cons rfl <| .cons rfl <| .cons (Eq.trans (b := .bool (decide (x2_ < 1))) rfl (congrArg Value.bool (decide_eq_false c15))) <| .cons (Eq.trans (b := .bool (decide (x2_ < 1))) rfl (congrArg Value.bool (decide_eq_false c15))) .nil)
        refine ops_chain (S := Agr _) (.k 12 4 [(25, .int .i64 x2_), (26, .bool (decide (x2_ > 256))), (27, .bool (decide (x2_ > 256))), (28, .bool (decide (x2_ > 256)))] (by kernel_rfl) .nil) (rest := [16, 17, 18, 19]) hE (Agr.refl _) (fun a hE => ?_)
        by_cases c16 : x2_ > 256
        · rw [if_pos c16] at H
          obtain ⟨J, hE⟩ := hE.norm [(0, .agg #[.int .i64 x0_.f0, .slice A0_1 x0_.f1.length c0_1]), (1, .int .i64 x1_), (2, .int .i64 x2_), (3, .agg #[.int .i64 x3_.f0, .int .i64 x3_.f1, .int .i64 x3_.f2, .int .i64 x3_.f3, .int .i64 x3_.f4, .int .i64 x3_.f5, .slice A3_6 x3_.f6.length c3_6]), (4, .pointer (some ⟨b2, 0, none⟩)), (7, .pointer (some ⟨b4, 0, none⟩)), (8, .pointer (some ⟨b6, 0, none⟩)), (9, .int .i64 0), (16, .int .i64 x1_), (17, .bool true), (18, .bool false), (21, .int .i64 x2_), (22, .bool false), (25, .int .i64 x2_), (26, .bool true), (28, .bool true)] (.cons rfl <| .cons rfl <| .cons rfl <| .cons rfl <| .cons rfl <| .cons rfl <| .cons rfl <| .cons rfl <| .cons rfl <| .cons rfl <| .cons rfl <| .cons rfl <| .cons rfl <| .cons rfl <| .cons (Eq.trans (b := .bool (decide (x2_ > 256))) rfl (congrArg Value.bool (decide_eq_true c16))) <| .cons (Eq.trans (b := .bool (decide (x2_ > 256))) rfl (congrArg Value.bool (decide_eq_true c16))) .nil)
          refine ops_chain (S := Agr _) (.k 16 4 [(29, undef), (30, undef), (31, undef), (32, .bool true)] (by kernel_rfl) .nil) (rest := []) hE (Agr.refl _) (fun a hE => ?_)
          refine ops_done ?_
          obtain ⟨J, hE⟩ := hE.norm [(0, .agg #[.int .i64 x0_.f0, .slice A0_1 x0_.f1.length c0_1]), (1, .int .i64 x1_), (2, .int .i64 x2_), (3, .agg #[.int .i64 x3_.f0, .int .i64 x3_.f1, .int .i64 x3_.f2, .int .i64 x3_.f3, .int .i64 x3_.f4, .int .i64 x3_.f5, .slice A3_6 x3_.f6.length c3_6]), (4, .pointer (some ⟨b2, 0, none⟩)), (7, .pointer (some ⟨b4, 0, none⟩)), (8, .pointer (some ⟨b6, 0, none⟩)), (9, .int .i64 0), (32, .bool true)] (.cons rfl <| .cons rfl <| .cons rfl <| .cons rfl <| .cons rfl <| .cons rfl <| .cons rfl <| .cons rfl <| .cons rfl .nil)
          exact J24 _ (by omega) J true _ _ hE hS H
        · rw [if_neg c16] at H
          obtain ⟨J, hE⟩ := hE.norm [(0, .agg #[.int .i64 x0_.f0, .slice A0_1 x0_.f1.length c0_1]), (1, .int .i64 x1_), (2, .int .i64 x2_), (3, .agg #[.int .i64 x3_.f0, .int .i64 x3_.f1, .int .i64 x3_.f2, .int .i64 x3_.f3, .int .i64 x3_.f4, .int .i64 x3_.f5, .slice A3_6 x3_.f6.length c3_6]), (4, .pointer (some ⟨b2, 0, none⟩)), (7, .pointer (some ⟨b4, 0, none⟩)), (8, .pointer (some ⟨b6, 0, none⟩)), (9, .int .i64 0), (16, .int .i64 x1_), (17, .bool true), (18, .bool false), (21, .int .i64 x2_), (22, .bool false), (25, .int .i64 x2_), (26, .bool false), (28, .bool false)] (.cons rfl <| .cons rfl <| .cons rfl <| .cons rfl <| .cons rfl <| .cons rfl <| .cons rfl <| .cons rfl <| .cons rfl <| .cons rfl <| .cons rfl <| .cons rfl <| .cons rfl <| .cons rfl <| .cons (Eq.trans (b := .bool (decide (x2_ > 256))) rfl (congrArg Value.bool (decide_eq_false c16))) <| .cons (Eq.trans (b := .bool (decide (x2_ > 256))) rfl (congrArg Value.bool (decide_eq_false c16))) .nil)
          have hb4 := hS.blk_at (i := 1) rfl
          refine ops_chain (S := Agr _) (.v 16 29 rfl rfl rfl rfl (lbn 0 [.int .i64 x3_.f0, .int .i64 x3_.f1, .int .i64 x3_.f2, .int .i64 x3_.f3, .int .i64 x3_.f4, .int .i64 x3_.f5, .slice A3_6 x3_.f6.length c3_6] rfl rfl ag28 sz28 hb4 rfl) .nil) (rest := [17, 18, 19]) hE (Agr.refl _) (fun a hE => ?_)
          obtain ⟨t17, h18, H⟩ := Option.bind_eq_some_iff.mp H
          refine ops_eff 17 hE (some 30) rfl rfl rfl rfl (Eff.call en24 rfl [.agg #[.int .i64 x3_.f0, .int .i64 x3_.f1, .int .i64 x3_.f2, .int .i64 x3_.f3, .int .i64 x3_.f4, .int .i64 x3_.f5, .slice A3_6 x3_.f6.length c3_6]] rfl (windroseref16_Delta.calls k x3_ _ _ _ _ _ hS.own.sub g3_6 h18)) ?_
          rintro _ u19 a ⟨_, rfl, hC⟩ hE
          replace hS := hS.lent hC
          refine ops_chain (S := Agr _) (.k 18 2 [(31, .bool (!t17)), (32, .bool (!t17))] (by kernel_rfl) .nil) (rest := []) hE (Agr.refl _) (fun a hE => ?_)
          refine ops_done ?_
          obtain ⟨J, hE⟩ := hE.norm [(0, .agg #[.int .i64 x0_.f0, .slice A0_1 x0_.f1.length c0_1]), (1, .int .i64 x1_), (2, .int .i64 x2_), (3, .agg #[.int .i64 x3_.f0, .int .i64 x3_.f1, .int .i64 x3_.f2, .int .i64 x3_.f3, .int .i64 x3_.f4, .int .i64 x3_.f5, .slice A3_6 x3_.f6.length c3_6]), (4, .pointer (some ⟨b2, 0, none⟩)), (7, .pointer (some ⟨b4, 0, none⟩)), (8, .pointer (some ⟨b6, 0, none⟩)), (9, .int .i64 0), (32, .bool (!t17))] (.cons rfl <| .cons rfl <| .cons rfl <| .cons rfl <| .cons rfl <| .cons rfl <| .cons rfl <| .cons rfl <| .cons rfl .nil)
          exact J24 _ (by omega) J (!t17) _ _ hE hS H
    · rw [if_neg c14] at H
      obtain ⟨J, hE⟩ := hE.norm [(0, .agg #[.int .i64 x0_.f0, .slice A0_1 x0_.f1.length c0_1]), (1, .int .i64 x1_), (2, .int .i64 x2_), (3, .agg #[.int .i64 x3_.f0, .int .i64 x3_.f1, .int .i64 x3_.f2, .int .i64 x3_.f3, .int .i64 x3_.f4, .int .i64 x3_.f5, .slice A3_6 x3_.f6.length c3_6]), (4, .pointer (some ⟨b2, 0, none⟩)), (7, .pointer (some ⟨b4, 0, none⟩)), (8, .pointer (some ⟨b6, 0, none⟩)), (9, .int .i64 0), (16, .int .i64 x1_), (17, .bool false), (18, .bool true), (20, .bool true)] (.cons rfl <| .cons rfl <| .cons rfl <| .cons rfl <| .cons rfl <| .cons rfl <| .cons rfl <| .cons rfl <| .cons rfl <| .cons (Eq.trans (b := .bool t11) rfl (congrArg Value.bool (eq_false_of_ne_true c14))) <| .cons (Eq.trans (b := .bool (!t11)) rfl (congrArg Value.bool (congrArg not (eq_false_of_ne_true c14)))) <| .cons (Eq.trans (b := .bool (!t11)) rfl (congrArg Value.bool (congrArg not (eq_false_of_ne_true c14)))) .nil)
      refine ops_chain (S := Agr _) (.k 8 12 [(21, undef), (22, undef), (23, .bool true), (24, .bool true), (25, undef), (26, undef), (27, .bool true), (28, .bool true), (29, undef), (30, undef), (31, undef), (32, .bool true)] (by kernel_rfl) .nil) (rest := []) hE (Agr.refl _) (fun a hE => ?_)
      refine ops_done ?_
      obtain ⟨J, hE⟩ := hE.norm [(0, .agg #[.int .i64 x0_.f0, .slice A0_1 x0_.f1.length c0_1]), (1, .int .i64 x1_), (2, .int .i64 x2_), (3, .agg #[.int .i64 x3_.f0, .int .i64 x3_.f1, .int .i64 x3_.f2, .int .i64 x3_.f3, .int .i64 x3_.f4, .int .i64 x3_.f5, .slice A3_6 x3_.f6.length c3_6]), (4, .pointer (some ⟨b2, 0, none⟩)), (7, .pointer (some ⟨b4, 0, none⟩)), (8, .pointer (some ⟨b6, 0, none⟩)), (9, .int .i64 0), (32, .bool true)] (.cons rfl <| .cons rfl <| .cons rfl <| .cons rfl <| .cons rfl <| .cons rfl <| .cons rfl <| .cons rfl <| .cons rfl .nil)
      exact J24 _ (by omega) J true _ _ hE hS H

/-! ### slices.EqualFunc[[]windrose/api.Accepted,[]windrose/api.Accepted,windrose/api.Accepted,windrose/api.Accepted]: function 79 -/
def slices_EqualFunc__api_Accepted_api_Accepted_api_Accepted_api_Accepted_of_acceptor_same.l9 : Nat → List S49 → List S49 → Int → Option Bool
  | 0, _, _, _ => none
  | k + 1, x0_, x1_, x8 => if x8 < (x0_.length : Int) then (if 0 ≤ x8 ∧ x8 < (x0_.length : Int) then (if 0 ≤ x8 ∧ x8 < (x1_.length : Int) then ((acceptor_same.f k (⟨(nth z49 x0_ x8).f0, (⟨(nth z49 x0_ x8).f1.f0, (nth z49 x0_ x8).f1.f1, (nth z49 x0_ x8).f1.f2, (nth z49 x0_ x8).f1.f3, (nth z49 x0_ x8).f1.f4, (nth z49 x0_ x8).f1.f5, (nth z49 x0_ x8).f1.f6⟩ : S28)⟩ : S49) (⟨(nth z49 x1_ x8).f0, (⟨(nth z49 x1_ x8).f1.f0, (nth z49 x1_ x8).f1.f1, (nth z49 x1_ x8).f1.f2, (nth z49 x1_ x8).f1.f3, (nth z49 x1_ x8).f1.f4, (nth z49 x1_ x8).f1.f5, (nth z49 x1_ x8).f1.f6⟩ : S28)⟩ : S49)).bind fun t42 => (if t42 = true then (slices_EqualFunc__api_Accepted_api_Accepted_api_Accepted_api_Accepted_of_acceptor_same.l9 k x0_ x1_ (w64 (x8 + 1))) else (some false))) else (none)) else (none)) else (some true)
theorem slices_EqualFunc__api_Accepted_api_Accepted_api_Accepted_api_Accepted_of_acceptor_same.l9_s (k : Nat) (x0_ : List S49) (x1_ : List S49) (x8 : Int) : slices_EqualFunc__api_Accepted_api_Accepted_api_Accepted_api_Accepted_of_acceptor_same.l9 (k + 1) x0_ x1_ x8 = (if x8 < (x0_.length : Int) then (if 0 ≤ x8 ∧ x8 < (x0_.length : Int) then (if 0 ≤ x8 ∧ x8 < (x1_.length : Int) then ((acceptor_same.f k (⟨(nth z49 x0_ x8).f0, (⟨(nth z49 x0_ x8).f1.f0, (nth z49 x0_ x8).f1.f1, (nth z49 x0_ x8).f1.f2, (nth z49 x0_ x8).f1.f3, (nth z49 x0_ x8).f1.f4, (nth z49 x0_ x8).f1.f5, (nth z49 x0_ x8).f1.f6⟩ : S28)⟩ : S49) (⟨(nth z49 x1_ x8).f0, (⟨(nth z49 x1_ x8).f1.f0, (nth z49 x1_ x8).f1.f1, (nth z49 x1_ x8).f1.f2, (nth z49 x1_ x8).f1.f3, (nth z49 x1_ x8).f1.f4, (nth z49 x1_ x8).f1.f5, (nth z49 x1_ x8).f1.f6⟩ : S28)⟩ : S49)).bind fun t42 => (if t42 = true then (slices_EqualFunc__api_Accepted_api_Accepted_api_Accepted_api_Accepted_of_acceptor_same.l9 k x0_ x1_ (w64 (x8 + 1))) else (some false))) else (none)) else (none)) else (some true)) := by kernel_rfl
def slices_EqualFunc__api_Accepted_api_Accepted_api_Accepted_api_Accepted_of_acceptor_same.f (k : Nat) (x0_ : List S49) (x1_ : List S49) : Option Bool := if (x0_.length : Int) = (x1_.length : Int) then (slices_EqualFunc__api_Accepted_api_Accepted_api_Accepted_api_Accepted_of_acceptor_same.l9 k x0_ x1_ 0) else (some false)
def slices_EqualFunc__api_Accepted_api_Accepted_api_Accepted_api_Accepted_of_acceptor_same.Post (W F : World) (r : Bool) (v : Value) (w' : World) : Prop := ∃ (F' : World), v = .bool r ∧ St W (mine W []) F w' F' []
set_option maxHeartbeats 4000000 in
set_option maxRecDepth 100000 in
theorem slices_EqualFunc__api_Accepted_api_Accepted_api_Accepted_api_Accepted_of_acceptor_same.calls (k : Nat) (x0_ : List S49) (x1_ : List S49) (A0_0 : Option Addr) (c0_0 : Nat) (A1_0 : Option Addr) (c1_0 : Nat) (r : Bool) (W F : World) (hsub : Sub F W) (g0_0 : Rd k49 F A0_0 c0_0 x0_) (g1_0 : Rd k49 F A1_0 c1_0 x1_) (H : slices_EqualFunc__api_Accepted_api_Accepted_api_Accepted_api_Accepted_of_acceptor_same.f k x0_ x1_ = some r) :
    Calls Try.prog 79 #[.slice A0_0 x0_.length c0_0, .slice A1_0 x1_.length c1_0, .func (.func 73) #[] #[]] W fun e w' => ∃ v, e = .returned v ∧ slices_EqualFunc__api_Accepted_api_Accepted_api_Accepted_api_Accepted_of_acceptor_same.Post W F r v w' := by
  have hS := St.start (Own.nil hsub)
  unfold slices_EqualFunc__api_Accepted_api_Accepted_api_Accepted_api_Accepted_of_acceptor_same.f at H
  refine enter (n := 32) rfl rfl rfl (Nat.le_of_ble_eq_true rfl) (fun a hE => ?_)
  refine wp_seq_k fun K1 hK1 => ?_
  refine plain (L := [0]) rfl ?_
  refine ops_chain (S := Agr _) (.k 0 1 [(6, .bool false)] (by kernel_rfl) .nil) (rest := []) hE (Agr.refl _) (fun a hE => ?_)
  refine ops_done ?_
  refine hK1 _ _ ?_
  refine wp_seq_k fun K2 hK2 => ?_
  refine wp_seq_k fun K3 hK3 => ?_
  refine plain (L := [0, 1, 2, 3, 4]) rfl ?_
  refine ops_chain (S := Agr _) (.k 0 1 [(10, .slice A0_0 x0_.length c0_0)] (by kernel_rfl) <| .v 1 11 rfl rfl rfl rfl (YA.s (len_sl rfl rfl ud22)) <| .k 2 1 [(12, .slice A1_0 x1_.length c1_0)] (by kernel_rfl) <| .v 3 13 rfl rfl rfl rfl (YA.s (len_sl rfl rfl ud22)) <| .k 4 1 [(14, .bool (!((x0_.length : Int) == (x1_.length : Int))))] (by kernel_rfl) .nil) (rest := []) hE (Agr.refl _) (fun a hE => ?_)
  refine ops_done ?_
  refine hK3 _ _ ?_
  by_cases c4 : (x0_.length : Int) = (x1_.length : Int)
  · rw [if_pos c4] at H
    refine cond_f hE (b := (!((x0_.length : Int) == (x1_.length : Int)))) rfl (congrArg not (beq_iff_eq.2 c4)) ?_
    refine wp_skip ?_
    refine hK2 _ _ ?_
    refine wp_seq_k fun K6 hK6 => ?_
    refine wp_seq_k fun K7 hK7 => ?_
    refine plain (L := [0, 1, 2]) rfl ?_
    refine ops_chain (S := Agr _) (.k 0 1 [(15, .slice A0_0 x0_.length c0_0)] (by kernel_rfl) <| .v 1 16 rfl rfl rfl rfl (YA.s (len_sl rfl rfl ud22)) <| .k 2 1 [(17, .int .i64 0)] (by kernel_rfl) .nil) (rest := []) hE (Agr.refl _) (fun a hE => ?_)
    refine ops_done ?_
    refine hK7 _ _ ?_
    refine wp_block ?_
    obtain ⟨J, hE⟩ := hE.norm [(0, .slice A0_0 x0_.length c0_0), (1, .slice A1_0 x1_.length c1_0), (2, .func (.func 73) #[] #[]), (6, .bool false), (14, .bool (!((x0_.length : Int) == (x1_.length : Int)))), (15, .slice A0_0 x0_.length c0_0), (16, .int .i64 (x0_.length : Int)), (17, .int .i64 0)] (.cons rfl <| .cons rfl <| .cons rfl <| .cons rfl <| .cons rfl <| .cons rfl <| .cons rfl <| .cons rfl .nil)
    refine wp_loop_ghost (fun kq10 a w' => ∃ (J : Nat → Value) (x8 : Int), Env 32 (updL J [(0, .slice A0_0 x0_.length c0_0), (1, .slice A1_0 x1_.length c1_0), (2, .func (.func 73) #[] #[]), (6, .bool false), (14, .bool (!((x0_.length : Int) == (x1_.length : Int)))), (15, .slice A0_0 x0_.length c0_0), (16, .int .i64 (x0_.length : Int)), (17, .int .i64 x8)]) a ∧ St W (mine W []) F w' F [] ∧  slices_EqualFunc__api_Accepted_api_Accepted_api_Accepted_api_Accepted_of_acceptor_same.l9 kq10 x0_ x1_ x8 = some r) k ⟨J, 0, hE, hS, H⟩ ?_
    rintro kq10 a u12 ⟨J, x8, hE, hS, H⟩
    cases kq10 with
    | zero => cases (show none = some r from H)
    | succ k11 =>
      rw [slices_EqualFunc__api_Accepted_api_Accepted_api_Accepted_api_Accepted_of_acceptor_same.l9_s] at H
      refine wp_seq_k fun K13 hK13 => ?_
      refine plain (L := [0]) rfl ?_
      refine ops_chain (S := Agr _) (.k 0 1 [(18, .bool (decide (x8 < (x0_.length : Int))))] (by kernel_rfl) .nil) (rest := []) hE (Agr.refl _) (fun a hE => ?_)
      refine ops_done ?_
      refine hK13 _ _ ?_
      refine wp_seq_k fun K14 hK14 => ?_
      by_cases c15 : x8 < (x0_.length : Int)
      · rw [if_pos c15] at H
        refine cond_t hE (b := (decide (x8 < (x0_.length : Int)))) rfl (decide_eq_true c15) ?_
        refine wp_skip ?_
        refine hK14 _ _ ?_
        refine wp_seq_k fun K16 hK16 => ?_
        refine wp_block ?_
        refine wp_seq_k fun K17 hK17 => ?_
        refine plain (L := [0, 1, 2, 3, 4, 5]) rfl ?_
        by_cases c18 : 0 ≤ x8 ∧ x8 < (x0_.length : Int)
        rotate_left
        · rw [if_neg c18] at H; cases H
        rw [if_pos c18] at H
        obtain ⟨ad19, rfl⟩ := g0_0.addr c18.1 c18.2
        obtain ⟨cs21, ⟨A23, c24, rfl, g25⟩, hc22⟩ := g0_0.el z49 x8 c18.1 c18.2
        refine ops_chain (S := Agr _) (.k 0 1 [(19, .int .i64 x8)] (by kernel_rfl) <| .v 1 20 rfl rfl rfl rfl (YA.s (ix 8 rfl rfl rfl ud22 sz49 c18.1 c18.2)) <| .v 2 21 rfl rfl rfl rfl (lfn [.int .i64 ((nth z49 x0_ x8).f0), .int .i64 ((nth z49 x0_ x8).f1.f0), .int .i64 ((nth z49 x0_ x8).f1.f1), .int .i64 ((nth z49 x0_ x8).f1.f2), .int .i64 ((nth z49 x0_ x8).f1.f3), .int .i64 ((nth z49 x0_ x8).f1.f4), .int .i64 ((nth z49 x0_ x8).f1.f5), .slice A23 (((nth z49 x0_ x8).f1.f6).length) c24] rfl rfl ag49 sz49 hS.own.sub hc22) .nil) (rest := [3, 4, 5]) hE (Agr.refl _) (fun a hE => ?_)
        refine ops_eff 3 hE (some 8) rfl rfl rfl rfl (e_alloc hS rfl z49z #[.int .i64 0, .int .i64 0, .int .i64 0, .int .i64 0, .int .i64 0, .int .i64 0, .int .i64 0, .slice none 0 0] rfl) ?_
        rintro _ u27 a ⟨b26, rfl, hb26, hS, hg⟩ hE
        refine ops_chain (S := Agr _) (.k 4 1 [(7, .int .i64 x8)] (by kernel_rfl) .nil) (rest := [5]) hE (Agr.refl _) (fun a hE => ?_)
        refine ops_eff 5 hE none rfl rfl rfl rfl (e_store (off := 0) hS rfl rfl rfl sz49 (Nat.le_of_ble_eq_true rfl) (all_one rfl) #[.int .i64 ((nth z49 x0_ x8).f0), .int .i64 ((nth z49 x0_ x8).f1.f0), .int .i64 ((nth z49 x0_ x8).f1.f1), .int .i64 ((nth z49 x0_ x8).f1.f2), .int .i64 ((nth z49 x0_ x8).f1.f3), .int .i64 ((nth z49 x0_ x8).f1.f4), .int .i64 ((nth z49 x0_ x8).f1.f5), .slice A23 (((nth z49 x0_ x8).f1.f6).length) c24] rfl) ?_
        rintro _ u28 a ⟨rfl, hb26, hS, hz⟩ hE
        refine ops_done ?_
        refine hK17 _ _ ?_
        refine wp_seq_k fun K29 hK29 => ?_
        refine plain (L := [0, 1, 2, 3, 4, 5]) rfl ?_
        by_cases c30 : 0 ≤ x8 ∧ x8 < (x1_.length : Int)
        rotate_left
        · rw [if_neg c30] at H; cases H
        rw [if_pos c30] at H
        obtain ⟨ad31, rfl⟩ := g1_0.addr c30.1 c30.2
        obtain ⟨cs33, ⟨A35, c36, rfl, g37⟩, hc34⟩ := g1_0.el z49 x8 c30.1 c30.2
        refine ops_chain (S := Agr _) (.k 0 2 [(22, .slice (some ad31) x1_.length c1_0), (23, .int .i64 x8)] (by kernel_rfl) <| .v 2 24 rfl rfl rfl rfl (YA.s (ix 8 rfl rfl rfl ud22 sz49 c30.1 c30.2)) <| .v 3 25 rfl rfl rfl rfl (lfn [.int .i64 ((nth z49 x1_ x8).f0), .int .i64 ((nth z49 x1_ x8).f1.f0), .int .i64 ((nth z49 x1_ x8).f1.f1), .int .i64 ((nth z49 x1_ x8).f1.f2), .int .i64 ((nth z49 x1_ x8).f1.f3), .int .i64 ((nth z49 x1_ x8).f1.f4), .int .i64 ((nth z49 x1_ x8).f1.f5), .slice A35 (((nth z49 x1_ x8).f1.f6).length) c36] rfl rfl ag49 sz49 hS.own.sub hc34) .nil) (rest := [4, 5]) hE (Agr.refl _) (fun a hE => ?_)
        refine ops_eff 4 hE (some 9) rfl rfl rfl rfl (e_alloc hS rfl z49z #[.int .i64 0, .int .i64 0, .int .i64 0, .int .i64 0, .int .i64 0, .int .i64 0, .int .i64 0, .slice none 0 0] rfl) ?_
        rintro _ u39 a ⟨b38, rfl, hb38, hS, hg⟩ hE
        refine ops_eff 5 hE none rfl rfl rfl rfl (e_store (off := 0) hS rfl rfl rfl sz49 (Nat.le_of_ble_eq_true rfl) (all_one rfl) #[.int .i64 ((nth z49 x1_ x8).f0), .int .i64 ((nth z49 x1_ x8).f1.f0), .int .i64 ((nth z49 x1_ x8).f1.f1), .int .i64 ((nth z49 x1_ x8).f1.f2), .int .i64 ((nth z49 x1_ x8).f1.f3), .int .i64 ((nth z49 x1_ x8).f1.f4), .int .i64 ((nth z49 x1_ x8).f1.f5), .slice A35 (((nth z49 x1_ x8).f1.f6).length) c36] rfl) ?_
        rintro _ u40 a ⟨rfl, hb38, hS, hz⟩ hE
        refine ops_done ?_
        refine hK29 _ _ ?_
        refine wp_seq_k fun K41 hK41 => ?_
        refine plain (L := [0, 1, 2, 3, 4]) rfl ?_
        have hb26 := hS.blk_at (i := 1) rfl
        refine ops_chain (S := Agr _) (.k 0 1 [(26, .func (.func 73) #[] #[])] (by kernel_rfl) <| .v 1 27 rfl rfl rfl rfl (lbn 0 [.int .i64 ((nth z49 x0_ x8).f0), .int .i64 ((nth z49 x0_ x8).f1.f0), .int .i64 ((nth z49 x0_ x8).f1.f1), .int .i64 ((nth z49 x0_ x8).f1.f2), .int .i64 ((nth z49 x0_ x8).f1.f3), .int .i64 ((nth z49 x0_ x8).f1.f4), .int .i64 ((nth z49 x0_ x8).f1.f5), .slice A23 (((nth z49 x0_ x8).f1.f6).length) c24] rfl rfl ag49 sz49 hb26 rfl) <| .v 2 28 rfl rfl rfl rfl (lbn 0 [.int .i64 ((nth z49 x1_ x8).f0), .int .i64 ((nth z49 x1_ x8).f1.f0), .int .i64 ((nth z49 x1_ x8).f1.f1), .int .i64 ((nth z49 x1_ x8).f1.f2), .int .i64 ((nth z49 x1_ x8).f1.f3), .int .i64 ((nth z49 x1_ x8).f1.f4), .int .i64 ((nth z49 x1_ x8).f1.f5), .slice A35 (((nth z49 x1_ x8).f1.f6).length) c36] rfl rfl ag49 sz49 hb38 rfl) .nil) (rest := [3, 4]) hE (Agr.refl _) (fun a hE => ?_)
        obtain ⟨t42, h43, H⟩ := Option.bind_eq_some_iff.mp H
        refine ops_eff 3 hE (some 29) rfl rfl rfl rfl (Eff.callv en73 rfl rfl [.agg #[.int .i64 ((nth z49 x0_ x8).f0), .int .i64 ((nth z49 x0_ x8).f1.f0), .int .i64 ((nth z49 x0_ x8).f1.f1), .int .i64 ((nth z49 x0_ x8).f1.f2), .int .i64 ((nth z49 x0_ x8).f1.f3), .int .i64 ((nth z49 x0_ x8).f1.f4), .int .i64 ((nth z49 x0_ x8).f1.f5), .slice A23 (((nth z49 x0_ x8).f1.f6).length) c24], .agg #[.int .i64 ((nth z49 x1_ x8).f0), .int .i64 ((nth z49 x1_ x8).f1.f0), .int .i64 ((nth z49 x1_ x8).f1.f1), .int .i64 ((nth z49 x1_ x8).f1.f2), .int .i64 ((nth z49 x1_ x8).f1.f3), .int .i64 ((nth z49 x1_ x8).f1.f4), .int .i64 ((nth z49 x1_ x8).f1.f5), .slice A35 (((nth z49 x1_ x8).f1.f6).length) c36]] rfl [.agg #[.int .i64 ((nth z49 x0_ x8).f0), .int .i64 ((nth z49 x0_ x8).f1.f0), .int .i64 ((nth z49 x0_ x8).f1.f1), .int .i64 ((nth z49 x0_ x8).f1.f2), .int .i64 ((nth z49 x0_ x8).f1.f3), .int .i64 ((nth z49 x0_ x8).f1.f4), .int .i64 ((nth z49 x0_ x8).f1.f5), .slice A23 (((nth z49 x0_ x8).f1.f6).length) c24], .agg #[.int .i64 ((nth z49 x1_ x8).f0), .int .i64 ((nth z49 x1_ x8).f1.f0), .int .i64 ((nth z49 x1_ x8).f1.f1), .int .i64 ((nth z49 x1_ x8).f1.f2), .int .i64 ((nth z49 x1_ x8).f1.f3), .int .i64 ((nth z49 x1_ x8).f1.f4), .int .i64 ((nth z49 x1_ x8).f1.f5), .slice A35 (((nth z49 x1_ x8).f1.f6).length) c36]] rfl (acceptor_same.calls k11 (⟨(nth z49 x0_ x8).f0, (⟨(nth z49 x0_ x8).f1.f0, (nth z49 x0_ x8).f1.f1, (nth z49 x0_ x8).f1.f2, (nth z49 x0_ x8).f1.f3, (nth z49 x0_ x8).f1.f4, (nth z49 x0_ x8).f1.f5, (nth z49 x0_ x8).f1.f6⟩ : S28)⟩ : S49) (⟨(nth z49 x1_ x8).f0, (⟨(nth z49 x1_ x8).f1.f0, (nth z49 x1_ x8).f1.f1, (nth z49 x1_ x8).f1.f2, (nth z49 x1_ x8).f1.f3, (nth z49 x1_ x8).f1.f4, (nth z49 x1_ x8).f1.f5, (nth z49 x1_ x8).f1.f6⟩ : S28)⟩ : S49) _ _ _ _ _ _ _ hS.own.sub g25 g37 h43)) ?_
        rintro _ u44 a ⟨_, rfl, hC⟩ hE
        replace hS := hS.lent hC
        refine ops_chain (S := Agr _) (.k 4 1 [(30, .bool (!t42))] (by kernel_rfl) .nil) (rest := []) hE (Agr.refl _) (fun a hE => ?_)
        refine ops_done ?_
        refine hK41 _ _ ?_
        by_cases c45 : t42 = true
        · rw [if_pos c45] at H
          refine cond_f hE (b := (!t42)) rfl (congrArg not c45) ?_
          refine wp_skip ?_
          refine hK16 _ _ ?_
          refine plain (L := [0, 1]) rfl ?_
          refine ops_chain (S := Agr _) (.k 0 2 [(31, .int .i64 (w64 (x8 + 1))), (17, .int .i64 (w64 (x8 + 1)))] (by kernel_rfl) .nil) (rest := []) hE (Agr.refl _) (fun a hE => ?_)
          refine ops_done ?_
          replace hS := hS.tail
          replace hS := hS.tail
          obtain ⟨J, hE⟩ := hE.norm [(0, .slice (some ad19) x0_.length c0_0), (1, .slice (some ad31) x1_.length c1_0), (2, .func (.func 73) #[] #[]), (6, .bool false), (14, .bool (!((x0_.length : Int) == (x1_.length : Int)))), (15, .slice (some ad19) x0_.length c0_0), (16, .int .i64 (x0_.length : Int)), (17, .int .i64 (w64 (x8 + 1)))] (.cons rfl <| .cons rfl <| .cons rfl <| .cons rfl <| .cons rfl <| .cons rfl <| .cons rfl <| .cons rfl .nil)
          exact then_n ⟨k11, by omega, J, (w64 (x8 + 1)), hE, hS, H⟩
        · rw [if_neg c45] at H
          refine cond_t hE (b := (!t42)) rfl (congrArg not (eq_false_of_ne_true c45)) ?_
          refine wp_seq_k fun K46 hK46 => ?_
          refine plain (L := [0]) rfl ?_
          refine ops_chain (S := Agr _) (.k 0 1 [(6, .bool false)] (by kernel_rfl) .nil) (rest := []) hE (Agr.refl _) (fun a hE => ?_)
          refine ops_done ?_
          refine hK46 _ _ ?_
          refine wp_ret (block_ret (then_ret (then_ret (block_ret (then_ret ?_)))))
          replace hS := hS.tail
          replace hS := hS.tail
          obtain rfl := Option.some.inj H
          exact ret1 hE rfl (.tmp rfl .nil) ⟨_, rfl, _, rfl, hS⟩
      · rw [if_neg c15] at H
        refine cond_f hE (b := (decide (x8 < (x0_.length : Int)))) rfl (decide_eq_false c15) ?_
        refine wp_exit ?_
        refine hK6 _ _ ?_
        refine wp_seq_k fun K47 hK47 => ?_
        refine plain (L := [0]) rfl ?_
        refine ops_chain (S := Agr _) (.k 0 1 [(6, .bool true)] (by kernel_rfl) .nil) (rest := []) hE (Agr.refl _) (fun a hE => ?_)
        refine ops_done ?_
        refine hK47 _ _ ?_
        refine wp_ret ?_
        obtain rfl := Option.some.inj H
        exact ret1 hE rfl (.tmp rfl .nil) ⟨_, rfl, _, rfl, hS⟩
  · rw [if_neg c4] at H
    refine cond_t hE (b := (!((x0_.length : Int) == (x1_.length : Int)))) rfl (congrArg not (beq_eq_false_iff_ne.2 c4)) ?_
    refine wp_seq_k fun K5 hK5 => ?_
    refine plain (L := [0]) rfl ?_
    refine ops_chain (S := Agr _) (.k 0 1 [(6, .bool false)] (by kernel_rfl) .nil) (rest := []) hE (Agr.refl _) (fun a hE => ?_)
    refine ops_done ?_
    refine hK5 _ _ ?_
    refine wp_ret (then_ret ?_)
    obtain rfl := Option.some.inj H
    exact ret1 hE rfl (.tmp rfl .nil) ⟨_, rfl, _, rfl, hS⟩

/-! ### windrose/acceptor.Same: function 29 -/
def acceptor_Same.f (k : Nat) (x0_ : S24) (x1_ : S24) : Option Bool := if x0_.f0 = x1_.f0 then ((slices_EqualFunc__api_Accepted_api_Accepted_api_Accepted_api_Accepted_of_acceptor_same.f k x0_.f1 x1_.f1).bind fun t8 => (some t8)) else (some false)
def acceptor_Same.Post (W F : World) (r : Bool) (v : Value) (w' : World) : Prop := ∃ (F' : World), v = .bool r ∧ St W (mine W []) F w' F' []
set_option maxHeartbeats 4000000 in
set_option maxRecDepth 100000 in
theorem acceptor_Same.calls (k : Nat) (x0_ : S24) (x1_ : S24) (A0_1 : Option Addr) (c0_1 : Nat) (A1_1 : Option Addr) (c1_1 : Nat) (r : Bool) (W F : World) (hsub : Sub F W) (g0_1 : Rd k49 F A0_1 c0_1 x0_.f1) (g1_1 : Rd k49 F A1_1 c1_1 x1_.f1) (H : acceptor_Same.f k x0_ x1_ = some r) :
    Calls Try.prog 29 #[.agg #[.int .i64 x0_.f0, .slice A0_1 x0_.f1.length c0_1], .agg #[.int .i64 x1_.f0, .slice A1_1 x1_.f1.length c1_1]] W fun e w' => ∃ v, e = .returned v ∧ acceptor_Same.Post W F r v w' := by
  have hS := St.start (Own.nil hsub)
  unfold acceptor_Same.f at H
  refine enter (n := 17) rfl rfl rfl (Nat.le_of_ble_eq_true rfl) (fun a hE => ?_)
  refine wp_seq_k fun K1 hK1 => ?_
  refine plain (L := [0, 1, 2]) rfl ?_
  refine ops_eff 0 hE (some 2) rfl rfl rfl rfl (e_box hS rfl rfl #[.int .i64 x0_.f0, .slice A0_1 x0_.f1.length c0_1] rfl) ?_
  rintro _ u3 a ⟨b2, rfl, hb2, hS, hg⟩ hE
  refine ops_eff 1 hE (some 3) rfl rfl rfl rfl (e_box hS rfl rfl #[.int .i64 x1_.f0, .slice A1_1 x1_.f1.length c1_1] rfl) ?_
  rintro _ u5 a ⟨b4, rfl, hb4, hS, hg⟩ hE
  refine ops_chain (S := Agr _) (.k 2 1 [(4, .bool false)] (by kernel_rfl) .nil) (rest := []) hE (Agr.refl _) (fun a hE => ?_)
  refine ops_done ?_
  refine hK1 _ _ ?_
  refine wp_seq_k fun K6 hK6 => ?_
  refine plain (L := [0, 1, 2, 3, 4, 5, 6, 7, 8, 9, 10, 11, 12]) rfl ?_
  have hb2 := hS.blk_at (i := 1) rfl
  refine ops_chain (S := Agr _) (.k 0 1 [(5, .pointer (some ⟨b2, 0, none⟩))] (by kernel_rfl) <| .v 1 6 rfl rfl rfl rfl (lb1 0 (.int .i64 x0_.f0) rfl rfl ag3 hb2 rfl) <| .k 2 1 [(7, .pointer (some ⟨b4, 0, none⟩))] (by kernel_rfl) <| .v 3 8 rfl rfl rfl rfl (lb1 0 (.int .i64 x1_.f0) rfl rfl ag3 hb4 rfl) <| .k 4 2 [(9, .bool (x0_.f0 == x1_.f0)), (10, .bool (x0_.f0 == x1_.f0))] (by kernel_rfl) .nil) (rest := [6, 7, 8, 9, 10, 11, 12]) hE (Agr.refl _) (fun a hE => ?_)
  by_cases c7 : x0_.f0 = x1_.f0
  · rw [if_pos c7] at H
    obtain ⟨J, hE⟩ := hE.norm [(0, .agg #[.int .i64 x0_.f0, .slice A0_1 x0_.f1.length c0_1]), (1, .agg #[.int .i64 x1_.f0, .slice A1_1 x1_.f1.length c1_1]), (2, .pointer (some ⟨b2, 0, none⟩)), (3, .pointer (some ⟨b4, 0, none⟩)), (4, .bool false), (10, .bool true)] (.cons rfl <| .cons rfl <| .cons rfl <| .cons rfl <| .cons rfl <| .cons (Eq.trans (b := .bool (x0_.f0 == x1_.f0)) rfl (congrArg Value.bool (beq_iff_eq.2 c7))) .nil)
    refine ops_chain (S := Agr _) (.k 6 1 [(11, .pointer (some ⟨b2, 1, none⟩))] (by kernel_rfl) <| .v 7 12 rfl rfl rfl rfl (lb1 1 (.slice A0_1 x0_.f1.length c0_1) rfl rfl ag22 hb2 rfl) <| .k 8 1 [(13, .pointer (some ⟨b4, 1, none⟩))] (by kernel_rfl) <| .v 9 14 rfl rfl rfl rfl (lb1 1 (.slice A1_1 x1_.f1.length c1_1) rfl rfl ag22 hb4 rfl) .nil) (rest := [10, 11, 12]) hE (Agr.refl _) (fun a hE => ?_)
    obtain ⟨t8, h9, H⟩ := Option.bind_eq_some_iff.mp H
    refine ops_eff 10 hE (some 15) rfl rfl rfl rfl (Eff.call en79 rfl [.slice A0_1 x0_.f1.length c0_1, .slice A1_1 x1_.f1.length c1_1, .func (.func 73) #[] #[]] rfl (slices_EqualFunc__api_Accepted_api_Accepted_api_Accepted_api_Accepted_of_acceptor_same.calls k x0_.f1 x1_.f1 _ _ _ _ _ _ _ hS.own.sub g0_1 g1_1 h9)) ?_
    rintro _ u10 a ⟨_, rfl, hC⟩ hE
    replace hS := hS.lent hC
    refine ops_chain (S := Agr _) (.k 11 2 [(16, .bool t8), (4, .bool t8)] (by kernel_rfl) .nil) (rest := []) hE (Agr.refl _) (fun a hE => ?_)
    refine ops_done ?_
    refine hK6 _ _ ?_
    refine wp_ret ?_
    replace hS := hS.tail
    replace hS := hS.tail
    obtain rfl := Option.some.inj H
    exact ret1 hE rfl (.tmp rfl .nil) ⟨_, rfl, _, rfl, hS⟩
  · rw [if_neg c7] at H
    obtain ⟨J, hE⟩ := hE.norm [(0, .agg #[.int .i64 x0_.f0, .slice A0_1 x0_.f1.length c0_1]), (1, .agg #[.int .i64 x1_.f0, .slice A1_1 x1_.f1.length c1_1]), (2, .pointer (some ⟨b2, 0, none⟩)), (3, .pointer (some ⟨b4, 0, none⟩)), (4, .bool false), (10, .bool false)] (.cons rfl <| .cons rfl <| .cons rfl <| .cons rfl <| .cons rfl <| .cons (Eq.trans (b := .bool (x0_.f0 == x1_.f0)) rfl (congrArg Value.bool (beq_eq_false_iff_ne.2 c7))) .nil)
    refine ops_chain (S := Agr _) (.k 6 7 [(11, undef), (12, undef), (13, undef), (14, undef), (15, undef), (16, .bool false), (4, .bool false)] (by kernel_rfl) .nil) (rest := []) hE (Agr.refl _) (fun a hE => ?_)
    refine ops_done ?_
    refine hK6 _ _ ?_
    refine wp_ret ?_
    replace hS := hS.tail
    replace hS := hS.tail
    obtain rfl := Option.some.inj H
    exact ret1 hE rfl (.tmp rfl .nil) ⟨_, rfl, _, rfl, hS⟩

end Go.Proofs.Ytilgmccdpddeoaa.SX
