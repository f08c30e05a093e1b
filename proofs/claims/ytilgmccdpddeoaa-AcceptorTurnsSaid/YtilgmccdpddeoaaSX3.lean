/- Functions of the program, what each computes (written by wip/s/sl.py). -/
import Derived.Test.YtilgmccdpddeoaaSX2
namespace Go.Proofs.Ytilgmccdpddeoaa.SX
open Go Go.RowKit Go.Proofs.Ytilgmccdpddeoaa.Sl
set_option linter.unusedVariables false
set_option linter.unusedSimpArgs false
/-! ### windrose/windroselaw16.awake: function 18 -/
def windroselaw16_awake.f (k : Nat) : Option Bool := (acceptor_Prepare.f k (⟨0, []⟩ : S24) 5 1).bind fun t3 => ((acceptor_Accept.f k t3.1 3 1 (⟨9, 0, 0, 0, 0, 0, []⟩ : S28)).bind fun t18 => ((acceptor_Accept.f k t3.1 5 2 (⟨3, 3, 0, 0, 0, 0, []⟩ : S28)).bind fun t30 => (if t3.2.2 = 0 then (if (t3.2.1.length : Int) = 0 then (if t18.2 = 9 then (if t30.2 = 0 then (if (t30.1.f1.length : Int) = 2 then (if 0 ≤ (1 : Int) ∧ 1 < (t30.1.f1.length : Int) then (some ((nth z49 t30.1.f1 1).f1.f1 == 3)) else (none)) else (some false)) else (some false)) else (some false)) else (some false)) else (some false))))
def windroselaw16_awake.Post (W F : World) (r : Bool) (v : Value) (w' : World) : Prop := ∃ (F' : World), v = .bool r ∧ St W (mine W []) F w' F' []
set_option maxHeartbeats 4000000 in
set_option maxRecDepth 100000 in
theorem windroselaw16_awake.calls (k : Nat) (r : Bool) (W F : World) (hsub : Sub F W) (H : windroselaw16_awake.f k = some r) :
    Calls Try.prog 18 #[] W fun e w' => ∃ v, e = .returned v ∧ windroselaw16_awake.Post W F r v w' := by
  have hS := St.start (Own.nil hsub)
  unfold windroselaw16_awake.f at H
  refine enter (n := 55) rfl rfl rfl (Nat.le_of_ble_eq_true rfl) (fun a hE => ?_)
  refine wp_seq_k fun K1 hK1 => ?_
  refine plain (L := [0]) rfl ?_
  refine ops_chain (S := Agr _) (.k 0 1 [(0, .bool false)] (by kernel_rfl) .nil) (rest := []) hE (Agr.refl _) (fun a hE => ?_)
  refine ops_done ?_
  refine hK1 _ _ ?_
  refine wp_seq_k fun K2 hK2 => ?_
  refine plain (L := [0, 1, 2, 3, 4, 5, 6, 7, 8, 9]) rfl ?_
  refine ops_chain (S := Agr _) (.v 0 8 rfl rfl rfl rfl (YA.s (x_build [] (.agg #[.int .i64 0, .slice none 0 0]) rfl rfl (fun w => by kernel_rfl))) .nil) (rest := [1, 2, 3, 4, 5, 6, 7, 8, 9]) hE (Agr.refl _) (fun a hE => ?_)
  obtain ⟨t3, h4, H⟩ := Option.bind_eq_some_iff.mp H
  refine ops_eff 1 hE (some 9) rfl rfl rfl rfl (Eff.call en19 rfl [.agg #[.int .i64 0, .slice none 0 0], .int .i64 5, .int .i64 1] rfl (acceptor_Prepare.calls k (⟨0, []⟩ : S24) 5 1 _ _ _ _ _ hS.own.sub (Rd.nil _ _) h4)) ?_
  rintro _ u5 a ⟨F6, A7, c8, A10, c11, rfl, hC, g9⟩ hE
  have hs := hC.sub
  replace hS : St W (mine W []) F u5 F6 [row k49 49 (.slice A10 t3.2.1.length c11) t3.2.1] := hS.called (X := []) (Y := [row k49 49 (.slice A10 t3.2.1.length c11) t3.2.1]) hC
  refine ops_chain (S := Agr _) (.k 2 4 [(7, .tuple #[.agg #[.int .i64 t3.1.f0, .slice A7 t3.1.f1.length c8], .slice A10 t3.2.1.length c11, .int .i64 t3.2.2]), (10, .agg #[.int .i64 t3.1.f0, .slice A7 t3.1.f1.length c8]), (11, .slice A10 t3.2.1.length c11), (12, .int .i64 t3.2.2)] (by kernel_rfl) .nil) (rest := [6, 7, 8, 9]) hE (Agr.refl _) (fun a hE => ?_)
  refine ops_eff 6 hE (some 1) rfl rfl rfl rfl (e_alloc hS rfl z24z #[.int .i64 0, .slice none 0 0] rfl) ?_
  rintro _ u15 a ⟨b14, rfl, hb14, hS, hg⟩ hE
  refine ops_eff 7 hE none rfl rfl rfl rfl (e_store (off := 0) hS rfl rfl rfl sz24 (Nat.le_of_ble_eq_true rfl) (all_one rfl) #[.int .i64 t3.1.f0, .slice A7 t3.1.f1.length c8] rfl) ?_
  rintro _ u16 a ⟨rfl, hb14, hS, hz⟩ hE
  refine ops_chain (S := Agr _) (.k 8 2 [(2, .slice A10 t3.2.1.length c11), (3, .int .i64 t3.2.2)] (by kernel_rfl) .nil) (rest := []) hE (Agr.refl _) (fun a hE => ?_)
  refine ops_done ?_
  refine hK2 _ _ ?_
  refine wp_seq_k fun K17 hK17 => ?_
  refine plain (L := [0, 1, 2, 3, 4, 5, 6, 7, 8]) rfl ?_
  refine ops_chain (S := Agr _) (.v 0 14 rfl rfl rfl rfl (lbn 0 [.int .i64 t3.1.f0, .slice A7 t3.1.f1.length c8] rfl rfl ag24 sz24 hb14 rfl) <| .v 1 15 rfl rfl rfl rfl (YA.s (x_build [(0, .int .i64 9)] (.agg #[.int .i64 9, .int .i64 0, .int .i64 0, .int .i64 0, .int .i64 0, .int .i64 0, .slice none 0 0]) rfl rfl (fun w => by kernel_rfl))) .nil) (rest := [2, 3, 4, 5, 6, 7, 8]) hE (Agr.refl _) (fun a hE => ?_)
  obtain ⟨t18, h19, H⟩ := Option.bind_eq_some_iff.mp H
  refine ops_eff 2 hE (some 16) rfl rfl rfl rfl (Eff.call en20 rfl [.agg #[.int .i64 t3.1.f0, .slice A7 t3.1.f1.length c8], .int .i64 3, .int .i64 1, .agg #[.int .i64 9, .int .i64 0, .int .i64 0, .int .i64 0, .int .i64 0, .int .i64 0, .slice none 0 0]] rfl (acceptor_Accept.calls k t3.1 3 1 (⟨9, 0, 0, 0, 0, 0, []⟩ : S28) _ _ _ _ _ _ _ hS.own.sub g9 (Rd.nil _ _) h19)) ?_
  rintro _ u20 a ⟨F21, A22, c23, rfl, hC⟩ hE
  have hs := hC.sub
  replace hS : St W (mine W []) F u20 F21 [row k49 49 (.slice A22 t18.1.f1.length c23) t18.1.f1, box b14 #[.int .i64 t3.1.f0, .slice A7 t3.1.f1.length c8] 24, row k49 49 (.slice A10 t3.2.1.length c11) t3.2.1] := hS.called (X := []) (Y := [row k49 49 (.slice A22 t18.1.f1.length c23) t18.1.f1]) hC
  replace g9 := g9.mono hs
  refine ops_chain (S := Agr _) (.k 3 3 [(13, .tuple #[.agg #[.int .i64 t18.1.f0, .slice A22 t18.1.f1.length c23], .int .i64 t18.2]), (17, .agg #[.int .i64 t18.1.f0, .slice A22 t18.1.f1.length c23]), (18, .int .i64 t18.2)] (by kernel_rfl) .nil) (rest := [6, 7, 8]) hE (Agr.refl _) (fun a hE => ?_)
  refine ops_eff 6 hE (some 4) rfl rfl rfl rfl (e_alloc hS rfl z24z #[.int .i64 0, .slice none 0 0] rfl) ?_
  rintro _ u27 a ⟨b26, rfl, hb26, hS, hg⟩ hE
  refine ops_eff 7 hE none rfl rfl rfl rfl (e_store (off := 0) hS rfl rfl rfl sz24 (Nat.le_of_ble_eq_true rfl) (all_one rfl) #[.int .i64 t18.1.f0, .slice A22 t18.1.f1.length c23] rfl) ?_
  rintro _ u28 a ⟨rfl, hb26, hS, hz⟩ hE
  refine ops_chain (S := Agr _) (.k 8 1 [(5, .int .i64 t18.2)] (by kernel_rfl) .nil) (rest := []) hE (Agr.refl _) (fun a hE => ?_)
  refine ops_done ?_
  refine hK17 _ _ ?_
  refine wp_seq_k fun K29 hK29 => ?_
  refine plain (L := [0, 1, 2, 3, 4, 5, 6, 7]) rfl ?_
  have hb14 := hS.blk_at (i := 2) rfl
  refine ops_chain (S := Agr _) (.v 0 20 rfl rfl rfl rfl (lbn 0 [.int .i64 t3.1.f0, .slice A7 t3.1.f1.length c8] rfl rfl ag24 sz24 hb14 rfl) <| .v 1 21 rfl rfl rfl rfl (YA.s (x_build [(0, .int .i64 3), (1, .int .i64 3)] (.agg #[.int .i64 3, .int .i64 3, .int .i64 0, .int .i64 0, .int .i64 0, .int .i64 0, .slice none 0 0]) rfl rfl (fun w => by kernel_rfl))) .nil) (rest := [2, 3, 4, 5, 6, 7]) hE (Agr.refl _) (fun a hE => ?_)
  obtain ⟨t30, h31, H⟩ := Option.bind_eq_some_iff.mp H
  refine ops_eff 2 hE (some 22) rfl rfl rfl rfl (Eff.call en20 rfl [.agg #[.int .i64 t3.1.f0, .slice A7 t3.1.f1.length c8], .int .i64 5, .int .i64 2, .agg #[.int .i64 3, .int .i64 3, .int .i64 0, .int .i64 0, .int .i64 0, .int .i64 0, .slice none 0 0]] rfl (acceptor_Accept.calls k t3.1 5 2 (⟨3, 3, 0, 0, 0, 0, []⟩ : S28) _ _ _ _ _ _ _ hS.own.sub g9 (Rd.nil _ _) h31)) ?_
  rintro _ u32 a ⟨F33, A34, c35, rfl, hC⟩ hE
  have hs := hC.sub
  replace hS : St W (mine W []) F u32 F33 [row k49 49 (.slice A34 t30.1.f1.length c35) t30.1.f1, box b26 #[.int .i64 t18.1.f0, .slice A22 t18.1.f1.length c23] 24, row k49 49 (.slice A22 t18.1.f1.length c23) t18.1.f1, box b14 #[.int .i64 t3.1.f0, .slice A7 t3.1.f1.length c8] 24, row k49 49 (.slice A10 t3.2.1.length c11) t3.2.1] := hS.called (X := []) (Y := [row k49 49 (.slice A34 t30.1.f1.length c35) t30.1.f1]) hC
  replace g9 := g9.mono hs
  refine ops_chain (S := Agr _) (.k 3 3 [(19, .tuple #[.agg #[.int .i64 t30.1.f0, .slice A34 t30.1.f1.length c35], .int .i64 t30.2]), (23, .agg #[.int .i64 t30.1.f0, .slice A34 t30.1.f1.length c35]), (24, .int .i64 t30.2)] (by kernel_rfl) .nil) (rest := [6, 7]) hE (Agr.refl _) (fun a hE => ?_)
  replace hS := hS.front 3 rfl
  refine ops_eff 6 hE none rfl rfl rfl rfl (e_store (off := 0) hS rfl rfl rfl sz24 (Nat.le_of_ble_eq_true rfl) (all_one rfl) #[.int .i64 t30.1.f0, .slice A34 t30.1.f1.length c35] rfl) ?_
  rintro _ u38 a ⟨rfl, hb14, hS, hz⟩ hE
  refine ops_chain (S := Agr _) (.k 7 1 [(6, .int .i64 t30.2)] (by kernel_rfl) .nil) (rest := []) hE (Agr.refl _) (fun a hE => ?_)
  refine ops_done ?_
  refine hK29 _ _ ?_
  refine wp_seq_k fun K39 hK39 => ?_
  refine plain (L := [0, 1, 2, 3, 4, 5, 6, 7, 8, 9, 10, 11, 12, 13, 14, 15, 16, 17, 18, 19, 20, 21, 22, 23, 24, 25, 26, 27, 28, 29, 30]) rfl ?_
  refine ops_chain (S := Agr _) (.k 0 3 [(25, .int .i64 t3.2.2), (26, .bool (t3.2.2 == 0)), (27, .bool (t3.2.2 == 0))] (by kernel_rfl) .nil) (rest := [3, 4, 5, 6, 7, 8, 9, 10, 11, 12, 13, 14, 15, 16, 17, 18, 19, 20, 21, 22, 23, 24, 25, 26, 27, 28, 29, 30]) hE (Agr.refl _) (fun a hE => ?_)
  by_cases c40 : t3.2.2 = 0
  · rw [if_pos c40] at H
    obtain ⟨J, hE⟩ := hE.norm [(0, .bool false), (1, .pointer (some ⟨b14, 0, none⟩)), (2, .slice A10 t3.2.1.length c11), (3, .int .i64 t3.2.2), (5, .int .i64 t18.2), (6, .int .i64 t30.2), (27, .bool true)] (.cons rfl <| .cons rfl <| .cons rfl <| .cons rfl <| .cons rfl <| .cons rfl <| .cons (Eq.trans (b := .bool (t3.2.2 == 0)) rfl (congrArg Value.bool (beq_iff_eq.2 c40))) .nil)
    refine ops_chain (S := Agr _) (.k 3 1 [(28, .slice A10 t3.2.1.length c11)] (by kernel_rfl) <| .v 4 29 rfl rfl rfl rfl (YA.s (len_sl rfl rfl ud22)) <| .k 5 3 [(30, .bool ((t3.2.1.length : Int) == 0)), (31, .bool ((t3.2.1.length : Int) == 0)), (32, .bool ((t3.2.1.length : Int) == 0))] (by kernel_rfl) .nil) (rest := [8, 9, 10, 11, 12, 13, 14, 15, 16, 17, 18, 19, 20, 21, 22, 23, 24, 25, 26, 27, 28, 29, 30]) hE (Agr.refl _) (fun a hE => ?_)
    by_cases c41 : (t3.2.1.length : Int) = 0
    · rw [if_pos c41] at H
      obtain ⟨J, hE⟩ := hE.norm [(0, .bool false), (1, .pointer (some ⟨b14, 0, none⟩)), (2, .slice A10 t3.2.1.length c11), (3, .int .i64 t3.2.2), (5, .int .i64 t18.2), (6, .int .i64 t30.2), (28, .slice A10 t3.2.1.length c11), (29, .int .i64 (t3.2.1.length : Int)), (30, .bool true), (32, .bool true)] (.cons rfl <| .cons rfl <| .cons rfl <| .cons rfl <| .cons rfl <| .cons rfl <| .cons rfl <| .cons rfl <| .cons (Eq.trans (b := .bool ((t3.2.1.length : Int) == 0)) rfl (congrArg Value.bool (beq_iff_eq.2 c41))) <| .cons (Eq.trans (b := .bool ((t3.2.1.length : Int) == 0)) rfl (congrArg Value.bool (beq_iff_eq.2 c41))) .nil)
      refine ops_chain (S := Agr _) (.k 8 4 [(33, .int .i64 t18.2), (34, .bool (t18.2 == 9)), (35, .bool (t18.2 == 9)), (36, .bool (t18.2 == 9))] (by kernel_rfl) .nil) (rest := [12, 13, 14, 15, 16, 17, 18, 19, 20, 21, 22, 23, 24, 25, 26, 27, 28, 29, 30]) hE (Agr.refl _) (fun a hE => ?_)
      by_cases c42 : t18.2 = 9
      · rw [if_pos c42] at H
        obtain ⟨J, hE⟩ := hE.norm [(0, .bool false), (1, .pointer (some ⟨b14, 0, none⟩)), (2, .slice A10 t3.2.1.length c11), (3, .int .i64 t3.2.2), (5, .int .i64 t18.2), (6, .int .i64 t30.2), (28, .slice A10 t3.2.1.length c11), (29, .int .i64 (t3.2.1.length : Int)), (30, .bool true), (33, .int .i64 t18.2), (34, .bool true), (36, .bool true)] (.cons rfl <| .cons rfl <| .cons rfl <| .cons rfl <| .cons rfl <| .cons rfl <| .cons rfl <| .cons rfl <| .cons rfl <| .cons rfl <| .cons (Eq.trans (b := .bool (t18.2 == 9)) rfl (congrArg Value.bool (beq_iff_eq.2 c42))) <| .cons (Eq.trans (b := .bool (t18.2 == 9)) rfl (congrArg Value.bool (beq_iff_eq.2 c42))) .nil)
        refine ops_chain (S := Agr _) (.k 12 4 [(37, .int .i64 t30.2), (38, .bool (t30.2 == 0)), (39, .bool (t30.2 == 0)), (40, .bool (t30.2 == 0))] (by kernel_rfl) .nil) (rest := [16, 17, 18, 19, 20, 21, 22, 23, 24, 25, 26, 27, 28, 29, 30]) hE (Agr.refl _) (fun a hE => ?_)
        by_cases c43 : t30.2 = 0
        · rw [if_pos c43] at H
          obtain ⟨J, hE⟩ := hE.norm [(0, .bool false), (1, .pointer (some ⟨b14, 0, none⟩)), (2, .slice A10 t3.2.1.length c11), (3, .int .i64 t3.2.2), (5, .int .i64 t18.2), (6, .int .i64 t30.2), (28, .slice A10 t3.2.1.length c11), (29, .int .i64 (t3.2.1.length : Int)), (30, .bool true), (33, .int .i64 t18.2), (34, .bool true), (37, .int .i64 t30.2), (38, .bool true), (40, .bool true)] (.cons rfl <| .cons rfl <| .cons rfl <| .cons rfl <| .cons rfl <| .cons rfl <| .cons rfl <| .cons rfl <| .cons rfl <| .cons rfl <| .cons rfl <| .cons rfl <| .cons (Eq.trans (b := .bool (t30.2 == 0)) rfl (congrArg Value.bool (beq_iff_eq.2 c43))) <| .cons (Eq.trans (b := .bool (t30.2 == 0)) rfl (congrArg Value.bool (beq_iff_eq.2 c43))) .nil)
          refine ops_chain (S := Agr _) (.k 16 1 [(41, .pointer (some ⟨b14, 1, none⟩))] (by kernel_rfl) <| .v 17 42 rfl rfl rfl rfl (lb1 1 (.slice A34 t30.1.f1.length c35) rfl rfl ag22 hb14 rfl) <| .v 18 43 rfl rfl rfl rfl (YA.s (len_sl rfl rfl ud22)) <| .k 19 3 [(44, .bool ((t30.1.f1.length : Int) == 2)), (45, .bool ((t30.1.f1.length : Int) == 2)), (46, .bool ((t30.1.f1.length : Int) == 2))] (by kernel_rfl) .nil) (rest := [22, 23, 24, 25, 26, 27, 28, 29, 30]) hE (Agr.refl _) (fun a hE => ?_)
          by_cases c44 : (t30.1.f1.length : Int) = 2
          · rw [if_pos c44] at H
            obtain ⟨J, hE⟩ := hE.norm [(0, .bool false), (1, .pointer (some ⟨b14, 0, none⟩)), (2, .slice A10 t3.2.1.length c11), (3, .int .i64 t3.2.2), (5, .int .i64 t18.2), (6, .int .i64 t30.2), (28, .slice A10 t3.2.1.length c11), (29, .int .i64 (t3.2.1.length : Int)), (30, .bool true), (33, .int .i64 t18.2), (34, .bool true), (37, .int .i64 t30.2), (38, .bool true), (41, .pointer (some ⟨b14, 1, none⟩)), (42, .slice A34 t30.1.f1.length c35), (43, .int .i64 (t30.1.f1.length : Int)), (44, .bool true), (46, .bool true)] (.cons rfl <| .cons rfl <| .cons rfl <| .cons rfl <| .cons rfl <| .cons rfl <| .cons rfl <| .cons rfl <| .cons rfl <| .cons rfl <| .cons rfl <| .cons rfl <| .cons rfl <| .cons rfl <| .cons rfl <| .cons rfl <| .cons (Eq.trans (b := .bool ((t30.1.f1.length : Int) == 2)) rfl (congrArg Value.bool (beq_iff_eq.2 c44))) <| .cons (Eq.trans (b := .bool ((t30.1.f1.length : Int) == 2)) rfl (congrArg Value.bool (beq_iff_eq.2 c44))) .nil)
            by_cases c45 : 0 ≤ (1 : Int) ∧ 1 < (t30.1.f1.length : Int)
            rotate_left
            · rw [if_neg c45] at H; cases H
            rw [if_pos c45] at H
            have hr46 := hS.row_at (i := 1) rfl
            obtain ⟨b47, rfl⟩ := row_addr hr46 c45.1 c45.2
            have hr_ := hS.row_at (i := 1) rfl
            obtain ⟨cs49, ⟨A51, c52, rfl, g53⟩, hc50⟩ := row_el hr_ z49 1 c45.1 c45.2
            refine ops_chain (S := Agr _) (.k 22 1 [(47, .pointer (some ⟨b14, 1, none⟩))] (by kernel_rfl) <| .v 23 48 rfl rfl rfl rfl (lb1 1 (.slice (some ⟨b47, 0, none⟩) t30.1.f1.length c35) rfl rfl ag22 hb14 rfl) <| .v 24 49 rfl rfl rfl rfl (YA.s (ix 8 rfl rfl rfl ud22 sz49 c45.1 c45.2)) <| .k 25 2 [(50, .pointer (some (((⟨b47, 0, none⟩ : Addr).add ((1 : Int).toNat * 8)).add 1))), (51, .pointer (some ((((⟨b47, 0, none⟩ : Addr).add ((1 : Int).toNat * 8)).add 1).add 1)))] (by kernel_rfl) <| .v 27 52 rfl rfl rfl rfl (lo1 (.int .i64 ((nth z49 t30.1.f1 1).f1.f1)) rfl rfl ag3 (cell_at hc50 1 1 rfl)) <| .k 28 3 [(53, .bool ((nth z49 t30.1.f1 1).f1.f1 == 3)), (54, .bool ((nth z49 t30.1.f1 1).f1.f1 == 3)), (0, .bool ((nth z49 t30.1.f1 1).f1.f1 == 3))] (by kernel_rfl) .nil) (rest := []) hE (Agr.refl _) (fun a hE => ?_)
            refine ops_done ?_
            refine hK39 _ _ ?_
            refine wp_ret ?_
            replace hS := hS.tail
            replace hS := hS.tail
            replace hS := hS.tail
            replace hS := hS.tail
            replace hS := hS.tail
            obtain rfl := Option.some.inj H
            exact ret1 hE rfl (.tmp rfl .nil) ⟨_, rfl, _, rfl, hS⟩
          · rw [if_neg c44] at H
            obtain ⟨J, hE⟩ := hE.norm [(0, .bool false), (1, .pointer (some ⟨b14, 0, none⟩)), (2, .slice A10 t3.2.1.length c11), (3, .int .i64 t3.2.2), (5, .int .i64 t18.2), (6, .int .i64 t30.2), (28, .slice A10 t3.2.1.length c11), (29, .int .i64 (t3.2.1.length : Int)), (30, .bool true), (33, .int .i64 t18.2), (34, .bool true), (37, .int .i64 t30.2), (38, .bool true), (41, .pointer (some ⟨b14, 1, none⟩)), (42, .slice A34 t30.1.f1.length c35), (43, .int .i64 (t30.1.f1.length : Int)), (44, .bool false), (46, .bool false)] (.cons rfl <| .cons rfl <| .cons rfl <| .cons rfl <| .cons rfl <| .cons rfl <| .cons rfl <| .cons rfl <| .cons rfl <| .cons rfl <| .cons rfl <| .cons rfl <| .cons rfl <| .cons rfl <| .cons rfl <| .cons rfl <| .cons (Eq.trans (b := .bool ((t30.1.f1.length : Int) == 2)) rfl (congrArg Value.bool (beq_eq_false_iff_ne.2 c44))) <| .cons (Eq.trans (b := .bool ((t30.1.f1.length : Int) == 2)) rfl (congrArg Value.bool (beq_eq_false_iff_ne.2 c44))) .nil)
            refine ops_chain (S := Agr _) (.k 22 9 [(47, undef), (48, undef), (49, undef), (50, undef), (51, undef), (52, undef), (53, undef), (54, .bool false), (0, .bool false)] (by kernel_rfl) .nil) (rest := []) hE (Agr.refl _) (fun a hE => ?_)
            refine ops_done ?_
            refine hK39 _ _ ?_
            refine wp_ret ?_
            replace hS := hS.tail
            replace hS := hS.tail
            replace hS := hS.tail
            replace hS := hS.tail
            replace hS := hS.tail
            obtain rfl := Option.some.inj H
            exact ret1 hE rfl (.tmp rfl .nil) ⟨_, rfl, _, rfl, hS⟩
        · rw [if_neg c43] at H
          obtain ⟨J, hE⟩ := hE.norm [(0, .bool false), (1, .pointer (some ⟨b14, 0, none⟩)), (2, .slice A10 t3.2.1.length c11), (3, .int .i64 t3.2.2), (5, .int .i64 t18.2), (6, .int .i64 t30.2), (28, .slice A10 t3.2.1.length c11), (29, .int .i64 (t3.2.1.length : Int)), (30, .bool true), (33, .int .i64 t18.2), (34, .bool true), (37, .int .i64 t30.2), (38, .bool false), (40, .bool false)] (.cons rfl <| .cons rfl <| .cons rfl <| .cons rfl <| .cons rfl <| .cons rfl <| .cons rfl <| .cons rfl <| .cons rfl <| .cons rfl <| .cons rfl <| .cons rfl <| .cons (Eq.trans (b := .bool (t30.2 == 0)) rfl (congrArg Value.bool (beq_eq_false_iff_ne.2 c43))) <| .cons (Eq.trans (b := .bool (t30.2 == 0)) rfl (congrArg Value.bool (beq_eq_false_iff_ne.2 c43))) .nil)
          refine ops_chain (S := Agr _) (.k 16 15 [(41, undef), (42, undef), (43, undef), (44, undef), (45, .bool false), (46, .bool false), (47, undef), (48, undef), (49, undef), (50, undef), (51, undef), (52, undef), (53, undef), (54, .bool false), (0, .bool false)] (by kernel_rfl) .nil) (rest := []) hE (Agr.refl _) (fun a hE => ?_)
          refine ops_done ?_
          refine hK39 _ _ ?_
          refine wp_ret ?_
          replace hS := hS.tail
          replace hS := hS.tail
          replace hS := hS.tail
          replace hS := hS.tail
          replace hS := hS.tail
          obtain rfl := Option.some.inj H
          exact ret1 hE rfl (.tmp rfl .nil) ⟨_, rfl, _, rfl, hS⟩
      · rw [if_neg c42] at H
        obtain ⟨J, hE⟩ := hE.norm [(0, .bool false), (1, .pointer (some ⟨b14, 0, none⟩)), (2, .slice A10 t3.2.1.length c11), (3, .int .i64 t3.2.2), (5, .int .i64 t18.2), (6, .int .i64 t30.2), (28, .slice A10 t3.2.1.length c11), (29, .int .i64 (t3.2.1.length : Int)), (30, .bool true), (33, .int .i64 t18.2), (34, .bool false), (36, .bool false)] (.cons rfl <| .cons rfl <| .cons rfl <| .cons rfl <| .cons rfl <| .cons rfl <| .cons rfl <| .cons rfl <| .cons rfl <| .cons rfl <| .cons (Eq.trans (b := .bool (t18.2 == 9)) rfl (congrArg Value.bool (beq_eq_false_iff_ne.2 c42))) <| .cons (Eq.trans (b := .bool (t18.2 == 9)) rfl (congrArg Value.bool (beq_eq_false_iff_ne.2 c42))) .nil)
        refine ops_chain (S := Agr _) (.k 12 19 [(37, undef), (38, undef), (39, .bool false), (40, .bool false), (41, undef), (42, undef), (43, undef), (44, undef), (45, .bool false), (46, .bool false), (47, undef), (48, undef), (49, undef), (50, undef), (51, undef), (52, undef), (53, undef), (54, .bool false), (0, .bool false)] (by kernel_rfl) .nil) (rest := []) hE (Agr.refl _) (fun a hE => ?_)
        refine ops_done ?_
        refine hK39 _ _ ?_
        refine wp_ret ?_
        replace hS := hS.tail
        replace hS := hS.tail
        replace hS := hS.tail
        replace hS := hS.tail
        replace hS := hS.tail
        obtain rfl := Option.some.inj H
        exact ret1 hE rfl (.tmp rfl .nil) ⟨_, rfl, _, rfl, hS⟩
    · rw [if_neg c41] at H
      obtain ⟨J, hE⟩ := hE.norm [(0, .bool false), (1, .pointer (some ⟨b14, 0, none⟩)), (2, .slice A10 t3.2.1.length c11), (3, .int .i64 t3.2.2), (5, .int .i64 t18.2), (6, .int .i64 t30.2), (28, .slice A10 t3.2.1.length c11), (29, .int .i64 (t3.2.1.length : Int)), (30, .bool false), (32, .bool false)] (.cons rfl <| .cons rfl <| .cons rfl <| .cons rfl <| .cons rfl <| .cons rfl <| .cons rfl <| .cons rfl <| .cons (Eq.trans (b := .bool ((t3.2.1.length : Int) == 0)) rfl (congrArg Value.bool (beq_eq_false_iff_ne.2 c41))) <| .cons (Eq.trans (b := .bool ((t3.2.1.length : Int) == 0)) rfl (congrArg Value.bool (beq_eq_false_iff_ne.2 c41))) .nil)
      refine ops_chain (S := Agr _) (.k 8 23 [(33, undef), (34, undef), (35, .bool false), (36, .bool false), (37, undef), (38, undef), (39, .bool false), (40, .bool false), (41, undef), (42, undef), (43, undef), (44, undef), (45, .bool false), (46, .bool false), (47, undef), (48, undef), (49, undef), (50, undef), (51, undef), (52, undef), (53, undef), (54, .bool false), (0, .bool false)] (by kernel_rfl) .nil) (rest := []) hE (Agr.refl _) (fun a hE => ?_)
      refine ops_done ?_
      refine hK39 _ _ ?_
      refine wp_ret ?_
      replace hS := hS.tail
      replace hS := hS.tail
      replace hS := hS.tail
      replace hS := hS.tail
      replace hS := hS.tail
      obtain rfl := Option.some.inj H
      exact ret1 hE rfl (.tmp rfl .nil) ⟨_, rfl, _, rfl, hS⟩
  · rw [if_neg c40] at H
    obtain ⟨J, hE⟩ := hE.norm [(0, .bool false), (1, .pointer (some ⟨b14, 0, none⟩)), (2, .slice A10 t3.2.1.length c11), (3, .int .i64 t3.2.2), (5, .int .i64 t18.2), (6, .int .i64 t30.2), (27, .bool false)] (.cons rfl <| .cons rfl <| .cons rfl <| .cons rfl <| .cons rfl <| .cons rfl <| .cons (Eq.trans (b := .bool (t3.2.2 == 0)) rfl (congrArg Value.bool (beq_eq_false_iff_ne.2 c40))) .nil)
    refine ops_chain (S := Agr _) (.k 3 28 [(28, undef), (29, undef), (30, undef), (31, .bool false), (32, .bool false), (33, undef), (34, undef), (35, .bool false), (36, .bool false), (37, undef), (38, undef), (39, .bool false), (40, .bool false), (41, undef), (42, undef), (43, undef), (44, undef), (45, .bool false), (46, .bool false), (47, undef), (48, undef), (49, undef), (50, undef), (51, undef), (52, undef), (53, undef), (54, .bool false), (0, .bool false)] (by kernel_rfl) .nil) (rest := []) hE (Agr.refl _) (fun a hE => ?_)
    refine ops_done ?_
    refine hK39 _ _ ?_
    refine wp_ret ?_
    replace hS := hS.tail
    replace hS := hS.tail
    replace hS := hS.tail
    replace hS := hS.tail
    replace hS := hS.tail
    obtain rfl := Option.some.inj H
    exact ret1 hE rfl (.tmp rfl .nil) ⟨_, rfl, _, rfl, hS⟩

/-! ### windrose/windroseref02.Ints: function 49 -/
def windroseref02_Ints.l9 : Nat → List Int → List Int → Int → Option Bool
  | 0, _, _, _ => none
  | k + 1, x0_, x1_, x8 => if x8 < (x0_.length : Int) then (if 0 ≤ x8 ∧ x8 < (x0_.length : Int) then (if 0 ≤ x8 ∧ x8 < (x1_.length : Int) then (if (nth 0 x0_ x8) = (nth 0 x1_ x8) then (windroseref02_Ints.l9 k x0_ x1_ (w64 (x8 + 1))) else (some false)) else (none)) else (none)) else (some true)
theorem windroseref02_Ints.l9_s (k : Nat) (x0_ : List Int) (x1_ : List Int) (x8 : Int) : windroseref02_Ints.l9 (k + 1) x0_ x1_ x8 = (if x8 < (x0_.length : Int) then (if 0 ≤ x8 ∧ x8 < (x0_.length : Int) then (if 0 ≤ x8 ∧ x8 < (x1_.length : Int) then (if (nth 0 x0_ x8) = (nth 0 x1_ x8) then (windroseref02_Ints.l9 k x0_ x1_ (w64 (x8 + 1))) else (some false)) else (none)) else (none)) else (some true)) := by kernel_rfl
def windroseref02_Ints.f (k : Nat) (x0_ : List Int) (x1_ : List Int) : Option Bool := if (x0_.length : Int) = (x1_.length : Int) then (windroseref02_Ints.l9 k x0_ x1_ 0) else (some false)
def windroseref02_Ints.Post (W F : World) (r : Bool) (v : Value) (w' : World) : Prop := ∃ (F' : World), v = .bool r ∧ St W (mine W []) F w' F' []
set_option maxHeartbeats 4000000 in
set_option maxRecDepth 100000 in
theorem windroseref02_Ints.calls (k : Nat) (x0_ : List Int) (x1_ : List Int) (A0_0 : Option Addr) (c0_0 : Nat) (A1_0 : Option Addr) (c1_0 : Nat) (r : Bool) (W F : World) (hsub : Sub F W) (g0_0 : Rd (Kn.int .i64) F A0_0 c0_0 x0_) (g1_0 : Rd (Kn.int .i64) F A1_0 c1_0 x1_) (H : windroseref02_Ints.f k x0_ x1_ = some r) :
    Calls Try.prog 49 #[.slice A0_0 x0_.length c0_0, .slice A1_0 x1_.length c1_0] W fun e w' => ∃ v, e = .returned v ∧ windroseref02_Ints.Post W F r v w' := by
  have hS := St.start (Own.nil hsub)
  unfold windroseref02_Ints.f at H
  refine enter (n := 26) rfl rfl rfl (Nat.le_of_ble_eq_true rfl) (fun a hE => ?_)
  refine wp_seq_k fun K1 hK1 => ?_
  refine plain (L := [0]) rfl ?_
  refine ops_chain (S := Agr _) (.k 0 1 [(4, .bool false)] (by kernel_rfl) .nil) (rest := []) hE (Agr.refl _) (fun a hE => ?_)
  refine ops_done ?_
  refine hK1 _ _ ?_
  refine wp_seq_k fun K2 hK2 => ?_
  refine wp_seq_k fun K3 hK3 => ?_
  refine plain (L := [0, 1, 2, 3, 4]) rfl ?_
  refine ops_chain (S := Agr _) (.k 0 1 [(6, .slice A0_0 x0_.length c0_0)] (by kernel_rfl) <| .v 1 7 rfl rfl rfl rfl (YA.s (len_sl rfl rfl ud26)) <| .k 2 1 [(8, .slice A1_0 x1_.length c1_0)] (by kernel_rfl) <| .v 3 9 rfl rfl rfl rfl (YA.s (len_sl rfl rfl ud26)) <| .k 4 1 [(10, .bool (!((x0_.length : Int) == (x1_.length : Int))))] (by kernel_rfl) .nil) (rest := []) hE (Agr.refl _) (fun a hE => ?_)
  refine ops_done ?_
  refine hK3 _ _ ?_
  by_cases c4 : (x0_.length : Int) = (x1_.length : Int)
  · rw [if_pos c4] at H
    refine cond_f hE (b := (!((x0_.length : Int) == (x1_.length : Int)))) rfl (congrArg not (beq_iff_eq.2 c4)) ?_
    refine wp_skip ?_
    refine hK2 _ _ ?_
    refine wp_seq_k fun K6 hK6 => ?_
    refine wp_seq_k fun K7 hK7 => ?_
    refine plain (L := [0]) rfl ?_
    refine ops_chain (S := Agr _) (.k 0 1 [(5, .int .i64 0)] (by kernel_rfl) .nil) (rest := []) hE (Agr.refl _) (fun a hE => ?_)
    refine ops_done ?_
    refine hK7 _ _ ?_
    refine wp_block ?_
    obtain ⟨J, hE⟩ := hE.norm [(0, .slice A0_0 x0_.length c0_0), (1, .slice A1_0 x1_.length c1_0), (4, .bool false), (5, .int .i64 0), (10, .bool (!((x0_.length : Int) == (x1_.length : Int))))] (.cons rfl <| .cons rfl <| .cons rfl <| .cons rfl <| .cons rfl .nil)
    refine wp_loop_ghost (fun kq10 a w' => ∃ (J : Nat → Value) (x8 : Int), Env 26 (updL J [(0, .slice A0_0 x0_.length c0_0), (1, .slice A1_0 x1_.length c1_0), (4, .bool false), (5, .int .i64 x8), (10, .bool (!((x0_.length : Int) == (x1_.length : Int))))]) a ∧ St W (mine W []) F w' F [] ∧  windroseref02_Ints.l9 kq10 x0_ x1_ x8 = some r) k ⟨J, 0, hE, hS, H⟩ ?_
    rintro kq10 a u12 ⟨J, x8, hE, hS, H⟩
    cases kq10 with
    | zero => cases (show none = some r from H)
    | succ k11 =>
      rw [windroseref02_Ints.l9_s] at H
      refine wp_seq_k fun K13 hK13 => ?_
      refine wp_seq_k fun K14 hK14 => ?_
      refine plain (L := [0, 1, 2, 3]) rfl ?_
      refine ops_chain (S := Agr _) (.k 0 2 [(11, .int .i64 x8), (12, .slice A0_0 x0_.length c0_0)] (by kernel_rfl) <| .v 2 13 rfl rfl rfl rfl (YA.s (len_sl rfl rfl ud26)) <| .k 3 1 [(14, .bool (decide (x8 < (x0_.length : Int))))] (by kernel_rfl) .nil) (rest := []) hE (Agr.refl _) (fun a hE => ?_)
      refine ops_done ?_
      refine hK14 _ _ ?_
      by_cases c15 : x8 < (x0_.length : Int)
      · rw [if_pos c15] at H
        refine cond_t hE (b := (decide (x8 < (x0_.length : Int)))) rfl (decide_eq_true c15) ?_
        refine wp_skip ?_
        refine hK13 _ _ ?_
        refine wp_seq_k fun K16 hK16 => ?_
        refine wp_block ?_
        refine wp_seq_k fun K17 hK17 => ?_
        refine drawn 9 [] mixed rfl (by kernel_rfl) (fun hst => ?_)
        replace hS := hS.drew
        by_cases c18 : 0 ≤ x8 ∧ x8 < (x0_.length : Int)
        rotate_left
        · rw [if_neg c18] at H; cases H
        rw [if_pos c18] at H
        obtain ⟨ad19, rfl⟩ := g0_0.addr c18.1 c18.2
        obtain ⟨cs21, rfl, hc22⟩ := g0_0.el 0 x8 c18.1 c18.2
        by_cases c23 : 0 ≤ x8 ∧ x8 < (x1_.length : Int)
        rotate_left
        · rw [if_neg c23] at H; cases H
        rw [if_pos c23] at H
        obtain ⟨ad24, rfl⟩ := g1_0.addr c23.1 c23.2
        obtain ⟨cs26, rfl, hc27⟩ := g1_0.el 0 x8 c23.1 c23.2
        refine many 511 hst hE (.k 0 2 [(17, .slice (some ad19) x0_.length c0_0), (18, .int .i64 x8)] (by kernel_rfl) <| .q 2 19 rfl rfl rfl rfl (ix 1 rfl rfl rfl ud26 sz3 c18.1 c18.2) <| .v 3 20 rfl rfl rfl rfl (lf1 (.int .i64 (nth 0 x0_ x8)) rfl rfl ag3 hS.own.sub (hc22 0 _ rfl)) <| .k 4 2 [(21, .slice (some ad24) x1_.length c1_0), (22, .int .i64 x8)] (by kernel_rfl) <| .q 6 23 rfl rfl rfl rfl (ix 1 rfl rfl rfl ud26 sz3 c23.1 c23.2) <| .v 7 24 rfl rfl rfl rfl (lf1 (.int .i64 (nth 0 x1_ x8)) rfl rfl ag3 hS.own.sub (hc27 0 _ rfl)) <| .k 8 1 [(25, .bool (!((nth 0 x0_ x8) == (nth 0 x1_ x8))))] (by kernel_rfl) .nil) (by kernel_rfl) (fun a hE => ?_)
        refine all_done (by kernel_rfl) ?_
        refine hK17 _ _ ?_
        by_cases c28 : (nth 0 x0_ x8) = (nth 0 x1_ x8)
        · rw [if_pos c28] at H
          refine cond_f hE (b := (!((nth 0 x0_ x8) == (nth 0 x1_ x8)))) rfl (congrArg not (beq_iff_eq.2 c28)) ?_
          refine wp_skip ?_
          refine hK16 _ _ ?_
          refine plain (L := [0, 1, 2]) rfl ?_
          refine ops_chain (S := Agr _) (.k 0 3 [(15, .int .i64 x8), (16, .int .i64 (w64 (x8 + 1))), (5, .int .i64 (w64 (x8 + 1)))] (by kernel_rfl) .nil) (rest := []) hE (Agr.refl _) (fun a hE => ?_)
          refine ops_done ?_
          obtain ⟨J, hE⟩ := hE.norm [(0, .slice (some ad19) x0_.length c0_0), (1, .slice (some ad24) x1_.length c1_0), (4, .bool false), (5, .int .i64 (w64 (x8 + 1))), (10, .bool (!((x0_.length : Int) == (x1_.length : Int))))] (.cons rfl <| .cons rfl <| .cons rfl <| .cons rfl <| .cons rfl .nil)
          exact then_n ⟨k11, by omega, J, (w64 (x8 + 1)), hE, hS, H⟩
        · rw [if_neg c28] at H
          refine cond_t hE (b := (!((nth 0 x0_ x8) == (nth 0 x1_ x8)))) rfl (congrArg not (beq_eq_false_iff_ne.2 c28)) ?_
          refine wp_seq_k fun K29 hK29 => ?_
          refine plain (L := [0]) rfl ?_
          refine ops_chain (S := Agr _) (.k 0 1 [(4, .bool false)] (by kernel_rfl) .nil) (rest := []) hE (Agr.refl _) (fun a hE => ?_)
          refine ops_done ?_
          refine hK29 _ _ ?_
          refine wp_ret (block_ret (then_ret (then_ret (block_ret (then_ret ?_)))))
          obtain rfl := Option.some.inj H
          exact ret1 hE rfl (.tmp rfl .nil) ⟨_, rfl, _, rfl, hS⟩
      · rw [if_neg c15] at H
        refine cond_f hE (b := (decide (x8 < (x0_.length : Int)))) rfl (decide_eq_false c15) ?_
        refine wp_exit ?_
        refine hK6 _ _ ?_
        refine wp_seq_k fun K30 hK30 => ?_
        refine plain (L := [0]) rfl ?_
        refine ops_chain (S := Agr _) (.k 0 1 [(4, .bool true)] (by kernel_rfl) .nil) (rest := []) hE (Agr.refl _) (fun a hE => ?_)
        refine ops_done ?_
        refine hK30 _ _ ?_
        refine wp_ret ?_
        obtain rfl := Option.some.inj H
        exact ret1 hE rfl (.tmp rfl .nil) ⟨_, rfl, _, rfl, hS⟩
  · rw [if_neg c4] at H
    refine cond_t hE (b := (!((x0_.length : Int) == (x1_.length : Int)))) rfl (congrArg not (beq_eq_false_iff_ne.2 c4)) ?_
    refine wp_seq_k fun K5 hK5 => ?_
    refine plain (L := [0]) rfl ?_
    refine ops_chain (S := Agr _) (.k 0 1 [(4, .bool false)] (by kernel_rfl) .nil) (rest := []) hE (Agr.refl _) (fun a hE => ?_)
    refine ops_done ?_
    refine hK5 _ _ ?_
    refine wp_ret (then_ret ?_)
    obtain rfl := Option.some.inj H
    exact ret1 hE rfl (.tmp rfl .nil) ⟨_, rfl, _, rfl, hS⟩

/-! ### windrose/windroseref08.Deltas: function 31 -/
def windroseref08_Deltas.f (k : Nat) (x0_ : S28) (x1_ : S28) : Option Bool := if x0_.f0 = x1_.f0 then (if x0_.f1 = x1_.f1 then (if x0_.f2 = x1_.f2 then (if x0_.f3 = x1_.f3 then (if x0_.f4 = x1_.f4 then (if x0_.f5 = x1_.f5 then ((windroseref02_Ints.f k x0_.f6 x1_.f6).bind fun t13 => (some t13)) else (some false)) else (some false)) else (some false)) else (some false)) else (some false)) else (some false)
def windroseref08_Deltas.Post (W F : World) (r : Bool) (v : Value) (w' : World) : Prop := ∃ (F' : World), v = .bool r ∧ St W (mine W []) F w' F' []
set_option maxHeartbeats 4000000 in
set_option maxRecDepth 100000 in
theorem windroseref08_Deltas.calls (k : Nat) (x0_ : S28) (x1_ : S28) (A0_6 : Option Addr) (c0_6 : Nat) (A1_6 : Option Addr) (c1_6 : Nat) (r : Bool) (W F : World) (hsub : Sub F W) (g0_6 : Rd (Kn.int .i64) F A0_6 c0_6 x0_.f6) (g1_6 : Rd (Kn.int .i64) F A1_6 c1_6 x1_.f6) (H : windroseref08_Deltas.f k x0_ x1_ = some r) :
    Calls Try.prog 31 #[.agg #[.int .i64 x0_.f0, .int .i64 x0_.f1, .int .i64 x0_.f2, .int .i64 x0_.f3, .int .i64 x0_.f4, .int .i64 x0_.f5, .slice A0_6 x0_.f6.length c0_6], .agg #[.int .i64 x1_.f0, .int .i64 x1_.f1, .int .i64 x1_.f2, .int .i64 x1_.f3, .int .i64 x1_.f4, .int .i64 x1_.f5, .slice A1_6 x1_.f6.length c1_6]] W fun e w' => ∃ v, e = .returned v ∧ windroseref08_Deltas.Post W F r v w' := by
  have hS := St.start (Own.nil hsub)
  unfold windroseref08_Deltas.f at H
  refine enter (n := 52) rfl rfl rfl (Nat.le_of_ble_eq_true rfl) (fun a hE => ?_)
  refine wp_seq_k fun K1 hK1 => ?_
  refine plain (L := [0, 1, 2]) rfl ?_
  refine ops_eff 0 hE (some 2) rfl rfl rfl rfl (e_box hS rfl rfl #[.int .i64 x0_.f0, .int .i64 x0_.f1, .int .i64 x0_.f2, .int .i64 x0_.f3, .int .i64 x0_.f4, .int .i64 x0_.f5, .slice A0_6 x0_.f6.length c0_6] rfl) ?_
  rintro _ u3 a ⟨b2, rfl, hb2, hS, hg⟩ hE
  refine ops_eff 1 hE (some 3) rfl rfl rfl rfl (e_box hS rfl rfl #[.int .i64 x1_.f0, .int .i64 x1_.f1, .int .i64 x1_.f2, .int .i64 x1_.f3, .int .i64 x1_.f4, .int .i64 x1_.f5, .slice A1_6 x1_.f6.length c1_6] rfl) ?_
  rintro _ u5 a ⟨b4, rfl, hb4, hS, hg⟩ hE
  refine ops_chain (S := Agr _) (.k 2 1 [(4, .bool false)] (by kernel_rfl) .nil) (rest := []) hE (Agr.refl _) (fun a hE => ?_)
  refine ops_done ?_
  refine hK1 _ _ ?_
  refine wp_seq_k fun K6 hK6 => ?_
  refine plain (L := [0, 1, 2, 3, 4, 5, 6, 7, 8, 9, 10, 11, 12, 13, 14, 15, 16, 17, 18, 19, 20, 21, 22, 23, 24, 25, 26, 27, 28, 29, 30, 31, 32, 33, 34, 35, 36, 37, 38, 39, 40, 41, 42, 43, 44, 45, 46, 47]) rfl ?_
  have hb2 := hS.blk_at (i := 1) rfl
  refine ops_chain (S := Agr _) (.k 0 1 [(5, .pointer (some ⟨b2, 0, none⟩))] (by kernel_rfl) <| .v 1 6 rfl rfl rfl rfl (lb1 0 (.int .i64 x0_.f0) rfl rfl ag3 hb2 rfl) <| .k 2 1 [(7, .pointer (some ⟨b4, 0, none⟩))] (by kernel_rfl) <| .v 3 8 rfl rfl rfl rfl (lb1 0 (.int .i64 x1_.f0) rfl rfl ag3 hb4 rfl) <| .k 4 2 [(9, .bool (x0_.f0 == x1_.f0)), (10, .bool (x0_.f0 == x1_.f0))] (by kernel_rfl) .nil) (rest := [6, 7, 8, 9, 10, 11, 12, 13, 14, 15, 16, 17, 18, 19, 20, 21, 22, 23, 24, 25, 26, 27, 28, 29, 30, 31, 32, 33, 34, 35, 36, 37, 38, 39, 40, 41, 42, 43, 44, 45, 46, 47]) hE (Agr.refl _) (fun a hE => ?_)
  by_cases c7 : x0_.f0 = x1_.f0
  · rw [if_pos c7] at H
    obtain ⟨J, hE⟩ := hE.norm [(0, .agg #[.int .i64 x0_.f0, .int .i64 x0_.f1, .int .i64 x0_.f2, .int .i64 x0_.f3, .int .i64 x0_.f4, .int .i64 x0_.f5, .slice A0_6 x0_.f6.length c0_6]), (1, .agg #[.int .i64 x1_.f0, .int .i64 x1_.f1, .int .i64 x1_.f2, .int .i64 x1_.f3, .int .i64 x1_.f4, .int .i64 x1_.f5, .slice A1_6 x1_.f6.length c1_6]), (2, .pointer (some ⟨b2, 0, none⟩)), (3, .pointer (some ⟨b4, 0, none⟩)), (4, .bool false), (10, .bool true)] (.cons rfl <| .cons rfl <| .cons rfl <| .cons rfl <| .cons rfl <| .cons (Eq.trans (b := .bool (x0_.f0 == x1_.f0)) rfl (congrArg Value.bool (beq_iff_eq.2 c7))) .nil)
    refine ops_chain (S := Agr _) (.k 6 1 [(11, .pointer (some ⟨b2, 1, none⟩))] (by kernel_rfl) <| .v 7 12 rfl rfl rfl rfl (lb1 1 (.int .i64 x0_.f1) rfl rfl ag3 hb2 rfl) <| .k 8 1 [(13, .pointer (some ⟨b4, 1, none⟩))] (by kernel_rfl) <| .v 9 14 rfl rfl rfl rfl (lb1 1 (.int .i64 x1_.f1) rfl rfl ag3 hb4 rfl) <| .k 10 3 [(15, .bool (x0_.f1 == x1_.f1)), (16, .bool (x0_.f1 == x1_.f1)), (17, .bool (x0_.f1 == x1_.f1))] (by kernel_rfl) .nil) (rest := [13, 14, 15, 16, 17, 18, 19, 20, 21, 22, 23, 24, 25, 26, 27, 28, 29, 30, 31, 32, 33, 34, 35, 36, 37, 38, 39, 40, 41, 42, 43, 44, 45, 46, 47]) hE (Agr.refl _) (fun a hE => ?_)
    by_cases c8 : x0_.f1 = x1_.f1
    · rw [if_pos c8] at H
      obtain ⟨J, hE⟩ := hE.norm [(0, .agg #[.int .i64 x0_.f0, .int .i64 x0_.f1, .int .i64 x0_.f2, .int .i64 x0_.f3, .int .i64 x0_.f4, .int .i64 x0_.f5, .slice A0_6 x0_.f6.length c0_6]), (1, .agg #[.int .i64 x1_.f0, .int .i64 x1_.f1, .int .i64 x1_.f2, .int .i64 x1_.f3, .int .i64 x1_.f4, .int .i64 x1_.f5, .slice A1_6 x1_.f6.length c1_6]), (2, .pointer (some ⟨b2, 0, none⟩)), (3, .pointer (some ⟨b4, 0, none⟩)), (4, .bool false), (11, .pointer (some ⟨b2, 1, none⟩)), (12, .int .i64 x0_.f1), (13, .pointer (some ⟨b4, 1, none⟩)), (14, .int .i64 x1_.f1), (15, .bool true), (17, .bool true)] (.cons rfl <| .cons rfl <| .cons rfl <| .cons rfl <| .cons rfl <| .cons rfl <| .cons rfl <| .cons rfl <| .cons rfl <| .cons (Eq.trans (b := .bool (x0_.f1 == x1_.f1)) rfl (congrArg Value.bool (beq_iff_eq.2 c8))) <| .cons (Eq.trans (b := .bool (x0_.f1 == x1_.f1)) rfl (congrArg Value.bool (beq_iff_eq.2 c8))) .nil)
      refine ops_chain (S := Agr _) (.k 13 1 [(18, .pointer (some ⟨b2, 2, none⟩))] (by kernel_rfl) <| .v 14 19 rfl rfl rfl rfl (lb1 2 (.int .i64 x0_.f2) rfl rfl ag3 hb2 rfl) <| .k 15 1 [(20, .pointer (some ⟨b4, 2, none⟩))] (by kernel_rfl) <| .v 16 21 rfl rfl rfl rfl (lb1 2 (.int .i64 x1_.f2) rfl rfl ag3 hb4 rfl) <| .k 17 3 [(22, .bool (x0_.f2 == x1_.f2)), (23, .bool (x0_.f2 == x1_.f2)), (24, .bool (x0_.f2 == x1_.f2))] (by kernel_rfl) .nil) (rest := [20, 21, 22, 23, 24, 25, 26, 27, 28, 29, 30, 31, 32, 33, 34, 35, 36, 37, 38, 39, 40, 41, 42, 43, 44, 45, 46, 47]) hE (Agr.refl _) (fun a hE => ?_)
      by_cases c9 : x0_.f2 = x1_.f2
      · rw [if_pos c9] at H
        obtain ⟨J, hE⟩ := hE.norm [(0, .agg #[.int .i64 x0_.f0, .int .i64 x0_.f1, .int .i64 x0_.f2, .int .i64 x0_.f3, .int .i64 x0_.f4, .int .i64 x0_.f5, .slice A0_6 x0_.f6.length c0_6]), (1, .agg #[.int .i64 x1_.f0, .int .i64 x1_.f1, .int .i64 x1_.f2, .int .i64 x1_.f3, .int .i64 x1_.f4, .int .i64 x1_.f5, .slice A1_6 x1_.f6.length c1_6]), (2, .pointer (some ⟨b2, 0, none⟩)), (3, .pointer (some ⟨b4, 0, none⟩)), (4, .bool false), (11, .pointer (some ⟨b2, 1, none⟩)), (12, .int .i64 x0_.f1), (13, .pointer (some ⟨b4, 1, none⟩)), (14, .int .i64 x1_.f1), (15, .bool true), (18, .pointer (some ⟨b2, 2, none⟩)), (19, .int .i64 x0_.f2), (20, .pointer (some ⟨b4, 2, none⟩)), (21, .int .i64 x1_.f2), (22, .bool true), (24, .bool true)] (.cons rfl <| .cons rfl <| .cons rfl <| .cons rfl <| .cons rfl <| .cons rfl <| .cons rfl <| .cons rfl <| .cons rfl <| .cons rfl <| .cons rfl <| .cons rfl <| .cons rfl <| .cons rfl <| .cons (Eq.trans (b := .bool (x0_.f2 == x1_.f2)) rfl (congrArg Value.bool (beq_iff_eq.2 c9))) <| .cons (Eq.trans (b := .bool (x0_.f2 == x1_.f2)) rfl (congrArg Value.bool (beq_iff_eq.2 c9))) .nil)
        refine ops_chain (S := Agr _) (.k 20 1 [(25, .pointer (some ⟨b2, 3, none⟩))] (by kernel_rfl) <| .v 21 26 rfl rfl rfl rfl (lb1 3 (.int .i64 x0_.f3) rfl rfl ag3 hb2 rfl) <| .k 22 1 [(27, .pointer (some ⟨b4, 3, none⟩))] (by kernel_rfl) <| .v 23 28 rfl rfl rfl rfl (lb1 3 (.int .i64 x1_.f3) rfl rfl ag3 hb4 rfl) <| .k 24 3 [(29, .bool (x0_.f3 == x1_.f3)), (30, .bool (x0_.f3 == x1_.f3)), (31, .bool (x0_.f3 == x1_.f3))] (by kernel_rfl) .nil) (rest := [27, 28, 29, 30, 31, 32, 33, 34, 35, 36, 37, 38, 39, 40, 41, 42, 43, 44, 45, 46, 47]) hE (Agr.refl _) (fun a hE => ?_)
        by_cases c10 : x0_.f3 = x1_.f3
        · rw [if_pos c10] at H
          obtain ⟨J, hE⟩ := hE.norm [(0, .agg #[.int .i64 x0_.f0, .int .i64 x0_.f1, .int .i64 x0_.f2, .int .i64 x0_.f3, .int .i64 x0_.f4, .int .i64 x0_.f5, .slice A0_6 x0_.f6.length c0_6]), (1, .agg #[.int .i64 x1_.f0, .int .i64 x1_.f1, .int .i64 x1_.f2, .int .i64 x1_.f3, .int .i64 x1_.f4, .int .i64 x1_.f5, .slice A1_6 x1_.f6.length c1_6]), (2, .pointer (some ⟨b2, 0, none⟩)), (3, .pointer (some ⟨b4, 0, none⟩)), (4, .bool false), (11, .pointer (some ⟨b2, 1, none⟩)), (12, .int .i64 x0_.f1), (13, .pointer (some ⟨b4, 1, none⟩)), (14, .int .i64 x1_.f1), (15, .bool true), (18, .pointer (some ⟨b2, 2, none⟩)), (19, .int .i64 x0_.f2), (20, .pointer (some ⟨b4, 2, none⟩)), (21, .int .i64 x1_.f2), (22, .bool true), (25, .pointer (some ⟨b2, 3, none⟩)), (26, .int .i64 x0_.f3), (27, .pointer (some ⟨b4, 3, none⟩)), (28, .int .i64 x1_.f3), (29, .bool true), (31, .bool true)] (.cons rfl <| .cons rfl <| .cons rfl <| .cons rfl <| .cons rfl <| .cons rfl <| .cons rfl <| .cons rfl <| .cons rfl <| .cons rfl <| .cons rfl <| .cons rfl <| .cons rfl <| .cons rfl <| .cons rfl <| .cons rfl <| .cons rfl <| .cons rfl <| .cons rfl <| .cons (Eq.trans (b := .bool (x0_.f3 == x1_.f3)) rfl (congrArg Value.bool (beq_iff_eq.2 c10))) <| .cons (Eq.trans (b := .bool (x0_.f3 == x1_.f3)) rfl (congrArg Value.bool (beq_iff_eq.2 c10))) .nil)
          refine ops_chain (S := Agr _) (.k 27 1 [(32, .pointer (some ⟨b2, 4, none⟩))] (by kernel_rfl) <| .v 28 33 rfl rfl rfl rfl (lb1 4 (.int .i64 x0_.f4) rfl rfl ag3 hb2 rfl) <| .k 29 1 [(34, .pointer (some ⟨b4, 4, none⟩))] (by kernel_rfl) <| .v 30 35 rfl rfl rfl rfl (lb1 4 (.int .i64 x1_.f4) rfl rfl ag3 hb4 rfl) <| .k 31 3 [(36, .bool (x0_.f4 == x1_.f4)), (37, .bool (x0_.f4 == x1_.f4)), (38, .bool (x0_.f4 == x1_.f4))] (by kernel_rfl) .nil) (rest := [34, 35, 36, 37, 38, 39, 40, 41, 42, 43, 44, 45, 46, 47]) hE (Agr.refl _) (fun a hE => ?_)
          by_cases c11 : x0_.f4 = x1_.f4
          · rw [if_pos c11] at H
            obtain ⟨J, hE⟩ := hE.norm [(0, .agg #[.int .i64 x0_.f0, .int .i64 x0_.f1, .int .i64 x0_.f2, .int .i64 x0_.f3, .int .i64 x0_.f4, .int .i64 x0_.f5, .slice A0_6 x0_.f6.length c0_6]), (1, .agg #[.int .i64 x1_.f0, .int .i64 x1_.f1, .int .i64 x1_.f2, .int .i64 x1_.f3, .int .i64 x1_.f4, .int .i64 x1_.f5, .slice A1_6 x1_.f6.length c1_6]), (2, .pointer (some ⟨b2, 0, none⟩)), (3, .pointer (some ⟨b4, 0, none⟩)), (4, .bool false), (11, .pointer (some ⟨b2, 1, none⟩)), (12, .int .i64 x0_.f1), (13, .pointer (some ⟨b4, 1, none⟩)), (14, .int .i64 x1_.f1), (15, .bool true), (18, .pointer (some ⟨b2, 2, none⟩)), (19, .int .i64 x0_.f2), (20, .pointer (some ⟨b4, 2, none⟩)), (21, .int .i64 x1_.f2), (22, .bool true), (25, .pointer (some ⟨b2, 3, none⟩)), (26, .int .i64 x0_.f3), (27, .pointer (some ⟨b4, 3, none⟩)), (28, .int .i64 x1_.f3), (29, .bool true), (32, .pointer (some ⟨b2, 4, none⟩)), (33, .int .i64 x0_.f4), (34, .pointer (some ⟨b4, 4, none⟩)), (35, .int .i64 x1_.f4), (36, .bool true), (38, .bool true)] (.cons rfl <| .cons rfl <| .cons rfl <| .cons rfl <| .cons rfl <| .cons rfl <| .cons rfl <| .cons rfl <| .cons rfl <| .cons rfl <| .cons rfl <| .cons rfl <| .cons rfl <| .cons rfl <| .cons rfl <| .cons rfl <| .cons rfl <| .cons rfl <| .cons rfl <| .cons rfl <| .cons rfl <| .cons rfl <| .cons rfl <| .cons rfl <| .cons (Eq.trans (b := .bool (x0_.f4 == x1_.f4)) rfl (congrArg Value.bool (beq_iff_eq.2 c11))) <| .cons (Eq.trans (b := .bool (x0_.f4 == x1_.f4)) rfl (congrArg Value.bool (beq_iff_eq.2 c11))) .nil)
            refine ops_chain (S := Agr _) (.k 34 1 [(39, .pointer (some ⟨b2, 5, none⟩))] (by kernel_rfl) <| .v 35 40 rfl rfl rfl rfl (lb1 5 (.int .i64 x0_.f5) rfl rfl ag3 hb2 rfl) <| .k 36 1 [(41, .pointer (some ⟨b4, 5, none⟩))] (by kernel_rfl) <| .v 37 42 rfl rfl rfl rfl (lb1 5 (.int .i64 x1_.f5) rfl rfl ag3 hb4 rfl) <| .k 38 3 [(43, .bool (x0_.f5 == x1_.f5)), (44, .bool (x0_.f5 == x1_.f5)), (45, .bool (x0_.f5 == x1_.f5))] (by kernel_rfl) .nil) (rest := [41, 42, 43, 44, 45, 46, 47]) hE (Agr.refl _) (fun a hE => ?_)
            by_cases c12 : x0_.f5 = x1_.f5
            · rw [if_pos c12] at H
              obtain ⟨J, hE⟩ := hE.norm [(0, .agg #[.int .i64 x0_.f0, .int .i64 x0_.f1, .int .i64 x0_.f2, .int .i64 x0_.f3, .int .i64 x0_.f4, .int .i64 x0_.f5, .slice A0_6 x0_.f6.length c0_6]), (1, .agg #[.int .i64 x1_.f0, .int .i64 x1_.f1, .int .i64 x1_.f2, .int .i64 x1_.f3, .int .i64 x1_.f4, .int .i64 x1_.f5, .slice A1_6 x1_.f6.length c1_6]), (2, .pointer (some ⟨b2, 0, none⟩)), (3, .pointer (some ⟨b4, 0, none⟩)), (4, .bool false), (11, .pointer (some ⟨b2, 1, none⟩)), (12, .int .i64 x0_.f1), (13, .pointer (some ⟨b4, 1, none⟩)), (14, .int .i64 x1_.f1), (15, .bool true), (18, .pointer (some ⟨b2, 2, none⟩)), (19, .int .i64 x0_.f2), (20, .pointer (some ⟨b4, 2, none⟩)), (21, .int .i64 x1_.f2), (22, .bool true), (25, .pointer (some ⟨b2, 3, none⟩)), (26, .int .i64 x0_.f3), (27, .pointer (some ⟨b4, 3, none⟩)), (28, .int .i64 x1_.f3), (29, .bool true), (32, .pointer (some ⟨b2, 4, none⟩)), (33, .int .i64 x0_.f4), (34, .pointer (some ⟨b4, 4, none⟩)), (35, .int .i64 x1_.f4), (36, .bool true), (39, .pointer (some ⟨b2, 5, none⟩)), (40, .int .i64 x0_.f5), (41, .pointer (some ⟨b4, 5, none⟩)), (42, .int .i64 x1_.f5), (43, .bool true), (45, .bool true)] (.cons rfl <| .cons rfl <| .cons rfl <| .cons rfl <| .cons rfl <| .cons rfl <| .cons rfl <| .cons rfl <| .cons rfl <| .cons rfl <| .cons rfl <| .cons rfl <| .cons rfl <| .cons rfl <| .cons rfl <| .cons rfl <| .cons rfl <| .cons rfl <| .cons rfl <| .cons rfl <| .cons rfl <| .cons rfl <| .cons rfl <| .cons rfl <| .cons rfl <| .cons rfl <| .cons rfl <| .cons rfl <| .cons rfl <| .cons (Eq.trans (b := .bool (x0_.f5 == x1_.f5)) rfl (congrArg Value.bool (beq_iff_eq.2 c12))) <| .cons (Eq.trans (b := .bool (x0_.f5 == x1_.f5)) rfl (congrArg Value.bool (beq_iff_eq.2 c12))) .nil)
              refine ops_chain (S := Agr _) (.k 41 1 [(46, .pointer (some ⟨b2, 6, none⟩))] (by kernel_rfl) <| .v 42 47 rfl rfl rfl rfl (lb1 6 (.slice A0_6 x0_.f6.length c0_6) rfl rfl ag26 hb2 rfl) <| .k 43 1 [(48, .pointer (some ⟨b4, 6, none⟩))] (by kernel_rfl) <| .v 44 49 rfl rfl rfl rfl (lb1 6 (.slice A1_6 x1_.f6.length c1_6) rfl rfl ag26 hb4 rfl) .nil) (rest := [45, 46, 47]) hE (Agr.refl _) (fun a hE => ?_)
              obtain ⟨t13, h14, H⟩ := Option.bind_eq_some_iff.mp H
              refine ops_eff 45 hE (some 50) rfl rfl rfl rfl (Eff.call en49 rfl [.slice A0_6 x0_.f6.length c0_6, .slice A1_6 x1_.f6.length c1_6] rfl (windroseref02_Ints.calls k x0_.f6 x1_.f6 _ _ _ _ _ _ _ hS.own.sub g0_6 g1_6 h14)) ?_
              rintro _ u15 a ⟨_, rfl, hC⟩ hE
              replace hS := hS.lent hC
              refine ops_chain (S := Agr _) (.k 46 2 [(51, .bool t13), (4, .bool t13)] (by kernel_rfl) .nil) (rest := []) hE (Agr.refl _) (fun a hE => ?_)
              refine ops_done ?_
              refine hK6 _ _ ?_
              refine wp_ret ?_
              replace hS := hS.tail
              replace hS := hS.tail
              obtain rfl := Option.some.inj H
              exact ret1 hE rfl (.tmp rfl .nil) ⟨_, rfl, _, rfl, hS⟩
            · rw [if_neg c12] at H
              obtain ⟨J, hE⟩ := hE.norm [(0, .agg #[.int .i64 x0_.f0, .int .i64 x0_.f1, .int .i64 x0_.f2, .int .i64 x0_.f3, .int .i64 x0_.f4, .int .i64 x0_.f5, .slice A0_6 x0_.f6.length c0_6]), (1, .agg #[.int .i64 x1_.f0, .int .i64 x1_.f1, .int .i64 x1_.f2, .int .i64 x1_.f3, .int .i64 x1_.f4, .int .i64 x1_.f5, .slice A1_6 x1_.f6.length c1_6]), (2, .pointer (some ⟨b2, 0, none⟩)), (3, .pointer (some ⟨b4, 0, none⟩)), (4, .bool false), (11, .pointer (some ⟨b2, 1, none⟩)), (12, .int .i64 x0_.f1), (13, .pointer (some ⟨b4, 1, none⟩)), (14, .int .i64 x1_.f1), (15, .bool true), (18, .pointer (some ⟨b2, 2, none⟩)), (19, .int .i64 x0_.f2), (20, .pointer (some ⟨b4, 2, none⟩)), (21, .int .i64 x1_.f2), (22, .bool true), (25, .pointer (some ⟨b2, 3, none⟩)), (26, .int .i64 x0_.f3), (27, .pointer (some ⟨b4, 3, none⟩)), (28, .int .i64 x1_.f3), (29, .bool true), (32, .pointer (some ⟨b2, 4, none⟩)), (33, .int .i64 x0_.f4), (34, .pointer (some ⟨b4, 4, none⟩)), (35, .int .i64 x1_.f4), (36, .bool true), (39, .pointer (some ⟨b2, 5, none⟩)), (40, .int .i64 x0_.f5), (41, .pointer (some ⟨b4, 5, none⟩)), (42, .int .i64 x1_.f5), (43, .bool false), (45, .bool false)] (.cons rfl <| .cons rfl <| .cons rfl <| .cons rfl <| .cons rfl <| .cons rfl <| .cons rfl <| .cons rfl <| .cons rfl <| .cons rfl <| .cons rfl <| .cons rfl <| .cons rfl <| .cons rfl <| .cons rfl <| .cons rfl <| .cons rfl <| .cons rfl <| .cons rfl <| .cons rfl <| .cons rfl <| .cons rfl <| .cons rfl <| .cons rfl <| .cons rfl <| .cons rfl <| .cons rfl <| .cons rfl <| .cons rfl <| .cons (Eq.trans (b := .bool (x0_.f5 == x1_.f5)) rfl (congrArg Value.bool (beq_eq_false_iff_ne.2 c12))) <| .cons (Eq.trans (b := .bool (x0_.f5 == x1_.f5)) rfl (congrArg Value.bool (beq_eq_false_iff_ne.2 c12))) .nil)
              refine ops_chain (S := Agr _) (.k 41 7 [(46, undef), (47, undef), (48, undef), (49, undef), (50, undef), (51, .bool false), (4, .bool false)] (by kernel_rfl) .nil) (rest := []) hE (Agr.refl _) (fun a hE => ?_)
              refine ops_done ?_
              refine hK6 _ _ ?_
              refine wp_ret ?_
              replace hS := hS.tail
              replace hS := hS.tail
              obtain rfl := Option.some.inj H
              exact ret1 hE rfl (.tmp rfl .nil) ⟨_, rfl, _, rfl, hS⟩
          · rw [if_neg c11] at H
            obtain ⟨J, hE⟩ := hE.norm [(0, .agg #[.int .i64 x0_.f0, .int .i64 x0_.f1, .int .i64 x0_.f2, .int .i64 x0_.f3, .int .i64 x0_.f4, .int .i64 x0_.f5, .slice A0_6 x0_.f6.length c0_6]), (1, .agg #[.int .i64 x1_.f0, .int .i64 x1_.f1, .int .i64 x1_.f2, .int .i64 x1_.f3, .int .i64 x1_.f4, .int .i64 x1_.f5, .slice A1_6 x1_.f6.length c1_6]), (2, .pointer (some ⟨b2, 0, none⟩)), (3, .pointer (some ⟨b4, 0, none⟩)), (4, .bool false), (11, .pointer (some ⟨b2, 1, none⟩)), (12, .int .i64 x0_.f1), (13, .pointer (some ⟨b4, 1, none⟩)), (14, .int .i64 x1_.f1), (15, .bool true), (18, .pointer (some ⟨b2, 2, none⟩)), (19, .int .i64 x0_.f2), (20, .pointer (some ⟨b4, 2, none⟩)), (21, .int .i64 x1_.f2), (22, .bool true), (25, .pointer (some ⟨b2, 3, none⟩)), (26, .int .i64 x0_.f3), (27, .pointer (some ⟨b4, 3, none⟩)), (28, .int .i64 x1_.f3), (29, .bool true), (32, .pointer (some ⟨b2, 4, none⟩)), (33, .int .i64 x0_.f4), (34, .pointer (some ⟨b4, 4, none⟩)), (35, .int .i64 x1_.f4), (36, .bool false), (38, .bool false)] (.cons rfl <| .cons rfl <| .cons rfl <| .cons rfl <| .cons rfl <| .cons rfl <| .cons rfl <| .cons rfl <| .cons rfl <| .cons rfl <| .cons rfl <| .cons rfl <| .cons rfl <| .cons rfl <| .cons rfl <| .cons rfl <| .cons rfl <| .cons rfl <| .cons rfl <| .cons rfl <| .cons rfl <| .cons rfl <| .cons rfl <| .cons rfl <| .cons (Eq.trans (b := .bool (x0_.f4 == x1_.f4)) rfl (congrArg Value.bool (beq_eq_false_iff_ne.2 c11))) <| .cons (Eq.trans (b := .bool (x0_.f4 == x1_.f4)) rfl (congrArg Value.bool (beq_eq_false_iff_ne.2 c11))) .nil)
            refine ops_chain (S := Agr _) (.k 34 14 [(39, undef), (40, undef), (41, undef), (42, undef), (43, undef), (44, .bool false), (45, .bool false), (46, undef), (47, undef), (48, undef), (49, undef), (50, undef), (51, .bool false), (4, .bool false)] (by kernel_rfl) .nil) (rest := []) hE (Agr.refl _) (fun a hE => ?_)
            refine ops_done ?_
            refine hK6 _ _ ?_
            refine wp_ret ?_
            replace hS := hS.tail
            replace hS := hS.tail
            obtain rfl := Option.some.inj H
            exact ret1 hE rfl (.tmp rfl .nil) ⟨_, rfl, _, rfl, hS⟩
        · rw [if_neg c10] at H
          obtain ⟨J, hE⟩ := hE.norm [(0, .agg #[.int .i64 x0_.f0, .int .i64 x0_.f1, .int .i64 x0_.f2, .int .i64 x0_.f3, .int .i64 x0_.f4, .int .i64 x0_.f5, .slice A0_6 x0_.f6.length c0_6]), (1, .agg #[.int .i64 x1_.f0, .int .i64 x1_.f1, .int .i64 x1_.f2, .int .i64 x1_.f3, .int .i64 x1_.f4, .int .i64 x1_.f5, .slice A1_6 x1_.f6.length c1_6]), (2, .pointer (some ⟨b2, 0, none⟩)), (3, .pointer (some ⟨b4, 0, none⟩)), (4, .bool false), (11, .pointer (some ⟨b2, 1, none⟩)), (12, .int .i64 x0_.f1), (13, .pointer (some ⟨b4, 1, none⟩)), (14, .int .i64 x1_.f1), (15, .bool true), (18, .pointer (some ⟨b2, 2, none⟩)), (19, .int .i64 x0_.f2), (20, .pointer (some ⟨b4, 2, none⟩)), (21, .int .i64 x1_.f2), (22, .bool true), (25, .pointer (some ⟨b2, 3, none⟩)), (26, .int .i64 x0_.f3), (27, .pointer (some ⟨b4, 3, none⟩)), (28, .int .i64 x1_.f3), (29, .bool false), (31, .bool false)] (.cons rfl <| .cons rfl <| .cons rfl <| .cons rfl <| .cons rfl <| .cons rfl <| .cons rfl <| .cons rfl <| .cons rfl <| .cons rfl <| .cons rfl <| .cons rfl <| .cons rfl <| .cons rfl <| .cons rfl <| .cons rfl <| .cons rfl <| .cons rfl <| .cons rfl <| .cons (Eq.trans (b := .bool (x0_.f3 == x1_.f3)) rfl (congrArg Value.bool (beq_eq_false_iff_ne.2 c10))) <| .cons (Eq.trans (b := .bool (x0_.f3 == x1_.f3)) rfl (congrArg Value.bool (beq_eq_false_iff_ne.2 c10))) .nil)
          refine ops_chain (S := Agr _) (.k 27 21 [(32, undef), (33, undef), (34, undef), (35, undef), (36, undef), (37, .bool false), (38, .bool false), (39, undef), (40, undef), (41, undef), (42, undef), (43, undef), (44, .bool false), (45, .bool false), (46, undef), (47, undef), (48, undef), (49, undef), (50, undef), (51, .bool false), (4, .bool false)] (by kernel_rfl) .nil) (rest := []) hE (Agr.refl _) (fun a hE => ?_)
          refine ops_done ?_
          refine hK6 _ _ ?_
          refine wp_ret ?_
          replace hS := hS.tail
          replace hS := hS.tail
          obtain rfl := Option.some.inj H
          exact ret1 hE rfl (.tmp rfl .nil) ⟨_, rfl, _, rfl, hS⟩
      · rw [if_neg c9] at H
        obtain ⟨J, hE⟩ := hE.norm [(0, .agg #[.int .i64 x0_.f0, .int .i64 x0_.f1, .int .i64 x0_.f2, .int .i64 x0_.f3, .int .i64 x0_.f4, .int .i64 x0_.f5, .slice A0_6 x0_.f6.length c0_6]), (1, .agg #[.int .i64 x1_.f0, .int .i64 x1_.f1, .int .i64 x1_.f2, .int .i64 x1_.f3, .int .i64 x1_.f4, .int .i64 x1_.f5, .slice A1_6 x1_.f6.length c1_6]), (2, .pointer (some ⟨b2, 0, none⟩)), (3, .pointer (some ⟨b4, 0, none⟩)), (4, .bool false), (11, .pointer (some ⟨b2, 1, none⟩)), (12, .int .i64 x0_.f1), (13, .pointer (some ⟨b4, 1, none⟩)), (14, .int .i64 x1_.f1), (15, .bool true), (18, .pointer (some ⟨b2, 2, none⟩)), (19, .int .i64 x0_.f2), (20, .pointer (some ⟨b4, 2, none⟩)), (21, .int .i64 x1_.f2), (22, .bool false), (24, .bool false)] (.cons rfl <| .cons rfl <| .cons rfl <| .cons rfl <| .cons rfl <| .cons rfl <| .cons rfl <| .cons rfl <| .cons rfl <| .cons rfl <| .cons rfl <| .cons rfl <| .cons rfl <| .cons rfl <| .cons (Eq.trans (b := .bool (x0_.f2 == x1_.f2)) rfl (congrArg Value.bool (beq_eq_false_iff_ne.2 c9))) <| .cons (Eq.trans (b := .bool (x0_.f2 == x1_.f2)) rfl (congrArg Value.bool (beq_eq_false_iff_ne.2 c9))) .nil)
        refine ops_chain (S := Agr _) (.k 20 28 [(25, undef), (26, undef), (27, undef), (28, undef), (29, undef), (30, .bool false), (31, .bool false), (32, undef), (33, undef), (34, undef), (35, undef), (36, undef), (37, .bool false), (38, .bool false), (39, undef), (40, undef), (41, undef), (42, undef), (43, undef), (44, .bool false), (45, .bool false), (46, undef), (47, undef), (48, undef), (49, undef), (50, undef), (51, .bool false), (4, .bool false)] (by kernel_rfl) .nil) (rest := []) hE (Agr.refl _) (fun a hE => ?_)
        refine ops_done ?_
        refine hK6 _ _ ?_
        refine wp_ret ?_
        replace hS := hS.tail
        replace hS := hS.tail
        obtain rfl := Option.some.inj H
        exact ret1 hE rfl (.tmp rfl .nil) ⟨_, rfl, _, rfl, hS⟩
    · rw [if_neg c8] at H
      obtain ⟨J, hE⟩ := hE.norm [(0, .agg #[.int .i64 x0_.f0, .int .i64 x0_.f1, .int .i64 x0_.f2, .int .i64 x0_.f3, .int .i64 x0_.f4, .int .i64 x0_.f5, .slice A0_6 x0_.f6.length c0_6]), (1, .agg #[.int .i64 x1_.f0, .int .i64 x1_.f1, .int .i64 x1_.f2, .int .i64 x1_.f3, .int .i64 x1_.f4, .int .i64 x1_.f5, .slice A1_6 x1_.f6.length c1_6]), (2, .pointer (some ⟨b2, 0, none⟩)), (3, .pointer (some ⟨b4, 0, none⟩)), (4, .bool false), (11, .pointer (some ⟨b2, 1, none⟩)), (12, .int .i64 x0_.f1), (13, .pointer (some ⟨b4, 1, none⟩)), (14, .int .i64 x1_.f1), (15, .bool false), (17, .bool false)] (.cons rfl <| .cons rfl <| .cons rfl <| .cons rfl <| .cons rfl <| .cons rfl <| .cons rfl <| .cons rfl <| .cons rfl <| .cons (Eq.trans (b := .bool (x0_.f1 == x1_.f1)) rfl (congrArg Value.bool (beq_eq_false_iff_ne.2 c8))) <| .cons (Eq.trans (b := .bool (x0_.f1 == x1_.f1)) rfl (congrArg Value.bool (beq_eq_false_iff_ne.2 c8))) .nil)
      refine ops_chain (S := Agr _) (.k 13 35 [(18, undef), (19, undef), (20, undef), (21, undef), (22, undef), (23, .bool false), (24, .bool false), (25, undef), (26, undef), (27, undef), (28, undef), (29, undef), (30, .bool false), (31, .bool false), (32, undef), (33, undef), (34, undef), (35, undef), (36, undef), (37, .bool false), (38, .bool false), (39, undef), (40, undef), (41, undef), (42, undef), (43, undef), (44, .bool false), (45, .bool false), (46, undef), (47, undef), (48, undef), (49, undef), (50, undef), (51, .bool false), (4, .bool false)] (by kernel_rfl) .nil) (rest := []) hE (Agr.refl _) (fun a hE => ?_)
      refine ops_done ?_
      refine hK6 _ _ ?_
      refine wp_ret ?_
      replace hS := hS.tail
      replace hS := hS.tail
      obtain rfl := Option.some.inj H
      exact ret1 hE rfl (.tmp rfl .nil) ⟨_, rfl, _, rfl, hS⟩
  · rw [if_neg c7] at H
    obtain ⟨J, hE⟩ := hE.norm [(0, .agg #[.int .i64 x0_.f0, .int .i64 x0_.f1, .int .i64 x0_.f2, .int .i64 x0_.f3, .int .i64 x0_.f4, .int .i64 x0_.f5, .slice A0_6 x0_.f6.length c0_6]), (1, .agg #[.int .i64 x1_.f0, .int .i64 x1_.f1, .int .i64 x1_.f2, .int .i64 x1_.f3, .int .i64 x1_.f4, .int .i64 x1_.f5, .slice A1_6 x1_.f6.length c1_6]), (2, .pointer (some ⟨b2, 0, none⟩)), (3, .pointer (some ⟨b4, 0, none⟩)), (4, .bool false), (10, .bool false)] (.cons rfl <| .cons rfl <| .cons rfl <| .cons rfl <| .cons rfl <| .cons (Eq.trans (b := .bool (x0_.f0 == x1_.f0)) rfl (congrArg Value.bool (beq_eq_false_iff_ne.2 c7))) .nil)
    refine ops_chain (S := Agr _) (.k 6 42 [(11, undef), (12, undef), (13, undef), (14, undef), (15, undef), (16, .bool false), (17, .bool false), (18, undef), (19, undef), (20, undef), (21, undef), (22, undef), (23, .bool false), (24, .bool false), (25, undef), (26, undef), (27, undef), (28, undef), (29, undef), (30, .bool false), (31, .bool false), (32, undef), (33, undef), (34, undef), (35, undef), (36, undef), (37, .bool false), (38, .bool false), (39, undef), (40, undef), (41, undef), (42, undef), (43, undef), (44, .bool false), (45, .bool false), (46, undef), (47, undef), (48, undef), (49, undef), (50, undef), (51, .bool false), (4, .bool false)] (by kernel_rfl) .nil) (rest := []) hE (Agr.refl _) (fun a hE => ?_)
    refine ops_done ?_
    refine hK6 _ _ ?_
    refine wp_ret ?_
    replace hS := hS.tail
    replace hS := hS.tail
    obtain rfl := Option.some.inj H
    exact ret1 hE rfl (.tmp rfl .nil) ⟨_, rfl, _, rfl, hS⟩

/-! ### windrose/windroseref16.in: function 75 -/
def windroseref16_in.f (x0_ : Int) : Option Bool := if x0_ ≥ 0 then (some (decide (x0_ < 2147483648))) else (some false)
def windroseref16_in.Post (W F : World) (r : Bool) (v : Value) (w' : World) : Prop := ∃ (F' : World), v = .bool r ∧ St W (mine W []) F w' F' []
set_option maxHeartbeats 4000000 in
set_option maxRecDepth 100000 in
theorem windroseref16_in.calls (x0_ : Int) (r : Bool) (W F : World) (hsub : Sub F W) (H : windroseref16_in.f x0_ = some r) :
    Calls Try.prog 75 #[.int .i64 x0_] W fun e w' => ∃ v, e = .returned v ∧ windroseref16_in.Post W F r v w' := by
  have hS := St.start (Own.nil hsub)
  unfold windroseref16_in.f at H
  refine enter (n := 9) rfl rfl rfl (Nat.le_of_ble_eq_true rfl) (fun a hE => ?_)
  refine wp_seq_k fun K1 hK1 => ?_
  refine plain (L := [0]) rfl ?_
  refine ops_chain (S := Agr _) (.k 0 1 [(2, .bool false)] (by kernel_rfl) .nil) (rest := []) hE (Agr.refl _) (fun a hE => ?_)
  refine ops_done ?_
  refine hK1 _ _ ?_
  refine wp_seq_k fun K2 hK2 => ?_
  refine plain (L := [0, 1, 2, 3, 4, 5, 6]) rfl ?_
  refine ops_chain (S := Agr _) (.k 0 3 [(3, .int .i64 x0_), (4, .bool (decide (x0_ ≥ 0))), (5, .bool (decide (x0_ ≥ 0)))] (by kernel_rfl) .nil) (rest := [3, 4, 5, 6]) hE (Agr.refl _) (fun a hE => ?_)
  by_cases c3 : x0_ ≥ 0
  · rw [if_pos c3] at H
    obtain ⟨J, hE⟩ := hE.norm [(0, .int .i64 x0_), (2, .bool false), (5, .bool true)] (.cons rfl <| .cons rfl <| .cons (Eq.trans (b := .bool (decide (x0_ ≥ 0))) rfl (congrArg Value.bool (decide_eq_true c3))) .nil)
    refine ops_chain (S := Agr _) (.k 3 4 [(6, .int .i64 x0_), (7, .bool (decide (x0_ < 2147483648))), (8, .bool (decide (x0_ < 2147483648))), (2, .bool (decide (x0_ < 2147483648)))] (by kernel_rfl) .nil) (rest := []) hE (Agr.refl _) (fun a hE => ?_)
    refine ops_done ?_
    refine hK2 _ _ ?_
    refine wp_ret ?_
    obtain rfl := Option.some.inj H
    exact ret1 hE rfl (.tmp rfl .nil) ⟨_, rfl, _, rfl, hS⟩
  · rw [if_neg c3] at H
    obtain ⟨J, hE⟩ := hE.norm [(0, .int .i64 x0_), (2, .bool false), (5, .bool false)] (.cons rfl <| .cons rfl <| .cons (Eq.trans (b := .bool (decide (x0_ ≥ 0))) rfl (congrArg Value.bool (decide_eq_false c3))) .nil)
    refine ops_chain (S := Agr _) (.k 3 4 [(6, undef), (7, undef), (8, .bool false), (2, .bool false)] (by kernel_rfl) .nil) (rest := []) hE (Agr.refl _) (fun a hE => ?_)
    refine ops_done ?_
    refine hK2 _ _ ?_
    refine wp_ret ?_
    obtain rfl := Option.some.inj H
    exact ret1 hE rfl (.tmp rfl .nil) ⟨_, rfl, _, rfl, hS⟩

/-! ### windrose/windroseref08.Bare: function 78 -/
def windroseref08_Bare.f (x0_ : S28) : Option S28 := if x0_.f0 = 1 then (some (⟨x0_.f0, x0_.f1, x0_.f2, x0_.f3, x0_.f4, 0, []⟩ : S28)) else (if x0_.f0 = 2 then (some (⟨x0_.f0, x0_.f1, 0, 0, x0_.f4, 0, []⟩ : S28)) else (if x0_.f0 = 8 then (some (⟨x0_.f0, 0, 0, 0, 0, x0_.f5, x0_.f6⟩ : S28)) else (if x0_.f0 = 9 then (some (⟨x0_.f0, 0, 0, 0, 0, 0, []⟩ : S28)) else (if x0_.f0 = 10 then (some (⟨x0_.f0, 0, 0, 0, x0_.f4, x0_.f5, []⟩ : S28)) else (some (⟨x0_.f0, x0_.f1, 0, 0, 0, 0, []⟩ : S28))))))
def windroseref08_Bare.Post (W F : World) (r : S28) (v : Value) (w' : World) : Prop := ∃ (F' : World) (A0_6 : Option Addr) (c0_6 : Nat), v = .agg #[.int .i64 r.f0, .int .i64 r.f1, .int .i64 r.f2, .int .i64 r.f3, .int .i64 r.f4, .int .i64 r.f5, .slice A0_6 r.f6.length c0_6] ∧ St W (mine W []) F w' F' [] ∧ Rd (Kn.int .i64) F' A0_6 c0_6 r.f6
set_option maxHeartbeats 4000000 in
set_option maxRecDepth 100000 in
theorem windroseref08_Bare.calls (x0_ : S28) (A0_6 : Option Addr) (c0_6 : Nat) (r : S28) (W F : World) (hsub : Sub F W) (g0_6 : Rd (Kn.int .i64) F A0_6 c0_6 x0_.f6) (H : windroseref08_Bare.f x0_ = some r) :
    Calls Try.prog 78 #[.agg #[.int .i64 x0_.f0, .int .i64 x0_.f1, .int .i64 x0_.f2, .int .i64 x0_.f3, .int .i64 x0_.f4, .int .i64 x0_.f5, .slice A0_6 x0_.f6.length c0_6]] W fun e w' => ∃ v, e = .returned v ∧ windroseref08_Bare.Post W F r v w' := by
  have hS := St.start (Own.nil hsub)
  unfold windroseref08_Bare.f at H
  refine enter (n := 55) rfl rfl rfl (Nat.le_of_ble_eq_true rfl) (fun a hE => ?_)
  refine wp_seq_k fun K1 hK1 => ?_
  refine plain (L := [0, 1]) rfl ?_
  refine ops_eff 0 hE (some 1) rfl rfl rfl rfl (e_box hS rfl rfl #[.int .i64 x0_.f0, .int .i64 x0_.f1, .int .i64 x0_.f2, .int .i64 x0_.f3, .int .i64 x0_.f4, .int .i64 x0_.f5, .slice A0_6 x0_.f6.length c0_6] rfl) ?_
  rintro _ u3 a ⟨b2, rfl, hb2, hS, hg⟩ hE
  refine ops_eff 1 hE (some 2) rfl rfl rfl rfl (e_alloc hS rfl z28z #[.int .i64 0, .int .i64 0, .int .i64 0, .int .i64 0, .int .i64 0, .int .i64 0, .slice none 0 0] rfl) ?_
  rintro _ u5 a ⟨b4, rfl, hb4, hS, hg⟩ hE
  refine ops_done ?_
  refine hK1 _ _ ?_
  refine wp_seq_k fun K6 hK6 => ?_
  refine wp_seq_k fun K7 hK7 => ?_
  refine plain (L := [0, 1]) rfl ?_
  have hb2 := hS.blk_at (i := 1) rfl
  refine ops_chain (S := Agr _) (.k 0 1 [(3, .pointer (some ⟨b2, 0, none⟩))] (by kernel_rfl) <| .v 1 4 rfl rfl rfl rfl (lb1 0 (.int .i64 x0_.f0) rfl rfl ag3 hb2 rfl) .nil) (rest := []) hE (Agr.refl _) (fun a hE => ?_)
  refine ops_done ?_
  refine hK7 _ _ ?_
  refine wp_block ?_
  refine wp_seq_k fun K8 hK8 => ?_
  refine plain (L := [0, 1]) rfl ?_
  refine ops_chain (S := Agr _) (.k 0 2 [(6, .bool (x0_.f0 == 1)), (5, .bool (x0_.f0 == 1))] (by kernel_rfl) .nil) (rest := []) hE (Agr.refl _) (fun a hE => ?_)
  refine ops_done ?_
  refine hK8 _ _ ?_
  by_cases c9 : x0_.f0 = 1
  · rw [if_pos c9] at H
    refine cond_t hE (b := (x0_.f0 == 1)) rfl (beq_iff_eq.2 c9) ?_
    refine wp_seq_k fun K10 hK10 => ?_
    refine plain (L := [0, 1, 2, 3, 4, 5, 6, 7, 8, 9, 10, 11]) rfl ?_
    refine ops_chain (S := Agr _) (.k 0 1 [(7, .pointer (some ⟨b2, 0, none⟩))] (by kernel_rfl) <| .v 1 8 rfl rfl rfl rfl (lb1 0 (.int .i64 x0_.f0) rfl rfl ag3 hb2 rfl) <| .k 2 1 [(9, .pointer (some ⟨b2, 1, none⟩))] (by kernel_rfl) <| .v 3 10 rfl rfl rfl rfl (lb1 1 (.int .i64 x0_.f1) rfl rfl ag3 hb2 rfl) <| .k 4 1 [(11, .pointer (some ⟨b2, 2, none⟩))] (by kernel_rfl) <| .v 5 12 rfl rfl rfl rfl (lb1 2 (.int .i64 x0_.f2) rfl rfl ag3 hb2 rfl) <| .k 6 1 [(13, .pointer (some ⟨b2, 3, none⟩))] (by kernel_rfl) <| .v 7 14 rfl rfl rfl rfl (lb1 3 (.int .i64 x0_.f3) rfl rfl ag3 hb2 rfl) <| .k 8 1 [(15, .pointer (some ⟨b2, 4, none⟩))] (by kernel_rfl) <| .v 9 16 rfl rfl rfl rfl (lb1 4 (.int .i64 x0_.f4) rfl rfl ag3 hb2 rfl) <| .v 10 17 rfl rfl rfl rfl (YA.s (x_build [(0, .int .i64 x0_.f0), (1, .int .i64 x0_.f1), (2, .int .i64 x0_.f2), (3, .int .i64 x0_.f3), (4, .int .i64 x0_.f4)] (.agg #[.int .i64 x0_.f0, .int .i64 x0_.f1, .int .i64 x0_.f2, .int .i64 x0_.f3, .int .i64 x0_.f4, .int .i64 0, .slice none 0 0]) rfl rfl (fun w => by kernel_rfl))) .nil) (rest := [11]) hE (Agr.refl _) (fun a hE => ?_)
    refine ops_eff 11 hE none rfl rfl rfl rfl (e_store (off := 0) hS rfl rfl rfl sz28 (Nat.le_of_ble_eq_true rfl) (all_one rfl) #[.int .i64 x0_.f0, .int .i64 x0_.f1, .int .i64 x0_.f2, .int .i64 x0_.f3, .int .i64 x0_.f4, .int .i64 0, .slice none 0 0] rfl) ?_
    rintro _ u11 a ⟨rfl, hb4, hS, hz⟩ hE
    refine ops_done ?_
    refine hK10 _ _ ?_
    refine wp_ret (block_ret (then_ret ?_))
    replace hS := hS.tail
    replace hS := hS.tail
    obtain rfl := Option.some.inj H
    exact ret1 hE rfl (.cell rfl (res_blk [.int .i64 x0_.f0, .int .i64 x0_.f1, .int .i64 x0_.f2, .int .i64 x0_.f3, .int .i64 x0_.f4, .int .i64 0, .slice none 0 0] ag28 sz28 hb4 rfl) .nil) ⟨_, rfl, _, _, _, rfl, hS, (Rd.nil _ _)⟩
  · rw [if_neg c9] at H
    refine cond_f hE (b := (x0_.f0 == 1)) rfl (beq_eq_false_iff_ne.2 c9) ?_
    refine wp_seq_k fun K12 hK12 => ?_
    refine plain (L := [0, 1]) rfl ?_
    refine ops_chain (S := Agr _) (.k 0 2 [(19, .bool (x0_.f0 == 2)), (18, .bool (x0_.f0 == 2))] (by kernel_rfl) .nil) (rest := []) hE (Agr.refl _) (fun a hE => ?_)
    refine ops_done ?_
    refine hK12 _ _ ?_
    by_cases c13 : x0_.f0 = 2
    · rw [if_pos c13] at H
      refine cond_t hE (b := (x0_.f0 == 2)) rfl (beq_iff_eq.2 c13) ?_
      refine wp_seq_k fun K14 hK14 => ?_
      refine plain (L := [0, 1, 2, 3, 4, 5, 6, 7]) rfl ?_
      refine ops_chain (S := Agr _) (.k 0 1 [(20, .pointer (some ⟨b2, 0, none⟩))] (by kernel_rfl) <| .v 1 21 rfl rfl rfl rfl (lb1 0 (.int .i64 x0_.f0) rfl rfl ag3 hb2 rfl) <| .k 2 1 [(22, .pointer (some ⟨b2, 1, none⟩))] (by kernel_rfl) <| .v 3 23 rfl rfl rfl rfl (lb1 1 (.int .i64 x0_.f1) rfl rfl ag3 hb2 rfl) <| .k 4 1 [(24, .pointer (some ⟨b2, 4, none⟩))] (by kernel_rfl) <| .v 5 25 rfl rfl rfl rfl (lb1 4 (.int .i64 x0_.f4) rfl rfl ag3 hb2 rfl) <| .v 6 26 rfl rfl rfl rfl (YA.s (x_build [(0, .int .i64 x0_.f0), (1, .int .i64 x0_.f1), (4, .int .i64 x0_.f4)] (.agg #[.int .i64 x0_.f0, .int .i64 x0_.f1, .int .i64 0, .int .i64 0, .int .i64 x0_.f4, .int .i64 0, .slice none 0 0]) rfl rfl (fun w => by kernel_rfl))) .nil) (rest := [7]) hE (Agr.refl _) (fun a hE => ?_)
      refine ops_eff 7 hE none rfl rfl rfl rfl (e_store (off := 0) hS rfl rfl rfl sz28 (Nat.le_of_ble_eq_true rfl) (all_one rfl) #[.int .i64 x0_.f0, .int .i64 x0_.f1, .int .i64 0, .int .i64 0, .int .i64 x0_.f4, .int .i64 0, .slice none 0 0] rfl) ?_
      rintro _ u15 a ⟨rfl, hb4, hS, hz⟩ hE
      refine ops_done ?_
      refine hK14 _ _ ?_
      refine wp_ret (block_ret (then_ret ?_))
      replace hS := hS.tail
      replace hS := hS.tail
      obtain rfl := Option.some.inj H
      exact ret1 hE rfl (.cell rfl (res_blk [.int .i64 x0_.f0, .int .i64 x0_.f1, .int .i64 0, .int .i64 0, .int .i64 x0_.f4, .int .i64 0, .slice none 0 0] ag28 sz28 hb4 rfl) .nil) ⟨_, rfl, _, _, _, rfl, hS, (Rd.nil _ _)⟩
    · rw [if_neg c13] at H
      refine cond_f hE (b := (x0_.f0 == 2)) rfl (beq_eq_false_iff_ne.2 c13) ?_
      refine wp_seq_k fun K16 hK16 => ?_
      refine plain (L := [0, 1]) rfl ?_
      refine ops_chain (S := Agr _) (.k 0 2 [(28, .bool (x0_.f0 == 8)), (27, .bool (x0_.f0 == 8))] (by kernel_rfl) .nil) (rest := []) hE (Agr.refl _) (fun a hE => ?_)
      refine ops_done ?_
      refine hK16 _ _ ?_
      by_cases c17 : x0_.f0 = 8
      · rw [if_pos c17] at H
        refine cond_t hE (b := (x0_.f0 == 8)) rfl (beq_iff_eq.2 c17) ?_
        refine wp_seq_k fun K18 hK18 => ?_
        refine plain (L := [0, 1, 2, 3, 4, 5, 6, 7]) rfl ?_
        refine ops_chain (S := Agr _) (.k 0 1 [(29, .pointer (some ⟨b2, 0, none⟩))] (by kernel_rfl) <| .v 1 30 rfl rfl rfl rfl (lb1 0 (.int .i64 x0_.f0) rfl rfl ag3 hb2 rfl) <| .k 2 1 [(31, .pointer (some ⟨b2, 5, none⟩))] (by kernel_rfl) <| .v 3 32 rfl rfl rfl rfl (lb1 5 (.int .i64 x0_.f5) rfl rfl ag3 hb2 rfl) <| .k 4 1 [(33, .pointer (some ⟨b2, 6, none⟩))] (by kernel_rfl) <| .v 5 34 rfl rfl rfl rfl (lb1 6 (.slice A0_6 x0_.f6.length c0_6) rfl rfl ag26 hb2 rfl) <| .v 6 35 rfl rfl rfl rfl (YA.s (x_build [(0, .int .i64 x0_.f0), (5, .int .i64 x0_.f5), (6, .slice A0_6 x0_.f6.length c0_6)] (.agg #[.int .i64 x0_.f0, .int .i64 0, .int .i64 0, .int .i64 0, .int .i64 0, .int .i64 x0_.f5, .slice A0_6 x0_.f6.length c0_6]) rfl rfl (fun w => by kernel_rfl))) .nil) (rest := [7]) hE (Agr.refl _) (fun a hE => ?_)
        refine ops_eff 7 hE none rfl rfl rfl rfl (e_store (off := 0) hS rfl rfl rfl sz28 (Nat.le_of_ble_eq_true rfl) (all_one rfl) #[.int .i64 x0_.f0, .int .i64 0, .int .i64 0, .int .i64 0, .int .i64 0, .int .i64 x0_.f5, .slice A0_6 x0_.f6.length c0_6] rfl) ?_
        rintro _ u19 a ⟨rfl, hb4, hS, hz⟩ hE
        refine ops_done ?_
        refine hK18 _ _ ?_
        refine wp_ret (block_ret (then_ret ?_))
        replace hS := hS.tail
        replace hS := hS.tail
        obtain rfl := Option.some.inj H
        exact ret1 hE rfl (.cell rfl (res_blk [.int .i64 x0_.f0, .int .i64 0, .int .i64 0, .int .i64 0, .int .i64 0, .int .i64 x0_.f5, .slice A0_6 x0_.f6.length c0_6] ag28 sz28 hb4 rfl) .nil) ⟨_, rfl, _, _, _, rfl, hS, g0_6⟩
      · rw [if_neg c17] at H
        refine cond_f hE (b := (x0_.f0 == 8)) rfl (beq_eq_false_iff_ne.2 c17) ?_
        refine wp_seq_k fun K20 hK20 => ?_
        refine plain (L := [0, 1]) rfl ?_
        refine ops_chain (S := Agr _) (.k 0 2 [(37, .bool (x0_.f0 == 9)), (36, .bool (x0_.f0 == 9))] (by kernel_rfl) .nil) (rest := []) hE (Agr.refl _) (fun a hE => ?_)
        refine ops_done ?_
        refine hK20 _ _ ?_
        by_cases c21 : x0_.f0 = 9
        · rw [if_pos c21] at H
          refine cond_t hE (b := (x0_.f0 == 9)) rfl (beq_iff_eq.2 c21) ?_
          refine wp_seq_k fun K22 hK22 => ?_
          refine plain (L := [0, 1, 2, 3]) rfl ?_
          refine ops_chain (S := Agr _) (.k 0 1 [(38, .pointer (some ⟨b2, 0, none⟩))] (by kernel_rfl) <| .v 1 39 rfl rfl rfl rfl (lb1 0 (.int .i64 x0_.f0) rfl rfl ag3 hb2 rfl) <| .v 2 40 rfl rfl rfl rfl (YA.s (x_build [(0, .int .i64 x0_.f0)] (.agg #[.int .i64 x0_.f0, .int .i64 0, .int .i64 0, .int .i64 0, .int .i64 0, .int .i64 0, .slice none 0 0]) rfl rfl (fun w => by kernel_rfl))) .nil) (rest := [3]) hE (Agr.refl _) (fun a hE => ?_)
          refine ops_eff 3 hE none rfl rfl rfl rfl (e_store (off := 0) hS rfl rfl rfl sz28 (Nat.le_of_ble_eq_true rfl) (all_one rfl) #[.int .i64 x0_.f0, .int .i64 0, .int .i64 0, .int .i64 0, .int .i64 0, .int .i64 0, .slice none 0 0] rfl) ?_
          rintro _ u23 a ⟨rfl, hb4, hS, hz⟩ hE
          refine ops_done ?_
          refine hK22 _ _ ?_
          refine wp_ret (block_ret (then_ret ?_))
          replace hS := hS.tail
          replace hS := hS.tail
          obtain rfl := Option.some.inj H
          exact ret1 hE rfl (.cell rfl (res_blk [.int .i64 x0_.f0, .int .i64 0, .int .i64 0, .int .i64 0, .int .i64 0, .int .i64 0, .slice none 0 0] ag28 sz28 hb4 rfl) .nil) ⟨_, rfl, _, _, _, rfl, hS, (Rd.nil _ _)⟩
        · rw [if_neg c21] at H
          refine cond_f hE (b := (x0_.f0 == 9)) rfl (beq_eq_false_iff_ne.2 c21) ?_
          refine wp_seq_k fun K24 hK24 => ?_
          refine plain (L := [0, 1]) rfl ?_
          refine ops_chain (S := Agr _) (.k 0 2 [(42, .bool (x0_.f0 == 10)), (41, .bool (x0_.f0 == 10))] (by kernel_rfl) .nil) (rest := []) hE (Agr.refl _) (fun a hE => ?_)
          refine ops_done ?_
          refine hK24 _ _ ?_
          by_cases c25 : x0_.f0 = 10
          · rw [if_pos c25] at H
            refine cond_t hE (b := (x0_.f0 == 10)) rfl (beq_iff_eq.2 c25) ?_
            refine wp_seq_k fun K26 hK26 => ?_
            refine plain (L := [0, 1, 2, 3, 4, 5, 6, 7]) rfl ?_
            refine ops_chain (S := Agr _) (.k 0 1 [(43, .pointer (some ⟨b2, 0, none⟩))] (by kernel_rfl) <| .v 1 44 rfl rfl rfl rfl (lb1 0 (.int .i64 x0_.f0) rfl rfl ag3 hb2 rfl) <| .k 2 1 [(45, .pointer (some ⟨b2, 5, none⟩))] (by kernel_rfl) <| .v 3 46 rfl rfl rfl rfl (lb1 5 (.int .i64 x0_.f5) rfl rfl ag3 hb2 rfl) <| .k 4 1 [(47, .pointer (some ⟨b2, 4, none⟩))] (by kernel_rfl) <| .v 5 48 rfl rfl rfl rfl (lb1 4 (.int .i64 x0_.f4) rfl rfl ag3 hb2 rfl) <| .v 6 49 rfl rfl rfl rfl (YA.s (x_build [(0, .int .i64 x0_.f0), (5, .int .i64 x0_.f5), (4, .int .i64 x0_.f4)] (.agg #[.int .i64 x0_.f0, .int .i64 0, .int .i64 0, .int .i64 0, .int .i64 x0_.f4, .int .i64 x0_.f5, .slice none 0 0]) rfl rfl (fun w => by kernel_rfl))) .nil) (rest := [7]) hE (Agr.refl _) (fun a hE => ?_)
            refine ops_eff 7 hE none rfl rfl rfl rfl (e_store (off := 0) hS rfl rfl rfl sz28 (Nat.le_of_ble_eq_true rfl) (all_one rfl) #[.int .i64 x0_.f0, .int .i64 0, .int .i64 0, .int .i64 0, .int .i64 x0_.f4, .int .i64 x0_.f5, .slice none 0 0] rfl) ?_
            rintro _ u27 a ⟨rfl, hb4, hS, hz⟩ hE
            refine ops_done ?_
            refine hK26 _ _ ?_
            refine wp_ret (block_ret (then_ret ?_))
            replace hS := hS.tail
            replace hS := hS.tail
            obtain rfl := Option.some.inj H
            exact ret1 hE rfl (.cell rfl (res_blk [.int .i64 x0_.f0, .int .i64 0, .int .i64 0, .int .i64 0, .int .i64 x0_.f4, .int .i64 x0_.f5, .slice none 0 0] ag28 sz28 hb4 rfl) .nil) ⟨_, rfl, _, _, _, rfl, hS, (Rd.nil _ _)⟩
          · rw [if_neg c25] at H
            refine cond_f hE (b := (x0_.f0 == 10)) rfl (beq_eq_false_iff_ne.2 c25) ?_
            refine wp_skip ?_
            refine hK6 _ _ ?_
            refine wp_seq_k fun K28 hK28 => ?_
            refine plain (L := [0, 1, 2, 3, 4, 5]) rfl ?_
            refine ops_chain (S := Agr _) (.k 0 1 [(50, .pointer (some ⟨b2, 0, none⟩))] (by kernel_rfl) <| .v 1 51 rfl rfl rfl rfl (lb1 0 (.int .i64 x0_.f0) rfl rfl ag3 hb2 rfl) <| .k 2 1 [(52, .pointer (some ⟨b2, 1, none⟩))] (by kernel_rfl) <| .v 3 53 rfl rfl rfl rfl (lb1 1 (.int .i64 x0_.f1) rfl rfl ag3 hb2 rfl) <| .v 4 54 rfl rfl rfl rfl (YA.s (x_build [(0, .int .i64 x0_.f0), (1, .int .i64 x0_.f1)] (.agg #[.int .i64 x0_.f0, .int .i64 x0_.f1, .int .i64 0, .int .i64 0, .int .i64 0, .int .i64 0, .slice none 0 0]) rfl rfl (fun w => by kernel_rfl))) .nil) (rest := [5]) hE (Agr.refl _) (fun a hE => ?_)
            refine ops_eff 5 hE none rfl rfl rfl rfl (e_store (off := 0) hS rfl rfl rfl sz28 (Nat.le_of_ble_eq_true rfl) (all_one rfl) #[.int .i64 x0_.f0, .int .i64 x0_.f1, .int .i64 0, .int .i64 0, .int .i64 0, .int .i64 0, .slice none 0 0] rfl) ?_
            rintro _ u29 a ⟨rfl, hb4, hS, hz⟩ hE
            refine ops_done ?_
            refine hK28 _ _ ?_
            refine wp_ret ?_
            replace hS := hS.tail
            replace hS := hS.tail
            obtain rfl := Option.some.inj H
            exact ret1 hE rfl (.cell rfl (res_blk [.int .i64 x0_.f0, .int .i64 x0_.f1, .int .i64 0, .int .i64 0, .int .i64 0, .int .i64 0, .slice none 0 0] ag28 sz28 hb4 rfl) .nil) ⟨_, rfl, _, _, _, rfl, hS, (Rd.nil _ _)⟩

end Go.Proofs.Ytilgmccdpddeoaa.SX
