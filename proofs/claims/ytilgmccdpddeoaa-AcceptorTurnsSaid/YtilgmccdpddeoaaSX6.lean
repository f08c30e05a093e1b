/- Functions of the program, what each computes (written by wip/s/sl.py). -/
import Derived.Test.YtilgmccdpddeoaaSX5
namespace Go.Proofs.Ytilgmccdpddeoaa.SX
open Go Go.RowKit Go.Proofs.Ytilgmccdpddeoaa.Sl
set_option linter.unusedVariables false
set_option linter.unusedSimpArgs false
/-! ### windrose/windroselaw16.AcceptorTurns: function 3 -/
mutual
def windroselaw16_AcceptorTurns.j15 : Nat → S24 → S25 → S28 → Bool → Option Bool
  | 0, _, _, _, _ => none
  | k + 1, x0_, x1_, x2_, y14 => if y14 = true then ((windroselaw16_awake.f k).bind fun t22 => (some t22)) else ((acceptor_Prepare.f k x0_ x1_.f0 x1_.f1).bind fun t26 => ((acceptor_Accept.f k x0_ x1_.f0 x1_.f2 x2_).bind fun t41 => ((acceptor_Check.f k x0_).bind fun t54 => ((windroseref16_May.f k x0_).bind fun t57 => (if (t54 == 0) = t57 then ((acceptor_CheckDelta.f k x2_).bind fun t61 => ((windroseref16_Delta.f k x2_).bind fun t64 => (windroselaw16_AcceptorTurns.j68 k x0_ x1_ x2_ t26 t41 (!((t61 == 0) == t64))))) else (windroselaw16_AcceptorTurns.j68 k x0_ x1_ x2_ t26 t41 true))))))
def windroselaw16_AcceptorTurns.j68 : Nat → S24 → S25 → S28 → S24 × (List S49) × Int → S24 × Int → Bool → Option Bool
  | 0, _, _, _, _, _, _ => none
  | k + 1, x0_, x1_, x2_, t26, t41, y67 => if y67 = true then (some false) else ((windroseref16_May.f k x0_).bind fun t77 => (if t77 = true then ((windroseref16_Prepare.f k x0_ x1_.f0 x1_.f1).bind fun t101 => ((windroseref16_Accept.f k x0_ x1_.f0 x1_.f2 x2_).bind fun t116 => (if t26.2.2 = t101.2.2 then ((windroseref16_List.f k t26.2.1 t101.2.1).bind fun t128 => (if t128 = true then ((windroseref16_Same.f k t26.1 t101.1).bind fun t132 => (if t132 = true then (if t41.2 = t116.2 then ((windroseref16_Same.f k t41.1 t116.1).bind fun t137 => (if t137 = true then ((windroseref16_May.f k t26.1).bind fun t141 => (if t141 = true then ((windroseref16_May.f k t41.1).bind fun t145 => (if t145 = true then ((acceptor_Same.f k t26.1 t41.1).bind fun t149 => ((windroseref16_Same.f k t26.1 t41.1).bind fun t152 => (if t149 = t152 then ((windroselaw16_awake.f k).bind fun t156 => (some t156)) else (some false)))) else (some false))) else (some false))) else (some false))) else (some false)) else (some false))) else (some false))) else (some false)))) else (if t26.2.2 = 1 then (if t41.2 = 1 then (if (t26.2.1.length : Int) = 0 then ((windroseref16_Same.f k t26.1 (⟨0, []⟩ : S24)).bind fun t89 => (if t89 = true then ((windroseref16_Same.f k t41.1 (⟨0, []⟩ : S24)).bind fun t93 => (if t93 = true then ((windroselaw16_awake.f k).bind fun t97 => (some t97)) else (some false))) else (some false))) else (some false)) else (some false)) else (some false))))
end
theorem windroselaw16_AcceptorTurns.j15_s (k : Nat) (x0_ : S24) (x1_ : S25) (x2_ : S28) (y14 : Bool) : windroselaw16_AcceptorTurns.j15 (k + 1) x0_ x1_ x2_ y14 = (if y14 = true then ((windroselaw16_awake.f k).bind fun t22 => (some t22)) else ((acceptor_Prepare.f k x0_ x1_.f0 x1_.f1).bind fun t26 => ((acceptor_Accept.f k x0_ x1_.f0 x1_.f2 x2_).bind fun t41 => ((acceptor_Check.f k x0_).bind fun t54 => ((windroseref16_May.f k x0_).bind fun t57 => (if (t54 == 0) = t57 then ((acceptor_CheckDelta.f k x2_).bind fun t61 => ((windroseref16_Delta.f k x2_).bind fun t64 => (windroselaw16_AcceptorTurns.j68 k x0_ x1_ x2_ t26 t41 (!((t61 == 0) == t64))))) else (windroselaw16_AcceptorTurns.j68 k x0_ x1_ x2_ t26 t41 true))))))) := by kernel_rfl
theorem windroselaw16_AcceptorTurns.j68_s (k : Nat) (x0_ : S24) (x1_ : S25) (x2_ : S28) (t26 : S24 × (List S49) × Int) (t41 : S24 × Int) (y67 : Bool) : windroselaw16_AcceptorTurns.j68 (k + 1) x0_ x1_ x2_ t26 t41 y67 = (if y67 = true then (some false) else ((windroseref16_May.f k x0_).bind fun t77 => (if t77 = true then ((windroseref16_Prepare.f k x0_ x1_.f0 x1_.f1).bind fun t101 => ((windroseref16_Accept.f k x0_ x1_.f0 x1_.f2 x2_).bind fun t116 => (if t26.2.2 = t101.2.2 then ((windroseref16_List.f k t26.2.1 t101.2.1).bind fun t128 => (if t128 = true then ((windroseref16_Same.f k t26.1 t101.1).bind fun t132 => (if t132 = true then (if t41.2 = t116.2 then ((windroseref16_Same.f k t41.1 t116.1).bind fun t137 => (if t137 = true then ((windroseref16_May.f k t26.1).bind fun t141 => (if t141 = true then ((windroseref16_May.f k t41.1).bind fun t145 => (if t145 = true then ((acceptor_Same.f k t26.1 t41.1).bind fun t149 => ((windroseref16_Same.f k t26.1 t41.1).bind fun t152 => (if t149 = t152 then ((windroselaw16_awake.f k).bind fun t156 => (some t156)) else (some false)))) else (some false))) else (some false))) else (some false))) else (some false)) else (some false))) else (some false))) else (some false)))) else (if t26.2.2 = 1 then (if t41.2 = 1 then (if (t26.2.1.length : Int) = 0 then ((windroseref16_Same.f k t26.1 (⟨0, []⟩ : S24)).bind fun t89 => (if t89 = true then ((windroseref16_Same.f k t41.1 (⟨0, []⟩ : S24)).bind fun t93 => (if t93 = true then ((windroselaw16_awake.f k).bind fun t97 => (some t97)) else (some false))) else (some false))) else (some false)) else (some false)) else (some false))))) := by kernel_rfl
def windroselaw16_AcceptorTurns.f (k : Nat) (x0_ : S24) (x1_ : S25) (x2_ : S28) : Option Bool := (windroselaw16_Light.f k x0_).bind fun t10 => (if t10 = true then (windroselaw16_AcceptorTurns.j15 k x0_ x1_ x2_ (decide ((x2_.f6.length : Int) > 20))) else (windroselaw16_AcceptorTurns.j15 k x0_ x1_ x2_ true))
def windroselaw16_AcceptorTurns.Post (W F : World) (r : Bool) (v : Value) (w' : World) : Prop := ∃ (F' : World), v = .bool r ∧ St W (mine W []) F w' F' []
set_option maxHeartbeats 4000000 in
set_option maxRecDepth 100000 in
theorem windroselaw16_AcceptorTurns.calls (k : Nat) (x0_ : S24) (x1_ : S25) (x2_ : S28) (A0_1 : Option Addr) (c0_1 : Nat) (A2_6 : Option Addr) (c2_6 : Nat) (r : Bool) (W F : World) (hsub : Sub F W) (g0_1 : Rd k49 F A0_1 c0_1 x0_.f1) (g2_6 : Rd (Kn.int .i64) F A2_6 c2_6 x2_.f6) (H : windroselaw16_AcceptorTurns.f k x0_ x1_ x2_ = some r) :
    Calls Try.prog 3 #[.agg #[.int .i64 x0_.f0, .slice A0_1 x0_.f1.length c0_1], .agg #[.int .i64 x1_.f0, .int .i64 x1_.f1, .int .i64 x1_.f2], .agg #[.int .i64 x2_.f0, .int .i64 x2_.f1, .int .i64 x2_.f2, .int .i64 x2_.f3, .int .i64 x2_.f4, .int .i64 x2_.f5, .slice A2_6 x2_.f6.length c2_6]] W fun e w' => ∃ v, e = .returned v ∧ windroselaw16_AcceptorTurns.Post W F r v w' := by
  have hS := St.start (Own.nil hsub)
  unfold windroselaw16_AcceptorTurns.f at H
  refine enter (n := 153) rfl rfl rfl (Nat.le_of_ble_eq_true rfl) (fun a hE => ?_)
  refine wp_seq_k fun K1 hK1 => ?_
  refine plain (L := [0, 1, 2, 3]) rfl ?_
  refine ops_eff 0 hE (some 3) rfl rfl rfl rfl (e_box hS rfl rfl #[.int .i64 x0_.f0, .slice A0_1 x0_.f1.length c0_1] rfl) ?_
  rintro _ u3 a ⟨b2, rfl, hb2, hS, hg⟩ hE
  refine ops_eff 1 hE (some 4) rfl rfl rfl rfl (e_box hS rfl rfl #[.int .i64 x1_.f0, .int .i64 x1_.f1, .int .i64 x1_.f2] rfl) ?_
  rintro _ u5 a ⟨b4, rfl, hb4, hS, hg⟩ hE
  refine ops_eff 2 hE (some 5) rfl rfl rfl rfl (e_box hS rfl rfl #[.int .i64 x2_.f0, .int .i64 x2_.f1, .int .i64 x2_.f2, .int .i64 x2_.f3, .int .i64 x2_.f4, .int .i64 x2_.f5, .slice A2_6 x2_.f6.length c2_6] rfl) ?_
  rintro _ u7 a ⟨b6, rfl, hb6, hS, hg⟩ hE
  refine ops_chain (S := Agr _) (.k 3 1 [(6, .bool false)] (by kernel_rfl) .nil) (rest := []) hE (Agr.refl _) (fun a hE => ?_)
  refine ops_done ?_
  refine hK1 _ _ ?_
  refine wp_seq_k fun K8 hK8 => ?_
  refine wp_seq_k fun K9 hK9 => ?_
  have J18 : ∀ kq16, kq16 ≤ k → ∀ (J : Nat → Value) (y14 : Bool) (a : Act) (w' : World), Env 153 (updL J [(0, .agg #[.int .i64 x0_.f0, .slice A0_1 x0_.f1.length c0_1]), (1, .agg #[.int .i64 x1_.f0, .int .i64 x1_.f1, .int .i64 x1_.f2]), (2, .agg #[.int .i64 x2_.f0, .int .i64 x2_.f1, .int .i64 x2_.f2, .int .i64 x2_.f3, .int .i64 x2_.f4, .int .i64 x2_.f5, .slice A2_6 x2_.f6.length c2_6]), (3, .pointer (some ⟨b2, 0, none⟩)), (4, .pointer (some ⟨b4, 0, none⟩)), (5, .pointer (some ⟨b6, 0, none⟩)), (6, .bool false), (26, .bool y14)]) a → St W (mine W []) F w' F [box b6 #[.int .i64 x2_.f0, .int .i64 x2_.f1, .int .i64 x2_.f2, .int .i64 x2_.f3, .int .i64 x2_.f4, .int .i64 x2_.f5, .slice A2_6 x2_.f6.length c2_6] 28, box b4 #[.int .i64 x1_.f0, .int .i64 x1_.f1, .int .i64 x1_.f2] 25, box b2 #[.int .i64 x0_.f0, .slice A0_1 x0_.f1.length c0_1] 24] → windroselaw16_AcceptorTurns.j15 kq16 x0_ x1_ x2_ y14 = some r → K9 a w' := by
    intro kq16 hkq J y14 a u19 hE hS H
    cases kq16 with
    | zero => cases (show none = some r from H)
    | succ k17 =>
      rw [windroselaw16_AcceptorTurns.j15_s] at H
      refine hK9 _ _ ?_
      by_cases c20 : y14 = true
      · rw [if_pos c20] at H
        refine cond_t hE (b := y14) rfl c20 ?_
        refine wp_seq_k fun K21 hK21 => ?_
        refine plain (L := [0, 1]) rfl ?_
        obtain ⟨t22, h23, H⟩ := Option.bind_eq_some_iff.mp H
        refine ops_eff 0 hE (some 27) rfl rfl rfl rfl (Eff.call en18 rfl [] rfl (windroselaw16_awake.calls k17 _ _ _ hS.own.sub h23)) ?_
        rintro _ u24 a ⟨_, rfl, hC⟩ hE
        replace hS := hS.lent hC
        refine ops_chain (S := Agr _) (.k 1 1 [(6, .bool t22)] (by kernel_rfl) .nil) (rest := []) hE (Agr.refl _) (fun a hE => ?_)
        refine ops_done ?_
        refine hK21 _ _ ?_
        refine wp_ret (then_ret ?_)
        replace hS := hS.tail
        replace hS := hS.tail
        replace hS := hS.tail
        obtain rfl := Option.some.inj H
        exact ret1 hE rfl (.tmp rfl .nil) ⟨_, rfl, _, rfl, hS⟩
      · rw [if_neg c20] at H
        refine cond_f hE (b := y14) rfl (eq_false_of_ne_true c20) ?_
        refine wp_skip ?_
        refine hK8 _ _ ?_
        refine wp_seq_k fun K25 hK25 => ?_
        refine plain (L := [0, 1, 2, 3, 4, 5, 6, 7, 8, 9, 10, 11, 12, 13]) rfl ?_
        have hb2 := hS.blk_at (i := 2) rfl
        have hb4 := hS.blk_at (i := 1) rfl
        refine ops_chain (S := Agr _) (.v 0 29 rfl rfl rfl rfl (lbn 0 [.int .i64 x0_.f0, .slice A0_1 x0_.f1.length c0_1] rfl rfl ag24 sz24 hb2 rfl) <| .k 1 1 [(30, .pointer (some ⟨b4, 0, none⟩))] (by kernel_rfl) <| .v 2 31 rfl rfl rfl rfl (lb1 0 (.int .i64 x1_.f0) rfl rfl ag3 hb4 rfl) <| .k 3 1 [(32, .pointer (some ⟨b4, 1, none⟩))] (by kernel_rfl) <| .v 4 33 rfl rfl rfl rfl (lb1 1 (.int .i64 x1_.f1) rfl rfl ag3 hb4 rfl) .nil) (rest := [5, 6, 7, 8, 9, 10, 11, 12, 13]) hE (Agr.refl _) (fun a hE => ?_)
        obtain ⟨t26, h27, H⟩ := Option.bind_eq_some_iff.mp H
        refine ops_eff 5 hE (some 34) rfl rfl rfl rfl (Eff.call en19 rfl [.agg #[.int .i64 x0_.f0, .slice A0_1 x0_.f1.length c0_1], .int .i64 x1_.f0, .int .i64 x1_.f1] rfl (acceptor_Prepare.calls k17 x0_ x1_.f0 x1_.f1 _ _ _ _ _ hS.own.sub g0_1 h27)) ?_
        rintro _ u28 a ⟨F29, A30, c31, A33, c34, rfl, hC, g32⟩ hE
        have hs := hC.sub
        replace hS : St W (mine W []) F u28 F29 [row k49 49 (.slice A33 t26.2.1.length c34) t26.2.1, box b6 #[.int .i64 x2_.f0, .int .i64 x2_.f1, .int .i64 x2_.f2, .int .i64 x2_.f3, .int .i64 x2_.f4, .int .i64 x2_.f5, .slice A2_6 x2_.f6.length c2_6] 28, box b4 #[.int .i64 x1_.f0, .int .i64 x1_.f1, .int .i64 x1_.f2] 25, box b2 #[.int .i64 x0_.f0, .slice A0_1 x0_.f1.length c0_1] 24] := hS.called (X := []) (Y := [row k49 49 (.slice A33 t26.2.1.length c34) t26.2.1]) hC
        replace g0_1 := g0_1.mono hs
        replace g2_6 := g2_6.mono hs
        refine ops_chain (S := Agr _) (.k 6 4 [(28, .tuple #[.agg #[.int .i64 t26.1.f0, .slice A30 t26.1.f1.length c31], .slice A33 t26.2.1.length c34, .int .i64 t26.2.2]), (35, .agg #[.int .i64 t26.1.f0, .slice A30 t26.1.f1.length c31]), (36, .slice A33 t26.2.1.length c34), (37, .int .i64 t26.2.2)] (by kernel_rfl) .nil) (rest := [10, 11, 12, 13]) hE (Agr.refl _) (fun a hE => ?_)
        refine ops_eff 10 hE (some 7) rfl rfl rfl rfl (e_alloc hS rfl z24z #[.int .i64 0, .slice none 0 0] rfl) ?_
        rintro _ u38 a ⟨b37, rfl, hb37, hS, hg⟩ hE
        refine ops_eff 11 hE none rfl rfl rfl rfl (e_store (off := 0) hS rfl rfl rfl sz24 (Nat.le_of_ble_eq_true rfl) (all_one rfl) #[.int .i64 t26.1.f0, .slice A30 t26.1.f1.length c31] rfl) ?_
        rintro _ u39 a ⟨rfl, hb37, hS, hz⟩ hE
        refine ops_chain (S := Agr _) (.k 12 2 [(8, .slice A33 t26.2.1.length c34), (9, .int .i64 t26.2.2)] (by kernel_rfl) .nil) (rest := []) hE (Agr.refl _) (fun a hE => ?_)
        refine ops_done ?_
        refine hK25 _ _ ?_
        refine wp_seq_k fun K40 hK40 => ?_
        refine plain (L := [0, 1, 2, 3, 4, 5, 6, 7, 8, 9, 10, 11, 12]) rfl ?_
        have hb2 := hS.blk_at (i := 4) rfl
        have hb4 := hS.blk_at (i := 3) rfl
        have hb6 := hS.blk_at (i := 2) rfl
        refine ops_chain (S := Agr _) (.v 0 39 rfl rfl rfl rfl (lbn 0 [.int .i64 x0_.f0, .slice A0_1 x0_.f1.length c0_1] rfl rfl ag24 sz24 hb2 rfl) <| .k 1 1 [(40, .pointer (some ⟨b4, 0, none⟩))] (by kernel_rfl) <| .v 2 41 rfl rfl rfl rfl (lb1 0 (.int .i64 x1_.f0) rfl rfl ag3 hb4 rfl) <| .k 3 1 [(42, .pointer (some ⟨b4, 2, none⟩))] (by kernel_rfl) <| .v 4 43 rfl rfl rfl rfl (lb1 2 (.int .i64 x1_.f2) rfl rfl ag3 hb4 rfl) <| .v 5 44 rfl rfl rfl rfl (lbn 0 [.int .i64 x2_.f0, .int .i64 x2_.f1, .int .i64 x2_.f2, .int .i64 x2_.f3, .int .i64 x2_.f4, .int .i64 x2_.f5, .slice A2_6 x2_.f6.length c2_6] rfl rfl ag28 sz28 hb6 rfl) .nil) (rest := [6, 7, 8, 9, 10, 11, 12]) hE (Agr.refl _) (fun a hE => ?_)
        obtain ⟨t41, h42, H⟩ := Option.bind_eq_some_iff.mp H
        refine ops_eff 6 hE (some 45) rfl rfl rfl rfl (Eff.call en20 rfl [.agg #[.int .i64 x0_.f0, .slice A0_1 x0_.f1.length c0_1], .int .i64 x1_.f0, .int .i64 x1_.f2, .agg #[.int .i64 x2_.f0, .int .i64 x2_.f1, .int .i64 x2_.f2, .int .i64 x2_.f3, .int .i64 x2_.f4, .int .i64 x2_.f5, .slice A2_6 x2_.f6.length c2_6]] rfl (acceptor_Accept.calls k17 x0_ x1_.f0 x1_.f2 x2_ _ _ _ _ _ _ _ hS.own.sub g0_1 g2_6 h42)) ?_
        rintro _ u43 a ⟨F44, A45, c46, rfl, hC⟩ hE
        have hs := hC.sub
        replace hS : St W (mine W []) F u43 F44 [row k49 49 (.slice A45 t41.1.f1.length c46) t41.1.f1, box b37 #[.int .i64 t26.1.f0, .slice A30 t26.1.f1.length c31] 24, row k49 49 (.slice A33 t26.2.1.length c34) t26.2.1, box b6 #[.int .i64 x2_.f0, .int .i64 x2_.f1, .int .i64 x2_.f2, .int .i64 x2_.f3, .int .i64 x2_.f4, .int .i64 x2_.f5, .slice A2_6 x2_.f6.length c2_6] 28, box b4 #[.int .i64 x1_.f0, .int .i64 x1_.f1, .int .i64 x1_.f2] 25, box b2 #[.int .i64 x0_.f0, .slice A0_1 x0_.f1.length c0_1] 24] := hS.called (X := []) (Y := [row k49 49 (.slice A45 t41.1.f1.length c46) t41.1.f1]) hC
        replace g0_1 := g0_1.mono hs
        replace g2_6 := g2_6.mono hs
        replace g32 := g32.mono hs
        refine ops_chain (S := Agr _) (.k 7 3 [(38, .tuple #[.agg #[.int .i64 t41.1.f0, .slice A45 t41.1.f1.length c46], .int .i64 t41.2]), (46, .agg #[.int .i64 t41.1.f0, .slice A45 t41.1.f1.length c46]), (47, .int .i64 t41.2)] (by kernel_rfl) .nil) (rest := [10, 11, 12]) hE (Agr.refl _) (fun a hE => ?_)
        refine ops_eff 10 hE (some 10) rfl rfl rfl rfl (e_alloc hS rfl z24z #[.int .i64 0, .slice none 0 0] rfl) ?_
        rintro _ u50 a ⟨b49, rfl, hb49, hS, hg⟩ hE
        refine ops_eff 11 hE none rfl rfl rfl rfl (e_store (off := 0) hS rfl rfl rfl sz24 (Nat.le_of_ble_eq_true rfl) (all_one rfl) #[.int .i64 t41.1.f0, .slice A45 t41.1.f1.length c46] rfl) ?_
        rintro _ u51 a ⟨rfl, hb49, hS, hz⟩ hE
        refine ops_chain (S := Agr _) (.k 12 1 [(11, .int .i64 t41.2)] (by kernel_rfl) .nil) (rest := []) hE (Agr.refl _) (fun a hE => ?_)
        refine ops_done ?_
        refine hK40 _ _ ?_
        refine wp_seq_k fun K52 hK52 => ?_
        refine wp_seq_k fun K53 hK53 => ?_
        have J71 : ∀ kq69, kq69 ≤ k17 → ∀ (J : Nat → Value) (y67 : Bool) (a : Act) (w' : World), Env 153 (updL J [(0, .agg #[.int .i64 x0_.f0, .slice A0_1 x0_.f1.length c0_1]), (1, .agg #[.int .i64 x1_.f0, .int .i64 x1_.f1, .int .i64 x1_.f2]), (2, .agg #[.int .i64 x2_.f0, .int .i64 x2_.f1, .int .i64 x2_.f2, .int .i64 x2_.f3, .int .i64 x2_.f4, .int .i64 x2_.f5, .slice A2_6 x2_.f6.length c2_6]), (3, .pointer (some ⟨b2, 0, none⟩)), (4, .pointer (some ⟨b4, 0, none⟩)), (5, .pointer (some ⟨b6, 0, none⟩)), (6, .bool false), (7, .pointer (some ⟨b37, 0, none⟩)), (8, .slice A33 t26.2.1.length c34), (9, .int .i64 t26.2.2), (10, .pointer (some ⟨b49, 0, none⟩)), (11, .int .i64 t41.2), (26, .bool y14), (61, .bool y67)]) a → St W (mine W []) F w' F44 [box b49 #[.int .i64 t41.1.f0, .slice A45 t41.1.f1.length c46] 24, box b37 #[.int .i64 t26.1.f0, .slice A30 t26.1.f1.length c31] 24, box b6 #[.int .i64 x2_.f0, .int .i64 x2_.f1, .int .i64 x2_.f2, .int .i64 x2_.f3, .int .i64 x2_.f4, .int .i64 x2_.f5, .slice A2_6 x2_.f6.length c2_6] 28, box b4 #[.int .i64 x1_.f0, .int .i64 x1_.f1, .int .i64 x1_.f2] 25, box b2 #[.int .i64 x0_.f0, .slice A0_1 x0_.f1.length c0_1] 24, row k49 49 (.slice A45 t41.1.f1.length c46) t41.1.f1, row k49 49 (.slice A33 t26.2.1.length c34) t26.2.1] → windroselaw16_AcceptorTurns.j68 kq69 x0_ x1_ x2_ t26 t41 y67 = some r → K53 a w' := by
          intro kq69 hkq J y67 a u72 hE hS H
          cases kq69 with
          | zero => cases (show none = some r from H)
          | succ k70 =>
            rw [windroselaw16_AcceptorTurns.j68_s] at H
            refine hK53 _ _ ?_
            by_cases c73 : y67 = true
            · rw [if_pos c73] at H
              refine cond_t hE (b := y67) rfl c73 ?_
              refine wp_seq_k fun K74 hK74 => ?_
              refine plain (L := [0]) rfl ?_
              refine ops_chain (S := Agr _) (.k 0 1 [(6, .bool false)] (by kernel_rfl) .nil) (rest := []) hE (Agr.refl _) (fun a hE => ?_)
              refine ops_done ?_
              refine hK74 _ _ ?_
              refine wp_ret (then_ret ?_)
              replace hS := hS.tail
              replace hS := hS.tail
              replace hS := hS.tail
              replace hS := hS.tail
              replace hS := hS.tail
              replace hS := hS.tail
              replace hS := hS.tail
              obtain rfl := Option.some.inj H
              exact ret1 hE rfl (.tmp rfl .nil) ⟨_, rfl, _, rfl, hS⟩
            · rw [if_neg c73] at H
              refine cond_f hE (b := y67) rfl (eq_false_of_ne_true c73) ?_
              refine wp_skip ?_
              refine hK52 _ _ ?_
              refine wp_seq_k fun K75 hK75 => ?_
              refine wp_seq_k fun K76 hK76 => ?_
              refine plain (L := [0, 1, 2]) rfl ?_
              have hb2 := hS.blk_at (i := 4) rfl
              refine ops_chain (S := Agr _) (.v 0 62 rfl rfl rfl rfl (lbn 0 [.int .i64 x0_.f0, .slice A0_1 x0_.f1.length c0_1] rfl rfl ag24 sz24 hb2 rfl) .nil) (rest := [1, 2]) hE (Agr.refl _) (fun a hE => ?_)
              obtain ⟨t77, h78, H⟩ := Option.bind_eq_some_iff.mp H
              refine ops_eff 1 hE (some 63) rfl rfl rfl rfl (Eff.call en22 rfl [.agg #[.int .i64 x0_.f0, .slice A0_1 x0_.f1.length c0_1]] rfl (windroseref16_May.calls k70 x0_ _ _ _ _ _ hS.own.sub g0_1 h78)) ?_
              rintro _ u79 a ⟨_, rfl, hC⟩ hE
              replace hS := hS.lent hC
              refine ops_chain (S := Agr _) (.k 2 1 [(64, .bool (!t77))] (by kernel_rfl) .nil) (rest := []) hE (Agr.refl _) (fun a hE => ?_)
              refine ops_done ?_
              refine hK76 _ _ ?_
              by_cases c80 : t77 = true
              · rw [if_pos c80] at H
                refine cond_f hE (b := (!t77)) rfl (congrArg not c80) ?_
                refine wp_skip ?_
                refine hK75 _ _ ?_
                refine wp_seq_k fun K100 hK100 => ?_
                refine plain (L := [0, 1, 2, 3, 4, 5, 6, 7, 8, 9, 10, 11, 12, 13]) rfl ?_
                have hb2 := hS.blk_at (i := 4) rfl
                have hb4 := hS.blk_at (i := 3) rfl
                refine ops_chain (S := Agr _) (.v 0 91 rfl rfl rfl rfl (lbn 0 [.int .i64 x0_.f0, .slice A0_1 x0_.f1.length c0_1] rfl rfl ag24 sz24 hb2 rfl) <| .k 1 1 [(92, .pointer (some ⟨b4, 0, none⟩))] (by kernel_rfl) <| .v 2 93 rfl rfl rfl rfl (lb1 0 (.int .i64 x1_.f0) rfl rfl ag3 hb4 rfl) <| .k 3 1 [(94, .pointer (some ⟨b4, 1, none⟩))] (by kernel_rfl) <| .v 4 95 rfl rfl rfl rfl (lb1 1 (.int .i64 x1_.f1) rfl rfl ag3 hb4 rfl) .nil) (rest := [5, 6, 7, 8, 9, 10, 11, 12, 13]) hE (Agr.refl _) (fun a hE => ?_)
                obtain ⟨t101, h102, H⟩ := Option.bind_eq_some_iff.mp H
                refine ops_eff 5 hE (some 96) rfl rfl rfl rfl (Eff.call en26 rfl [.agg #[.int .i64 x0_.f0, .slice A0_1 x0_.f1.length c0_1], .int .i64 x1_.f0, .int .i64 x1_.f1] rfl (windroseref16_Prepare.calls k70 x0_ x1_.f0 x1_.f1 _ _ _ _ _ hS.own.sub g0_1 h102)) ?_
                rintro _ u103 a ⟨F104, A105, c106, A108, c109, rfl, hC, g107⟩ hE
                have hs := hC.sub
                replace hS : St W (mine W []) F u103 F104 [row k49 49 (.slice A108 t101.2.1.length c109) t101.2.1, box b49 #[.int .i64 t41.1.f0, .slice A45 t41.1.f1.length c46] 24, box b37 #[.int .i64 t26.1.f0, .slice A30 t26.1.f1.length c31] 24, box b6 #[.int .i64 x2_.f0, .int .i64 x2_.f1, .int .i64 x2_.f2, .int .i64 x2_.f3, .int .i64 x2_.f4, .int .i64 x2_.f5, .slice A2_6 x2_.f6.length c2_6] 28, box b4 #[.int .i64 x1_.f0, .int .i64 x1_.f1, .int .i64 x1_.f2] 25, box b2 #[.int .i64 x0_.f0, .slice A0_1 x0_.f1.length c0_1] 24, row k49 49 (.slice A45 t41.1.f1.length c46) t41.1.f1, row k49 49 (.slice A33 t26.2.1.length c34) t26.2.1] := hS.called (X := []) (Y := [row k49 49 (.slice A108 t101.2.1.length c109) t101.2.1]) hC
                replace g0_1 := g0_1.mono hs
                replace g2_6 := g2_6.mono hs
                replace g32 := g32.mono hs
                refine ops_chain (S := Agr _) (.k 6 4 [(90, .tuple #[.agg #[.int .i64 t101.1.f0, .slice A105 t101.1.f1.length c106], .slice A108 t101.2.1.length c109, .int .i64 t101.2.2]), (97, .agg #[.int .i64 t101.1.f0, .slice A105 t101.1.f1.length c106]), (98, .slice A108 t101.2.1.length c109), (99, .int .i64 t101.2.2)] (by kernel_rfl) .nil) (rest := [10, 11, 12, 13]) hE (Agr.refl _) (fun a hE => ?_)
                refine ops_eff 10 hE (some 13) rfl rfl rfl rfl (e_alloc hS rfl z24z #[.int .i64 0, .slice none 0 0] rfl) ?_
                rintro _ u113 a ⟨b112, rfl, hb112, hS, hg⟩ hE
                refine ops_eff 11 hE none rfl rfl rfl rfl (e_store (off := 0) hS rfl rfl rfl sz24 (Nat.le_of_ble_eq_true rfl) (all_one rfl) #[.int .i64 t101.1.f0, .slice A105 t101.1.f1.length c106] rfl) ?_
                rintro _ u114 a ⟨rfl, hb112, hS, hz⟩ hE
                refine ops_chain (S := Agr _) (.k 12 2 [(14, .slice A108 t101.2.1.length c109), (15, .int .i64 t101.2.2)] (by kernel_rfl) .nil) (rest := []) hE (Agr.refl _) (fun a hE => ?_)
                refine ops_done ?_
                refine hK100 _ _ ?_
                refine wp_seq_k fun K115 hK115 => ?_
                refine plain (L := [0, 1, 2, 3, 4, 5, 6, 7, 8, 9, 10, 11, 12]) rfl ?_
                have hb2 := hS.blk_at (i := 6) rfl
                have hb4 := hS.blk_at (i := 5) rfl
                have hb6 := hS.blk_at (i := 4) rfl
                refine ops_chain (S := Agr _) (.v 0 101 rfl rfl rfl rfl (lbn 0 [.int .i64 x0_.f0, .slice A0_1 x0_.f1.length c0_1] rfl rfl ag24 sz24 hb2 rfl) <| .k 1 1 [(102, .pointer (some ⟨b4, 0, none⟩))] (by kernel_rfl) <| .v 2 103 rfl rfl rfl rfl (lb1 0 (.int .i64 x1_.f0) rfl rfl ag3 hb4 rfl) <| .k 3 1 [(104, .pointer (some ⟨b4, 2, none⟩))] (by kernel_rfl) <| .v 4 105 rfl rfl rfl rfl (lb1 2 (.int .i64 x1_.f2) rfl rfl ag3 hb4 rfl) <| .v 5 106 rfl rfl rfl rfl (lbn 0 [.int .i64 x2_.f0, .int .i64 x2_.f1, .int .i64 x2_.f2, .int .i64 x2_.f3, .int .i64 x2_.f4, .int .i64 x2_.f5, .slice A2_6 x2_.f6.length c2_6] rfl rfl ag28 sz28 hb6 rfl) .nil) (rest := [6, 7, 8, 9, 10, 11, 12]) hE (Agr.refl _) (fun a hE => ?_)
                obtain ⟨t116, h117, H⟩ := Option.bind_eq_some_iff.mp H
                refine ops_eff 6 hE (some 107) rfl rfl rfl rfl (Eff.call en27 rfl [.agg #[.int .i64 x0_.f0, .slice A0_1 x0_.f1.length c0_1], .int .i64 x1_.f0, .int .i64 x1_.f2, .agg #[.int .i64 x2_.f0, .int .i64 x2_.f1, .int .i64 x2_.f2, .int .i64 x2_.f3, .int .i64 x2_.f4, .int .i64 x2_.f5, .slice A2_6 x2_.f6.length c2_6]] rfl (windroseref16_Accept.calls k70 x0_ x1_.f0 x1_.f2 x2_ _ _ _ _ _ _ _ hS.own.sub g0_1 g2_6 h117)) ?_
                rintro _ u118 a ⟨F119, A120, c121, rfl, hC, g122⟩ hE
                have hs := hC.sub
                replace hS : St W (mine W []) F u118 F119 [box b112 #[.int .i64 t101.1.f0, .slice A105 t101.1.f1.length c106] 24, row k49 49 (.slice A108 t101.2.1.length c109) t101.2.1, box b49 #[.int .i64 t41.1.f0, .slice A45 t41.1.f1.length c46] 24, box b37 #[.int .i64 t26.1.f0, .slice A30 t26.1.f1.length c31] 24, box b6 #[.int .i64 x2_.f0, .int .i64 x2_.f1, .int .i64 x2_.f2, .int .i64 x2_.f3, .int .i64 x2_.f4, .int .i64 x2_.f5, .slice A2_6 x2_.f6.length c2_6] 28, box b4 #[.int .i64 x1_.f0, .int .i64 x1_.f1, .int .i64 x1_.f2] 25, box b2 #[.int .i64 x0_.f0, .slice A0_1 x0_.f1.length c0_1] 24, row k49 49 (.slice A45 t41.1.f1.length c46) t41.1.f1, row k49 49 (.slice A33 t26.2.1.length c34) t26.2.1] := hS.called (X := []) (Y := []) hC
                replace g0_1 := g0_1.mono hs
                replace g2_6 := g2_6.mono hs
                replace g107 := g107.mono hs
                replace g32 := g32.mono hs
                refine ops_chain (S := Agr _) (.k 7 3 [(100, .tuple #[.agg #[.int .i64 t116.1.f0, .slice A120 t116.1.f1.length c121], .int .i64 t116.2]), (108, .agg #[.int .i64 t116.1.f0, .slice A120 t116.1.f1.length c121]), (109, .int .i64 t116.2)] (by kernel_rfl) .nil) (rest := [10, 11, 12]) hE (Agr.refl _) (fun a hE => ?_)
                refine ops_eff 10 hE (some 16) rfl rfl rfl rfl (e_alloc hS rfl z24z #[.int .i64 0, .slice none 0 0] rfl) ?_
                rintro _ u124 a ⟨b123, rfl, hb123, hS, hg⟩ hE
                refine ops_eff 11 hE none rfl rfl rfl rfl (e_store (off := 0) hS rfl rfl rfl sz24 (Nat.le_of_ble_eq_true rfl) (all_one rfl) #[.int .i64 t116.1.f0, .slice A120 t116.1.f1.length c121] rfl) ?_
                rintro _ u125 a ⟨rfl, hb123, hS, hz⟩ hE
                refine ops_chain (S := Agr _) (.k 12 1 [(17, .int .i64 t116.2)] (by kernel_rfl) .nil) (rest := []) hE (Agr.refl _) (fun a hE => ?_)
                refine ops_done ?_
                refine hK115 _ _ ?_
                refine wp_seq_k fun K126 hK126 => ?_
                refine drawn 44 [] mixed rfl (by kernel_rfl) (fun hst => ?_)
                replace hS := hS.drew
                refine many 15 hst hE (.k 0 4 [(110, .int .i64 t26.2.2), (111, .int .i64 t101.2.2), (112, .bool (t26.2.2 == t101.2.2)), (113, .bool (t26.2.2 == t101.2.2))] (by kernel_rfl) .nil) (by kernel_rfl) (fun a hE => ?_)
                by_cases c127 : t26.2.2 = t101.2.2
                · rw [if_pos c127] at H
                  obtain ⟨J, hE⟩ := hE.norm [(0, .agg #[.int .i64 x0_.f0, .slice A0_1 x0_.f1.length c0_1]), (1, .agg #[.int .i64 x1_.f0, .int .i64 x1_.f1, .int .i64 x1_.f2]), (2, .agg #[.int .i64 x2_.f0, .int .i64 x2_.f1, .int .i64 x2_.f2, .int .i64 x2_.f3, .int .i64 x2_.f4, .int .i64 x2_.f5, .slice A2_6 x2_.f6.length c2_6]), (3, .pointer (some ⟨b2, 0, none⟩)), (4, .pointer (some ⟨b4, 0, none⟩)), (5, .pointer (some ⟨b6, 0, none⟩)), (6, .bool false), (7, .pointer (some ⟨b37, 0, none⟩)), (8, .slice A33 t26.2.1.length c34), (9, .int .i64 t26.2.2), (10, .pointer (some ⟨b49, 0, none⟩)), (11, .int .i64 t41.2), (13, .pointer (some ⟨b112, 0, none⟩)), (14, .slice A108 t101.2.1.length c109), (15, .int .i64 t101.2.2), (16, .pointer (some ⟨b123, 0, none⟩)), (17, .int .i64 t116.2), (26, .bool y14), (61, .bool y67), (64, .bool (!t77)), (113, .bool true)] (.cons rfl <| .cons rfl <| .cons rfl <| .cons rfl <| .cons rfl <| .cons rfl <| .cons rfl <| .cons rfl <| .cons rfl <| .cons rfl <| .cons rfl <| .cons rfl <| .cons rfl <| .cons rfl <| .cons rfl <| .cons rfl <| .cons rfl <| .cons rfl <| .cons rfl <| .cons rfl <| .cons (Eq.trans (b := .bool (t26.2.2 == t101.2.2)) rfl (congrArg Value.bool (beq_iff_eq.2 c127))) .nil)
                  refine many 63 hst hE (.k 4 2 [(114, .slice A33 t26.2.1.length c34), (115, .slice A108 t101.2.1.length c109)] (by kernel_rfl) .nil) (by kernel_rfl) (fun a hE => ?_)
                  obtain ⟨t128, h129, H⟩ := Option.bind_eq_some_iff.mp H
                  refine one 6 127 hE (some 116) rfl rfl rfl rfl (by kernel_rfl) (Eff.call en28 rfl [.slice A33 t26.2.1.length c34, .slice A108 t101.2.1.length c109] rfl (windroseref16_List.calls k70 t26.2.1 t101.2.1 _ _ _ _ _ _ _ (Sub.refl _) (hS.rd_at (i := 9) rfl) (hS.rd_at (i := 2) rfl) h129)) ?_
                  rintro _ u130 a ⟨_, rfl, hC⟩ hE
                  refine ⟨fun _ => hC.agr, ?_⟩
                  replace hS := hS.lent hC
                  refine many 511 hst hE (.k 7 2 [(117, .bool t128), (118, .bool t128)] (by kernel_rfl) .nil) (by kernel_rfl) (fun a hE => ?_)
                  by_cases c131 : t128 = true
                  · rw [if_pos c131] at H
                    obtain ⟨J, hE⟩ := hE.norm [(0, .agg #[.int .i64 x0_.f0, .slice A0_1 x0_.f1.length c0_1]), (1, .agg #[.int .i64 x1_.f0, .int .i64 x1_.f1, .int .i64 x1_.f2]), (2, .agg #[.int .i64 x2_.f0, .int .i64 x2_.f1, .int .i64 x2_.f2, .int .i64 x2_.f3, .int .i64 x2_.f4, .int .i64 x2_.f5, .slice A2_6 x2_.f6.length c2_6]), (3, .pointer (some ⟨b2, 0, none⟩)), (4, .pointer (some ⟨b4, 0, none⟩)), (5, .pointer (some ⟨b6, 0, none⟩)), (6, .bool false), (7, .pointer (some ⟨b37, 0, none⟩)), (8, .slice A33 t26.2.1.length c34), (9, .int .i64 t26.2.2), (10, .pointer (some ⟨b49, 0, none⟩)), (11, .int .i64 t41.2), (13, .pointer (some ⟨b112, 0, none⟩)), (14, .slice A108 t101.2.1.length c109), (15, .int .i64 t101.2.2), (16, .pointer (some ⟨b123, 0, none⟩)), (17, .int .i64 t116.2), (26, .bool y14), (61, .bool y67), (64, .bool (!t77)), (114, .slice A33 t26.2.1.length c34), (115, .slice A108 t101.2.1.length c109), (116, .bool true), (118, .bool true)] (.cons rfl <| .cons rfl <| .cons rfl <| .cons rfl <| .cons rfl <| .cons rfl <| .cons rfl <| .cons rfl <| .cons rfl <| .cons rfl <| .cons rfl <| .cons rfl <| .cons rfl <| .cons rfl <| .cons rfl <| .cons rfl <| .cons rfl <| .cons rfl <| .cons rfl <| .cons rfl <| .cons rfl <| .cons rfl <| .cons (Eq.trans (b := .bool t128) rfl (congrArg Value.bool c131)) <| .cons (Eq.trans (b := .bool t128) rfl (congrArg Value.bool c131)) .nil)
                    have hb37 := hS.blk_at (i := 4) rfl
                    have hb112 := hS.blk_at (i := 1) rfl
                    refine many 2047 hst hE (.v 9 119 rfl rfl rfl rfl (lbn 0 [.int .i64 t26.1.f0, .slice A30 t26.1.f1.length c31] rfl rfl ag24 sz24 hb37 rfl) <| .v 10 120 rfl rfl rfl rfl (lbn 0 [.int .i64 t101.1.f0, .slice A105 t101.1.f1.length c106] rfl rfl ag24 sz24 hb112 rfl) .nil) (by kernel_rfl) (fun a hE => ?_)
                    obtain ⟨t132, h133, H⟩ := Option.bind_eq_some_iff.mp H
                    refine one 11 4095 hE (some 121) rfl rfl rfl rfl (by kernel_rfl) (Eff.call en25 rfl [.agg #[.int .i64 t26.1.f0, .slice A30 t26.1.f1.length c31], .agg #[.int .i64 t101.1.f0, .slice A105 t101.1.f1.length c106]] rfl (windroseref16_Same.calls k70 t26.1 t101.1 _ _ _ _ _ _ _ hS.own.sub g32 g107 h133)) ?_
                    rintro _ u134 a ⟨_, rfl, hC⟩ hE
                    refine ⟨fun _ => hC.agr, ?_⟩
                    replace hS := hS.lent hC
                    refine many 16383 hst hE (.k 12 2 [(122, .bool t132), (123, .bool t132)] (by kernel_rfl) .nil) (by kernel_rfl) (fun a hE => ?_)
                    by_cases c135 : t132 = true
                    · rw [if_pos c135] at H
                      obtain ⟨J, hE⟩ := hE.norm [(0, .agg #[.int .i64 x0_.f0, .slice A0_1 x0_.f1.length c0_1]), (1, .agg #[.int .i64 x1_.f0, .int .i64 x1_.f1, .int .i64 x1_.f2]), (2, .agg #[.int .i64 x2_.f0, .int .i64 x2_.f1, .int .i64 x2_.f2, .int .i64 x2_.f3, .int .i64 x2_.f4, .int .i64 x2_.f5, .slice A2_6 x2_.f6.length c2_6]), (3, .pointer (some ⟨b2, 0, none⟩)), (4, .pointer (some ⟨b4, 0, none⟩)), (5, .pointer (some ⟨b6, 0, none⟩)), (6, .bool false), (7, .pointer (some ⟨b37, 0, none⟩)), (8, .slice A33 t26.2.1.length c34), (9, .int .i64 t26.2.2), (10, .pointer (some ⟨b49, 0, none⟩)), (11, .int .i64 t41.2), (13, .pointer (some ⟨b112, 0, none⟩)), (14, .slice A108 t101.2.1.length c109), (15, .int .i64 t101.2.2), (16, .pointer (some ⟨b123, 0, none⟩)), (17, .int .i64 t116.2), (26, .bool y14), (61, .bool y67), (64, .bool (!t77)), (114, .slice A33 t26.2.1.length c34), (115, .slice A108 t101.2.1.length c109), (116, .bool true), (119, .agg #[.int .i64 t26.1.f0, .slice A30 t26.1.f1.length c31]), (120, .agg #[.int .i64 t101.1.f0, .slice A105 t101.1.f1.length c106]), (121, .bool true), (123, .bool true)] (.cons rfl <| .cons rfl <| .cons rfl <| .cons rfl <| .cons rfl <| .cons rfl <| .cons rfl <| .cons rfl <| .cons rfl <| .cons rfl <| .cons rfl <| .cons rfl <| .cons rfl <| .cons rfl <| .cons rfl <| .cons rfl <| .cons rfl <| .cons rfl <| .cons rfl <| .cons rfl <| .cons rfl <| .cons rfl <| .cons rfl <| .cons rfl <| .cons rfl <| .cons (Eq.trans (b := .bool t132) rfl (congrArg Value.bool c135)) <| .cons (Eq.trans (b := .bool t132) rfl (congrArg Value.bool c135)) .nil)
                      refine many 524287 hst hE (.k 14 5 [(124, .int .i64 t41.2), (125, .int .i64 t116.2), (126, .bool (t41.2 == t116.2)), (127, .bool (t41.2 == t116.2)), (128, .bool (t41.2 == t116.2))] (by kernel_rfl) .nil) (by kernel_rfl) (fun a hE => ?_)
                      by_cases c136 : t41.2 = t116.2
                      · rw [if_pos c136] at H
                        obtain ⟨J, hE⟩ := hE.norm [(0, .agg #[.int .i64 x0_.f0, .slice A0_1 x0_.f1.length c0_1]), (1, .agg #[.int .i64 x1_.f0, .int .i64 x1_.f1, .int .i64 x1_.f2]), (2, .agg #[.int .i64 x2_.f0, .int .i64 x2_.f1, .int .i64 x2_.f2, .int .i64 x2_.f3, .int .i64 x2_.f4, .int .i64 x2_.f5, .slice A2_6 x2_.f6.length c2_6]), (3, .pointer (some ⟨b2, 0, none⟩)), (4, .pointer (some ⟨b4, 0, none⟩)), (5, .pointer (some ⟨b6, 0, none⟩)), (6, .bool false), (7, .pointer (some ⟨b37, 0, none⟩)), (8, .slice A33 t26.2.1.length c34), (9, .int .i64 t26.2.2), (10, .pointer (some ⟨b49, 0, none⟩)), (11, .int .i64 t41.2), (13, .pointer (some ⟨b112, 0, none⟩)), (14, .slice A108 t101.2.1.length c109), (15, .int .i64 t101.2.2), (16, .pointer (some ⟨b123, 0, none⟩)), (17, .int .i64 t116.2), (26, .bool y14), (61, .bool y67), (64, .bool (!t77)), (114, .slice A33 t26.2.1.length c34), (115, .slice A108 t101.2.1.length c109), (116, .bool true), (119, .agg #[.int .i64 t26.1.f0, .slice A30 t26.1.f1.length c31]), (120, .agg #[.int .i64 t101.1.f0, .slice A105 t101.1.f1.length c106]), (121, .bool true), (124, .int .i64 t41.2), (125, .int .i64 t116.2), (126, .bool true), (128, .bool true)] (.cons rfl <| .cons rfl <| .cons rfl <| .cons rfl <| .cons rfl <| .cons rfl <| .cons rfl <| .cons rfl <| .cons rfl <| .cons rfl <| .cons rfl <| .cons rfl <| .cons rfl <| .cons rfl <| .cons rfl <| .cons rfl <| .cons rfl <| .cons rfl <| .cons rfl <| .cons rfl <| .cons rfl <| .cons rfl <| .cons rfl <| .cons rfl <| .cons rfl <| .cons rfl <| .cons rfl <| .cons rfl <| .cons (Eq.trans (b := .bool (t41.2 == t116.2)) rfl (congrArg Value.bool (beq_iff_eq.2 c136))) <| .cons (Eq.trans (b := .bool (t41.2 == t116.2)) rfl (congrArg Value.bool (beq_iff_eq.2 c136))) .nil)
                        have hb49 := hS.blk_at (i := 3) rfl
                        have hb123 := hS.blk_at (i := 0) rfl
                        refine many 2097151 hst hE (.v 19 129 rfl rfl rfl rfl (lbn 0 [.int .i64 t41.1.f0, .slice A45 t41.1.f1.length c46] rfl rfl ag24 sz24 hb49 rfl) <| .v 20 130 rfl rfl rfl rfl (lbn 0 [.int .i64 t116.1.f0, .slice A120 t116.1.f1.length c121] rfl rfl ag24 sz24 hb123 rfl) .nil) (by kernel_rfl) (fun a hE => ?_)
                        obtain ⟨t137, h138, H⟩ := Option.bind_eq_some_iff.mp H
                        refine one 21 4194303 hE (some 131) rfl rfl rfl rfl (by kernel_rfl) (Eff.call en25 rfl [.agg #[.int .i64 t41.1.f0, .slice A45 t41.1.f1.length c46], .agg #[.int .i64 t116.1.f0, .slice A120 t116.1.f1.length c121]] rfl (windroseref16_Same.calls k70 t41.1 t116.1 _ _ _ _ _ _ _ (Sub.refl _) (hS.rd_at (i := 8) rfl) (g122.mono hS.own.sub) h138)) ?_
                        rintro _ u139 a ⟨_, rfl, hC⟩ hE
                        refine ⟨fun _ => hC.agr, ?_⟩
                        replace hS := hS.lent hC
                        refine many 16777215 hst hE (.k 22 2 [(132, .bool t137), (133, .bool t137)] (by kernel_rfl) .nil) (by kernel_rfl) (fun a hE => ?_)
                        by_cases c140 : t137 = true
                        · rw [if_pos c140] at H
                          obtain ⟨J, hE⟩ := hE.norm [(0, .agg #[.int .i64 x0_.f0, .slice A0_1 x0_.f1.length c0_1]), (1, .agg #[.int .i64 x1_.f0, .int .i64 x1_.f1, .int .i64 x1_.f2]), (2, .agg #[.int .i64 x2_.f0, .int .i64 x2_.f1, .int .i64 x2_.f2, .int .i64 x2_.f3, .int .i64 x2_.f4, .int .i64 x2_.f5, .slice A2_6 x2_.f6.length c2_6]), (3, .pointer (some ⟨b2, 0, none⟩)), (4, .pointer (some ⟨b4, 0, none⟩)), (5, .pointer (some ⟨b6, 0, none⟩)), (6, .bool false), (7, .pointer (some ⟨b37, 0, none⟩)), (8, .slice A33 t26.2.1.length c34), (9, .int .i64 t26.2.2), (10, .pointer (some ⟨b49, 0, none⟩)), (11, .int .i64 t41.2), (13, .pointer (some ⟨b112, 0, none⟩)), (14, .slice A108 t101.2.1.length c109), (15, .int .i64 t101.2.2), (16, .pointer (some ⟨b123, 0, none⟩)), (17, .int .i64 t116.2), (26, .bool y14), (61, .bool y67), (64, .bool (!t77)), (114, .slice A33 t26.2.1.length c34), (115, .slice A108 t101.2.1.length c109), (116, .bool true), (119, .agg #[.int .i64 t26.1.f0, .slice A30 t26.1.f1.length c31]), (120, .agg #[.int .i64 t101.1.f0, .slice A105 t101.1.f1.length c106]), (121, .bool true), (124, .int .i64 t41.2), (125, .int .i64 t116.2), (126, .bool true), (129, .agg #[.int .i64 t41.1.f0, .slice A45 t41.1.f1.length c46]), (130, .agg #[.int .i64 t116.1.f0, .slice A120 t116.1.f1.length c121]), (131, .bool true), (133, .bool true)] (.cons rfl <| .cons rfl <| .cons rfl <| .cons rfl <| .cons rfl <| .cons rfl <| .cons rfl <| .cons rfl <| .cons rfl <| .cons rfl <| .cons rfl <| .cons rfl <| .cons rfl <| .cons rfl <| .cons rfl <| .cons rfl <| .cons rfl <| .cons rfl <| .cons rfl <| .cons rfl <| .cons rfl <| .cons rfl <| .cons rfl <| .cons rfl <| .cons rfl <| .cons rfl <| .cons rfl <| .cons rfl <| .cons rfl <| .cons rfl <| .cons rfl <| .cons (Eq.trans (b := .bool t137) rfl (congrArg Value.bool c140)) <| .cons (Eq.trans (b := .bool t137) rfl (congrArg Value.bool c140)) .nil)
                          have hb37 := hS.blk_at (i := 4) rfl
                          refine many 33554431 hst hE (.v 24 134 rfl rfl rfl rfl (lbn 0 [.int .i64 t26.1.f0, .slice A30 t26.1.f1.length c31] rfl rfl ag24 sz24 hb37 rfl) .nil) (by kernel_rfl) (fun a hE => ?_)
                          obtain ⟨t141, h142, H⟩ := Option.bind_eq_some_iff.mp H
                          refine one 25 67108863 hE (some 135) rfl rfl rfl rfl (by kernel_rfl) (Eff.call en22 rfl [.agg #[.int .i64 t26.1.f0, .slice A30 t26.1.f1.length c31]] rfl (windroseref16_May.calls k70 t26.1 _ _ _ _ _ hS.own.sub g32 h142)) ?_
                          rintro _ u143 a ⟨_, rfl, hC⟩ hE
                          refine ⟨fun _ => hC.agr, ?_⟩
                          replace hS := hS.lent hC
                          refine many 268435455 hst hE (.k 26 2 [(136, .bool t141), (137, .bool t141)] (by kernel_rfl) .nil) (by kernel_rfl) (fun a hE => ?_)
                          by_cases c144 : t141 = true
                          · rw [if_pos c144] at H
                            obtain ⟨J, hE⟩ := hE.norm [(0, .agg #[.int .i64 x0_.f0, .slice A0_1 x0_.f1.length c0_1]), (1, .agg #[.int .i64 x1_.f0, .int .i64 x1_.f1, .int .i64 x1_.f2]), (2, .agg #[.int .i64 x2_.f0, .int .i64 x2_.f1, .int .i64 x2_.f2, .int .i64 x2_.f3, .int .i64 x2_.f4, .int .i64 x2_.f5, .slice A2_6 x2_.f6.length c2_6]), (3, .pointer (some ⟨b2, 0, none⟩)), (4, .pointer (some ⟨b4, 0, none⟩)), (5, .pointer (some ⟨b6, 0, none⟩)), (6, .bool false), (7, .pointer (some ⟨b37, 0, none⟩)), (8, .slice A33 t26.2.1.length c34), (9, .int .i64 t26.2.2), (10, .pointer (some ⟨b49, 0, none⟩)), (11, .int .i64 t41.2), (13, .pointer (some ⟨b112, 0, none⟩)), (14, .slice A108 t101.2.1.length c109), (15, .int .i64 t101.2.2), (16, .pointer (some ⟨b123, 0, none⟩)), (17, .int .i64 t116.2), (26, .bool y14), (61, .bool y67), (64, .bool (!t77)), (114, .slice A33 t26.2.1.length c34), (115, .slice A108 t101.2.1.length c109), (116, .bool true), (119, .agg #[.int .i64 t26.1.f0, .slice A30 t26.1.f1.length c31]), (120, .agg #[.int .i64 t101.1.f0, .slice A105 t101.1.f1.length c106]), (121, .bool true), (124, .int .i64 t41.2), (125, .int .i64 t116.2), (126, .bool true), (129, .agg #[.int .i64 t41.1.f0, .slice A45 t41.1.f1.length c46]), (130, .agg #[.int .i64 t116.1.f0, .slice A120 t116.1.f1.length c121]), (131, .bool true), (134, .agg #[.int .i64 t26.1.f0, .slice A30 t26.1.f1.length c31]), (135, .bool true), (137, .bool true)] (.cons rfl <| .cons rfl <| .cons rfl <| .cons rfl <| .cons rfl <| .cons rfl <| .cons rfl <| .cons rfl <| .cons rfl <| .cons rfl <| .cons rfl <| .cons rfl <| .cons rfl <| .cons rfl <| .cons rfl <| .cons rfl <| .cons rfl <| .cons rfl <| .cons rfl <| .cons rfl <| .cons rfl <| .cons rfl <| .cons rfl <| .cons rfl <| .cons rfl <| .cons rfl <| .cons rfl <| .cons rfl <| .cons rfl <| .cons rfl <| .cons rfl <| .cons rfl <| .cons rfl <| .cons (Eq.trans (b := .bool t141) rfl (congrArg Value.bool c144)) <| .cons (Eq.trans (b := .bool t141) rfl (congrArg Value.bool c144)) .nil)
                            have hb49 := hS.blk_at (i := 3) rfl
                            refine many 536870911 hst hE (.v 28 138 rfl rfl rfl rfl (lbn 0 [.int .i64 t41.1.f0, .slice A45 t41.1.f1.length c46] rfl rfl ag24 sz24 hb49 rfl) .nil) (by kernel_rfl) (fun a hE => ?_)
                            obtain ⟨t145, h146, H⟩ := Option.bind_eq_some_iff.mp H
                            refine one 29 1073741823 hE (some 139) rfl rfl rfl rfl (by kernel_rfl) (Eff.call en22 rfl [.agg #[.int .i64 t41.1.f0, .slice A45 t41.1.f1.length c46]] rfl (windroseref16_May.calls k70 t41.1 _ _ _ _ _ (Sub.refl _) (hS.rd_at (i := 8) rfl) h146)) ?_
                            rintro _ u147 a ⟨_, rfl, hC⟩ hE
                            refine ⟨fun _ => hC.agr, ?_⟩
                            replace hS := hS.lent hC
                            refine many 4294967295 hst hE (.k 30 2 [(140, .bool t145), (141, .bool t145)] (by kernel_rfl) .nil) (by kernel_rfl) (fun a hE => ?_)
                            by_cases c148 : t145 = true
                            · rw [if_pos c148] at H
                              obtain ⟨J, hE⟩ := hE.norm [(0, .agg #[.int .i64 x0_.f0, .slice A0_1 x0_.f1.length c0_1]), (1, .agg #[.int .i64 x1_.f0, .int .i64 x1_.f1, .int .i64 x1_.f2]), (2, .agg #[.int .i64 x2_.f0, .int .i64 x2_.f1, .int .i64 x2_.f2, .int .i64 x2_.f3, .int .i64 x2_.f4, .int .i64 x2_.f5, .slice A2_6 x2_.f6.length c2_6]), (3, .pointer (some ⟨b2, 0, none⟩)), (4, .pointer (some ⟨b4, 0, none⟩)), (5, .pointer (some ⟨b6, 0, none⟩)), (6, .bool false), (7, .pointer (some ⟨b37, 0, none⟩)), (8, .slice A33 t26.2.1.length c34), (9, .int .i64 t26.2.2), (10, .pointer (some ⟨b49, 0, none⟩)), (11, .int .i64 t41.2), (13, .pointer (some ⟨b112, 0, none⟩)), (14, .slice A108 t101.2.1.length c109), (15, .int .i64 t101.2.2), (16, .pointer (some ⟨b123, 0, none⟩)), (17, .int .i64 t116.2), (26, .bool y14), (61, .bool y67), (64, .bool (!t77)), (114, .slice A33 t26.2.1.length c34), (115, .slice A108 t101.2.1.length c109), (116, .bool true), (119, .agg #[.int .i64 t26.1.f0, .slice A30 t26.1.f1.length c31]), (120, .agg #[.int .i64 t101.1.f0, .slice A105 t101.1.f1.length c106]), (121, .bool true), (124, .int .i64 t41.2), (125, .int .i64 t116.2), (126, .bool true), (129, .agg #[.int .i64 t41.1.f0, .slice A45 t41.1.f1.length c46]), (130, .agg #[.int .i64 t116.1.f0, .slice A120 t116.1.f1.length c121]), (131, .bool true), (134, .agg #[.int .i64 t26.1.f0, .slice A30 t26.1.f1.length c31]), (135, .bool true), (138, .agg #[.int .i64 t41.1.f0, .slice A45 t41.1.f1.length c46]), (139, .bool true), (141, .bool true)] (.cons rfl <| .cons rfl <| .cons rfl <| .cons rfl <| .cons rfl <| .cons rfl <| .cons rfl <| .cons rfl <| .cons rfl <| .cons rfl <| .cons rfl <| .cons rfl <| .cons rfl <| .cons rfl <| .cons rfl <| .cons rfl <| .cons rfl <| .cons rfl <| .cons rfl <| .cons rfl <| .cons rfl <| .cons rfl <| .cons rfl <| .cons rfl <| .cons rfl <| .cons rfl <| .cons rfl <| .cons rfl <| .cons rfl <| .cons rfl <| .cons rfl <| .cons rfl <| .cons rfl <| .cons rfl <| .cons rfl <| .cons (Eq.trans (b := .bool t145) rfl (congrArg Value.bool c148)) <| .cons (Eq.trans (b := .bool t145) rfl (congrArg Value.bool c148)) .nil)
                              have hb37 := hS.blk_at (i := 4) rfl
                              have hb49 := hS.blk_at (i := 3) rfl
                              refine many 120259084287 hst hE (.v 32 142 rfl rfl rfl rfl (lbn 0 [.int .i64 t26.1.f0, .slice A30 t26.1.f1.length c31] rfl rfl ag24 sz24 hb37 rfl) <| .v 33 143 rfl rfl rfl rfl (lbn 0 [.int .i64 t41.1.f0, .slice A45 t41.1.f1.length c46] rfl rfl ag24 sz24 hb49 rfl) <| .v 35 145 rfl rfl rfl rfl (lbn 0 [.int .i64 t26.1.f0, .slice A30 t26.1.f1.length c31] rfl rfl ag24 sz24 hb37 rfl) <| .v 36 146 rfl rfl rfl rfl (lbn 0 [.int .i64 t41.1.f0, .slice A45 t41.1.f1.length c46] rfl rfl ag24 sz24 hb49 rfl) .nil) (by kernel_rfl) (fun a hE => ?_)
                              obtain ⟨t149, h150, H⟩ := Option.bind_eq_some_iff.mp H
                              refine one 34 137438953471 hE (some 144) rfl rfl rfl rfl (by kernel_rfl) (Eff.call en29 rfl [.agg #[.int .i64 t26.1.f0, .slice A30 t26.1.f1.length c31], .agg #[.int .i64 t41.1.f0, .slice A45 t41.1.f1.length c46]] rfl (acceptor_Same.calls k70 t26.1 t41.1 _ _ _ _ _ _ _ (Sub.refl _) (g32.mono hS.own.sub) (hS.rd_at (i := 8) rfl) h150)) ?_
                              rintro _ u151 a ⟨_, rfl, hC⟩ hE
                              refine ⟨fun _ => hC.agr, ?_⟩
                              replace hS := hS.lent hC
                              obtain ⟨t152, h153, H⟩ := Option.bind_eq_some_iff.mp H
                              refine one 37 274877906943 hE (some 147) rfl rfl rfl rfl (by kernel_rfl) (Eff.call en25 rfl [.agg #[.int .i64 t26.1.f0, .slice A30 t26.1.f1.length c31], .agg #[.int .i64 t41.1.f0, .slice A45 t41.1.f1.length c46]] rfl (windroseref16_Same.calls k70 t26.1 t41.1 _ _ _ _ _ _ _ (Sub.refl _) (g32.mono hS.own.sub) (hS.rd_at (i := 8) rfl) h153)) ?_
                              rintro _ u154 a ⟨_, rfl, hC⟩ hE
                              refine ⟨fun _ => hC.agr, ?_⟩
                              replace hS := hS.lent hC
                              refine many 2199023255551 hst hE (.k 38 3 [(148, .bool (t149 == t152)), (149, .bool (t149 == t152)), (150, .bool (t149 == t152))] (by kernel_rfl) .nil) (by kernel_rfl) (fun a hE => ?_)
                              by_cases c155 : t149 = t152
                              · rw [if_pos c155] at H
                                obtain ⟨J, hE⟩ := hE.norm [(0, .agg #[.int .i64 x0_.f0, .slice A0_1 x0_.f1.length c0_1]), (1, .agg #[.int .i64 x1_.f0, .int .i64 x1_.f1, .int .i64 x1_.f2]), (2, .agg #[.int .i64 x2_.f0, .int .i64 x2_.f1, .int .i64 x2_.f2, .int .i64 x2_.f3, .int .i64 x2_.f4, .int .i64 x2_.f5, .slice A2_6 x2_.f6.length c2_6]), (3, .pointer (some ⟨b2, 0, none⟩)), (4, .pointer (some ⟨b4, 0, none⟩)), (5, .pointer (some ⟨b6, 0, none⟩)), (6, .bool false), (7, .pointer (some ⟨b37, 0, none⟩)), (8, .slice A33 t26.2.1.length c34), (9, .int .i64 t26.2.2), (10, .pointer (some ⟨b49, 0, none⟩)), (11, .int .i64 t41.2), (13, .pointer (some ⟨b112, 0, none⟩)), (14, .slice A108 t101.2.1.length c109), (15, .int .i64 t101.2.2), (16, .pointer (some ⟨b123, 0, none⟩)), (17, .int .i64 t116.2), (26, .bool y14), (61, .bool y67), (64, .bool (!t77)), (114, .slice A33 t26.2.1.length c34), (115, .slice A108 t101.2.1.length c109), (116, .bool true), (119, .agg #[.int .i64 t26.1.f0, .slice A30 t26.1.f1.length c31]), (120, .agg #[.int .i64 t101.1.f0, .slice A105 t101.1.f1.length c106]), (121, .bool true), (124, .int .i64 t41.2), (125, .int .i64 t116.2), (126, .bool true), (129, .agg #[.int .i64 t41.1.f0, .slice A45 t41.1.f1.length c46]), (130, .agg #[.int .i64 t116.1.f0, .slice A120 t116.1.f1.length c121]), (131, .bool true), (134, .agg #[.int .i64 t26.1.f0, .slice A30 t26.1.f1.length c31]), (135, .bool true), (138, .agg #[.int .i64 t41.1.f0, .slice A45 t41.1.f1.length c46]), (139, .bool true), (142, .agg #[.int .i64 t26.1.f0, .slice A30 t26.1.f1.length c31]), (143, .agg #[.int .i64 t41.1.f0, .slice A45 t41.1.f1.length c46]), (144, .bool t149), (145, .agg #[.int .i64 t26.1.f0, .slice A30 t26.1.f1.length c31]), (146, .agg #[.int .i64 t41.1.f0, .slice A45 t41.1.f1.length c46]), (147, .bool t152), (148, .bool true), (150, .bool true)] (.cons rfl <| .cons rfl <| .cons rfl <| .cons rfl <| .cons rfl <| .cons rfl <| .cons rfl <| .cons rfl <| .cons rfl <| .cons rfl <| .cons rfl <| .cons rfl <| .cons rfl <| .cons rfl <| .cons rfl <| .cons rfl <| .cons rfl <| .cons rfl <| .cons rfl <| .cons rfl <| .cons rfl <| .cons rfl <| .cons rfl <| .cons rfl <| .cons rfl <| .cons rfl <| .cons rfl <| .cons rfl <| .cons rfl <| .cons rfl <| .cons rfl <| .cons rfl <| .cons rfl <| .cons rfl <| .cons rfl <| .cons rfl <| .cons rfl <| .cons rfl <| .cons rfl <| .cons rfl <| .cons rfl <| .cons rfl <| .cons (Eq.trans (b := .bool (t149 == t152)) rfl (congrArg Value.bool (beq_iff_eq.2 c155))) <| .cons (Eq.trans (b := .bool (t149 == t152)) rfl (congrArg Value.bool (beq_iff_eq.2 c155))) .nil)
                                obtain ⟨t156, h157, H⟩ := Option.bind_eq_some_iff.mp H
                                refine one 41 4398046511103 hE (some 151) rfl rfl rfl rfl (by kernel_rfl) (Eff.call en18 rfl [] rfl (windroselaw16_awake.calls k70 _ _ _ hS.own.sub h157)) ?_
                                rintro _ u158 a ⟨_, rfl, hC⟩ hE
                                refine ⟨fun _ => hC.agr, ?_⟩
                                replace hS := hS.lent hC
                                refine many 17592186044415 hst hE (.k 42 2 [(152, .bool t156), (6, .bool t156)] (by kernel_rfl) .nil) (by kernel_rfl) (fun a hE => ?_)
                                refine all_done (by kernel_rfl) ?_
                                refine hK126 _ _ ?_
                                refine wp_ret ?_
                                replace hS := hS.tail
                                replace hS := hS.tail
                                replace hS := hS.tail
                                replace hS := hS.tail
                                replace hS := hS.tail
                                replace hS := hS.tail
                                replace hS := hS.tail
                                replace hS := hS.tail
                                replace hS := hS.tail
                                replace hS := hS.tail
                                obtain rfl := Option.some.inj H
                                exact ret1 hE rfl (.tmp rfl .nil) ⟨_, rfl, _, rfl, hS⟩
                              · rw [if_neg c155] at H
                                obtain ⟨J, hE⟩ := hE.norm [(0, .agg #[.int .i64 x0_.f0, .slice A0_1 x0_.f1.length c0_1]), (1, .agg #[.int .i64 x1_.f0, .int .i64 x1_.f1, .int .i64 x1_.f2]), (2, .agg #[.int .i64 x2_.f0, .int .i64 x2_.f1, .int .i64 x2_.f2, .int .i64 x2_.f3, .int .i64 x2_.f4, .int .i64 x2_.f5, .slice A2_6 x2_.f6.length c2_6]), (3, .pointer (some ⟨b2, 0, none⟩)), (4, .pointer (some ⟨b4, 0, none⟩)), (5, .pointer (some ⟨b6, 0, none⟩)), (6, .bool false), (7, .pointer (some ⟨b37, 0, none⟩)), (8, .slice A33 t26.2.1.length c34), (9, .int .i64 t26.2.2), (10, .pointer (some ⟨b49, 0, none⟩)), (11, .int .i64 t41.2), (13, .pointer (some ⟨b112, 0, none⟩)), (14, .slice A108 t101.2.1.length c109), (15, .int .i64 t101.2.2), (16, .pointer (some ⟨b123, 0, none⟩)), (17, .int .i64 t116.2), (26, .bool y14), (61, .bool y67), (64, .bool (!t77)), (114, .slice A33 t26.2.1.length c34), (115, .slice A108 t101.2.1.length c109), (116, .bool true), (119, .agg #[.int .i64 t26.1.f0, .slice A30 t26.1.f1.length c31]), (120, .agg #[.int .i64 t101.1.f0, .slice A105 t101.1.f1.length c106]), (121, .bool true), (124, .int .i64 t41.2), (125, .int .i64 t116.2), (126, .bool true), (129, .agg #[.int .i64 t41.1.f0, .slice A45 t41.1.f1.length c46]), (130, .agg #[.int .i64 t116.1.f0, .slice A120 t116.1.f1.length c121]), (131, .bool true), (134, .agg #[.int .i64 t26.1.f0, .slice A30 t26.1.f1.length c31]), (135, .bool true), (138, .agg #[.int .i64 t41.1.f0, .slice A45 t41.1.f1.length c46]), (139, .bool true), (142, .agg #[.int .i64 t26.1.f0, .slice A30 t26.1.f1.length c31]), (143, .agg #[.int .i64 t41.1.f0, .slice A45 t41.1.f1.length c46]), (144, .bool t149), (145, .agg #[.int .i64 t26.1.f0, .slice A30 t26.1.f1.length c31]), (146, .agg #[.int .i64 t41.1.f0, .slice A45 t41.1.f1.length c46]), (147, .bool t152), (148, .bool false), (150, .bool false)] (.cons rfl <| .cons rfl <| .cons rfl <| .cons rfl <| .cons rfl <| .cons rfl <| .cons rfl <| .cons rfl <| .cons rfl <| .cons rfl <| .cons rfl <| .cons rfl <| .cons rfl <| .cons rfl <| .cons rfl <| .cons rfl <| .cons rfl <| .cons rfl <| .cons rfl <| .cons rfl <| .cons rfl <| .cons rfl <| .cons rfl <| .cons rfl <| .cons rfl <| .cons rfl <| .cons rfl <| .cons rfl <| .cons rfl <| .cons rfl <| .cons rfl <| .cons rfl <| .cons rfl <| .cons rfl <| .cons rfl <| .cons rfl <| .cons rfl <| .cons rfl <| .cons rfl <| .cons rfl <| .cons rfl <| .cons rfl <| .cons (Eq.trans (b := .bool (t149 == t152)) rfl (congrArg Value.bool (beq_eq_false_iff_ne.2 c155))) <| .cons (Eq.trans (b := .bool (t149 == t152)) rfl (congrArg Value.bool (beq_eq_false_iff_ne.2 c155))) .nil)
                                refine many 17592186044415 hst hE (.k 41 3 [(151, undef), (152, .bool false), (6, .bool false)] (by kernel_rfl) .nil) (by kernel_rfl) (fun a hE => ?_)
                                refine all_done (by kernel_rfl) ?_
                                refine hK126 _ _ ?_
                                refine wp_ret ?_
                                replace hS := hS.tail
                                replace hS := hS.tail
                                replace hS := hS.tail
                                replace hS := hS.tail
                                replace hS := hS.tail
                                replace hS := hS.tail
                                replace hS := hS.tail
                                replace hS := hS.tail
                                replace hS := hS.tail
                                replace hS := hS.tail
                                obtain rfl := Option.some.inj H
                                exact ret1 hE rfl (.tmp rfl .nil) ⟨_, rfl, _, rfl, hS⟩
                            · rw [if_neg c148] at H
                              obtain ⟨J, hE⟩ := hE.norm [(0, .agg #[.int .i64 x0_.f0, .slice A0_1 x0_.f1.length c0_1]), (1, .agg #[.int .i64 x1_.f0, .int .i64 x1_.f1, .int .i64 x1_.f2]), (2, .agg #[.int .i64 x2_.f0, .int .i64 x2_.f1, .int .i64 x2_.f2, .int .i64 x2_.f3, .int .i64 x2_.f4, .int .i64 x2_.f5, .slice A2_6 x2_.f6.length c2_6]), (3, .pointer (some ⟨b2, 0, none⟩)), (4, .pointer (some ⟨b4, 0, none⟩)), (5, .pointer (some ⟨b6, 0, none⟩)), (6, .bool false), (7, .pointer (some ⟨b37, 0, none⟩)), (8, .slice A33 t26.2.1.length c34), (9, .int .i64 t26.2.2), (10, .pointer (some ⟨b49, 0, none⟩)), (11, .int .i64 t41.2), (13, .pointer (some ⟨b112, 0, none⟩)), (14, .slice A108 t101.2.1.length c109), (15, .int .i64 t101.2.2), (16, .pointer (some ⟨b123, 0, none⟩)), (17, .int .i64 t116.2), (26, .bool y14), (61, .bool y67), (64, .bool (!t77)), (114, .slice A33 t26.2.1.length c34), (115, .slice A108 t101.2.1.length c109), (116, .bool true), (119, .agg #[.int .i64 t26.1.f0, .slice A30 t26.1.f1.length c31]), (120, .agg #[.int .i64 t101.1.f0, .slice A105 t101.1.f1.length c106]), (121, .bool true), (124, .int .i64 t41.2), (125, .int .i64 t116.2), (126, .bool true), (129, .agg #[.int .i64 t41.1.f0, .slice A45 t41.1.f1.length c46]), (130, .agg #[.int .i64 t116.1.f0, .slice A120 t116.1.f1.length c121]), (131, .bool true), (134, .agg #[.int .i64 t26.1.f0, .slice A30 t26.1.f1.length c31]), (135, .bool true), (138, .agg #[.int .i64 t41.1.f0, .slice A45 t41.1.f1.length c46]), (139, .bool false), (141, .bool false)] (.cons rfl <| .cons rfl <| .cons rfl <| .cons rfl <| .cons rfl <| .cons rfl <| .cons rfl <| .cons rfl <| .cons rfl <| .cons rfl <| .cons rfl <| .cons rfl <| .cons rfl <| .cons rfl <| .cons rfl <| .cons rfl <| .cons rfl <| .cons rfl <| .cons rfl <| .cons rfl <| .cons rfl <| .cons rfl <| .cons rfl <| .cons rfl <| .cons rfl <| .cons rfl <| .cons rfl <| .cons rfl <| .cons rfl <| .cons rfl <| .cons rfl <| .cons rfl <| .cons rfl <| .cons rfl <| .cons rfl <| .cons (Eq.trans (b := .bool t145) rfl (congrArg Value.bool (eq_false_of_ne_true c148))) <| .cons (Eq.trans (b := .bool t145) rfl (congrArg Value.bool (eq_false_of_ne_true c148))) .nil)
                              refine many 17592186044415 hst hE (.k 32 12 [(142, undef), (143, undef), (144, undef), (145, undef), (146, undef), (147, undef), (148, undef), (149, .bool false), (150, .bool false), (151, undef), (152, .bool false), (6, .bool false)] (by kernel_rfl) .nil) (by kernel_rfl) (fun a hE => ?_)
                              refine all_done (by kernel_rfl) ?_
                              refine hK126 _ _ ?_
                              refine wp_ret ?_
                              replace hS := hS.tail
                              replace hS := hS.tail
                              replace hS := hS.tail
                              replace hS := hS.tail
                              replace hS := hS.tail
                              replace hS := hS.tail
                              replace hS := hS.tail
                              replace hS := hS.tail
                              replace hS := hS.tail
                              replace hS := hS.tail
                              obtain rfl := Option.some.inj H
                              exact ret1 hE rfl (.tmp rfl .nil) ⟨_, rfl, _, rfl, hS⟩
                          · rw [if_neg c144] at H
                            obtain ⟨J, hE⟩ := hE.norm [(0, .agg #[.int .i64 x0_.f0, .slice A0_1 x0_.f1.length c0_1]), (1, .agg #[.int .i64 x1_.f0, .int .i64 x1_.f1, .int .i64 x1_.f2]), (2, .agg #[.int .i64 x2_.f0, .int .i64 x2_.f1, .int .i64 x2_.f2, .int .i64 x2_.f3, .int .i64 x2_.f4, .int .i64 x2_.f5, .slice A2_6 x2_.f6.length c2_6]), (3, .pointer (some ⟨b2, 0, none⟩)), (4, .pointer (some ⟨b4, 0, none⟩)), (5, .pointer (some ⟨b6, 0, none⟩)), (6, .bool false), (7, .pointer (some ⟨b37, 0, none⟩)), (8, .slice A33 t26.2.1.length c34), (9, .int .i64 t26.2.2), (10, .pointer (some ⟨b49, 0, none⟩)), (11, .int .i64 t41.2), (13, .pointer (some ⟨b112, 0, none⟩)), (14, .slice A108 t101.2.1.length c109), (15, .int .i64 t101.2.2), (16, .pointer (some ⟨b123, 0, none⟩)), (17, .int .i64 t116.2), (26, .bool y14), (61, .bool y67), (64, .bool (!t77)), (114, .slice A33 t26.2.1.length c34), (115, .slice A108 t101.2.1.length c109), (116, .bool true), (119, .agg #[.int .i64 t26.1.f0, .slice A30 t26.1.f1.length c31]), (120, .agg #[.int .i64 t101.1.f0, .slice A105 t101.1.f1.length c106]), (121, .bool true), (124, .int .i64 t41.2), (125, .int .i64 t116.2), (126, .bool true), (129, .agg #[.int .i64 t41.1.f0, .slice A45 t41.1.f1.length c46]), (130, .agg #[.int .i64 t116.1.f0, .slice A120 t116.1.f1.length c121]), (131, .bool true), (134, .agg #[.int .i64 t26.1.f0, .slice A30 t26.1.f1.length c31]), (135, .bool false), (137, .bool false)] (.cons rfl <| .cons rfl <| .cons rfl <| .cons rfl <| .cons rfl <| .cons rfl <| .cons rfl <| .cons rfl <| .cons rfl <| .cons rfl <| .cons rfl <| .cons rfl <| .cons rfl <| .cons rfl <| .cons rfl <| .cons rfl <| .cons rfl <| .cons rfl <| .cons rfl <| .cons rfl <| .cons rfl <| .cons rfl <| .cons rfl <| .cons rfl <| .cons rfl <| .cons rfl <| .cons rfl <| .cons rfl <| .cons rfl <| .cons rfl <| .cons rfl <| .cons rfl <| .cons rfl <| .cons (Eq.trans (b := .bool t141) rfl (congrArg Value.bool (eq_false_of_ne_true c144))) <| .cons (Eq.trans (b := .bool t141) rfl (congrArg Value.bool (eq_false_of_ne_true c144))) .nil)
                            refine many 17592186044415 hst hE (.k 28 16 [(138, undef), (139, undef), (140, .bool false), (141, .bool false), (142, undef), (143, undef), (144, undef), (145, undef), (146, undef), (147, undef), (148, undef), (149, .bool false), (150, .bool false), (151, undef), (152, .bool false), (6, .bool false)] (by kernel_rfl) .nil) (by kernel_rfl) (fun a hE => ?_)
                            refine all_done (by kernel_rfl) ?_
                            refine hK126 _ _ ?_
                            refine wp_ret ?_
                            replace hS := hS.tail
                            replace hS := hS.tail
                            replace hS := hS.tail
                            replace hS := hS.tail
                            replace hS := hS.tail
                            replace hS := hS.tail
                            replace hS := hS.tail
                            replace hS := hS.tail
                            replace hS := hS.tail
                            replace hS := hS.tail
                            obtain rfl := Option.some.inj H
                            exact ret1 hE rfl (.tmp rfl .nil) ⟨_, rfl, _, rfl, hS⟩
                        · rw [if_neg c140] at H
                          obtain ⟨J, hE⟩ := hE.norm [(0, .agg #[.int .i64 x0_.f0, .slice A0_1 x0_.f1.length c0_1]), (1, .agg #[.int .i64 x1_.f0, .int .i64 x1_.f1, .int .i64 x1_.f2]), (2, .agg #[.int .i64 x2_.f0, .int .i64 x2_.f1, .int .i64 x2_.f2, .int .i64 x2_.f3, .int .i64 x2_.f4, .int .i64 x2_.f5, .slice A2_6 x2_.f6.length c2_6]), (3, .pointer (some ⟨b2, 0, none⟩)), (4, .pointer (some ⟨b4, 0, none⟩)), (5, .pointer (some ⟨b6, 0, none⟩)), (6, .bool false), (7, .pointer (some ⟨b37, 0, none⟩)), (8, .slice A33 t26.2.1.length c34), (9, .int .i64 t26.2.2), (10, .pointer (some ⟨b49, 0, none⟩)), (11, .int .i64 t41.2), (13, .pointer (some ⟨b112, 0, none⟩)), (14, .slice A108 t101.2.1.length c109), (15, .int .i64 t101.2.2), (16, .pointer (some ⟨b123, 0, none⟩)), (17, .int .i64 t116.2), (26, .bool y14), (61, .bool y67), (64, .bool (!t77)), (114, .slice A33 t26.2.1.length c34), (115, .slice A108 t101.2.1.length c109), (116, .bool true), (119, .agg #[.int .i64 t26.1.f0, .slice A30 t26.1.f1.length c31]), (120, .agg #[.int .i64 t101.1.f0, .slice A105 t101.1.f1.length c106]), (121, .bool true), (124, .int .i64 t41.2), (125, .int .i64 t116.2), (126, .bool true), (129, .agg #[.int .i64 t41.1.f0, .slice A45 t41.1.f1.length c46]), (130, .agg #[.int .i64 t116.1.f0, .slice A120 t116.1.f1.length c121]), (131, .bool false), (133, .bool false)] (.cons rfl <| .cons rfl <| .cons rfl <| .cons rfl <| .cons rfl <| .cons rfl <| .cons rfl <| .cons rfl <| .cons rfl <| .cons rfl <| .cons rfl <| .cons rfl <| .cons rfl <| .cons rfl <| .cons rfl <| .cons rfl <| .cons rfl <| .cons rfl <| .cons rfl <| .cons rfl <| .cons rfl <| .cons rfl <| .cons rfl <| .cons rfl <| .cons rfl <| .cons rfl <| .cons rfl <| .cons rfl <| .cons rfl <| .cons rfl <| .cons rfl <| .cons (Eq.trans (b := .bool t137) rfl (congrArg Value.bool (eq_false_of_ne_true c140))) <| .cons (Eq.trans (b := .bool t137) rfl (congrArg Value.bool (eq_false_of_ne_true c140))) .nil)
                          refine many 17592186044415 hst hE (.k 24 20 [(134, undef), (135, undef), (136, .bool false), (137, .bool false), (138, undef), (139, undef), (140, .bool false), (141, .bool false), (142, undef), (143, undef), (144, undef), (145, undef), (146, undef), (147, undef), (148, undef), (149, .bool false), (150, .bool false), (151, undef), (152, .bool false), (6, .bool false)] (by kernel_rfl) .nil) (by kernel_rfl) (fun a hE => ?_)
                          refine all_done (by kernel_rfl) ?_
                          refine hK126 _ _ ?_
                          refine wp_ret ?_
                          replace hS := hS.tail
                          replace hS := hS.tail
                          replace hS := hS.tail
                          replace hS := hS.tail
                          replace hS := hS.tail
                          replace hS := hS.tail
                          replace hS := hS.tail
                          replace hS := hS.tail
                          replace hS := hS.tail
                          replace hS := hS.tail
                          obtain rfl := Option.some.inj H
                          exact ret1 hE rfl (.tmp rfl .nil) ⟨_, rfl, _, rfl, hS⟩
                      · rw [if_neg c136] at H
                        obtain ⟨J, hE⟩ := hE.norm [(0, .agg #[.int .i64 x0_.f0, .slice A0_1 x0_.f1.length c0_1]), (1, .agg #[.int .i64 x1_.f0, .int .i64 x1_.f1, .int .i64 x1_.f2]), (2, .agg #[.int .i64 x2_.f0, .int .i64 x2_.f1, .int .i64 x2_.f2, .int .i64 x2_.f3, .int .i64 x2_.f4, .int .i64 x2_.f5, .slice A2_6 x2_.f6.length c2_6]), (3, .pointer (some ⟨b2, 0, none⟩)), (4, .pointer (some ⟨b4, 0, none⟩)), (5, .pointer (some ⟨b6, 0, none⟩)), (6, .bool false), (7, .pointer (some ⟨b37, 0, none⟩)), (8, .slice A33 t26.2.1.length c34), (9, .int .i64 t26.2.2), (10, .pointer (some ⟨b49, 0, none⟩)), (11, .int .i64 t41.2), (13, .pointer (some ⟨b112, 0, none⟩)), (14, .slice A108 t101.2.1.length c109), (15, .int .i64 t101.2.2), (16, .pointer (some ⟨b123, 0, none⟩)), (17, .int .i64 t116.2), (26, .bool y14), (61, .bool y67), (64, .bool (!t77)), (114, .slice A33 t26.2.1.length c34), (115, .slice A108 t101.2.1.length c109), (116, .bool true), (119, .agg #[.int .i64 t26.1.f0, .slice A30 t26.1.f1.length c31]), (120, .agg #[.int .i64 t101.1.f0, .slice A105 t101.1.f1.length c106]), (121, .bool true), (124, .int .i64 t41.2), (125, .int .i64 t116.2), (126, .bool false), (128, .bool false)] (.cons rfl <| .cons rfl <| .cons rfl <| .cons rfl <| .cons rfl <| .cons rfl <| .cons rfl <| .cons rfl <| .cons rfl <| .cons rfl <| .cons rfl <| .cons rfl <| .cons rfl <| .cons rfl <| .cons rfl <| .cons rfl <| .cons rfl <| .cons rfl <| .cons rfl <| .cons rfl <| .cons rfl <| .cons rfl <| .cons rfl <| .cons rfl <| .cons rfl <| .cons rfl <| .cons rfl <| .cons rfl <| .cons (Eq.trans (b := .bool (t41.2 == t116.2)) rfl (congrArg Value.bool (beq_eq_false_iff_ne.2 c136))) <| .cons (Eq.trans (b := .bool (t41.2 == t116.2)) rfl (congrArg Value.bool (beq_eq_false_iff_ne.2 c136))) .nil)
                        refine many 17592186044415 hst hE (.k 19 25 [(129, undef), (130, undef), (131, undef), (132, .bool false), (133, .bool false), (134, undef), (135, undef), (136, .bool false), (137, .bool false), (138, undef), (139, undef), (140, .bool false), (141, .bool false), (142, undef), (143, undef), (144, undef), (145, undef), (146, undef), (147, undef), (148, undef), (149, .bool false), (150, .bool false), (151, undef), (152, .bool false), (6, .bool false)] (by kernel_rfl) .nil) (by kernel_rfl) (fun a hE => ?_)
                        refine all_done (by kernel_rfl) ?_
                        refine hK126 _ _ ?_
                        refine wp_ret ?_
                        replace hS := hS.tail
                        replace hS := hS.tail
                        replace hS := hS.tail
                        replace hS := hS.tail
                        replace hS := hS.tail
                        replace hS := hS.tail
                        replace hS := hS.tail
                        replace hS := hS.tail
                        replace hS := hS.tail
                        replace hS := hS.tail
                        obtain rfl := Option.some.inj H
                        exact ret1 hE rfl (.tmp rfl .nil) ⟨_, rfl, _, rfl, hS⟩
                    · rw [if_neg c135] at H
                      obtain ⟨J, hE⟩ := hE.norm [(0, .agg #[.int .i64 x0_.f0, .slice A0_1 x0_.f1.length c0_1]), (1, .agg #[.int .i64 x1_.f0, .int .i64 x1_.f1, .int .i64 x1_.f2]), (2, .agg #[.int .i64 x2_.f0, .int .i64 x2_.f1, .int .i64 x2_.f2, .int .i64 x2_.f3, .int .i64 x2_.f4, .int .i64 x2_.f5, .slice A2_6 x2_.f6.length c2_6]), (3, .pointer (some ⟨b2, 0, none⟩)), (4, .pointer (some ⟨b4, 0, none⟩)), (5, .pointer (some ⟨b6, 0, none⟩)), (6, .bool false), (7, .pointer (some ⟨b37, 0, none⟩)), (8, .slice A33 t26.2.1.length c34), (9, .int .i64 t26.2.2), (10, .pointer (some ⟨b49, 0, none⟩)), (11, .int .i64 t41.2), (13, .pointer (some ⟨b112, 0, none⟩)), (14, .slice A108 t101.2.1.length c109), (15, .int .i64 t101.2.2), (16, .pointer (some ⟨b123, 0, none⟩)), (17, .int .i64 t116.2), (26, .bool y14), (61, .bool y67), (64, .bool (!t77)), (114, .slice A33 t26.2.1.length c34), (115, .slice A108 t101.2.1.length c109), (116, .bool true), (119, .agg #[.int .i64 t26.1.f0, .slice A30 t26.1.f1.length c31]), (120, .agg #[.int .i64 t101.1.f0, .slice A105 t101.1.f1.length c106]), (121, .bool false), (123, .bool false)] (.cons rfl <| .cons rfl <| .cons rfl <| .cons rfl <| .cons rfl <| .cons rfl <| .cons rfl <| .cons rfl <| .cons rfl <| .cons rfl <| .cons rfl <| .cons rfl <| .cons rfl <| .cons rfl <| .cons rfl <| .cons rfl <| .cons rfl <| .cons rfl <| .cons rfl <| .cons rfl <| .cons rfl <| .cons rfl <| .cons rfl <| .cons rfl <| .cons rfl <| .cons (Eq.trans (b := .bool t132) rfl (congrArg Value.bool (eq_false_of_ne_true c135))) <| .cons (Eq.trans (b := .bool t132) rfl (congrArg Value.bool (eq_false_of_ne_true c135))) .nil)
                      refine many 17592186044415 hst hE (.k 14 30 [(124, undef), (125, undef), (126, undef), (127, .bool false), (128, .bool false), (129, undef), (130, undef), (131, undef), (132, .bool false), (133, .bool false), (134, undef), (135, undef), (136, .bool false), (137, .bool false), (138, undef), (139, undef), (140, .bool false), (141, .bool false), (142, undef), (143, undef), (144, undef), (145, undef), (146, undef), (147, undef), (148, undef), (149, .bool false), (150, .bool false), (151, undef), (152, .bool false), (6, .bool false)] (by kernel_rfl) .nil) (by kernel_rfl) (fun a hE => ?_)
                      refine all_done (by kernel_rfl) ?_
                      refine hK126 _ _ ?_
                      refine wp_ret ?_
                      replace hS := hS.tail
                      replace hS := hS.tail
                      replace hS := hS.tail
                      replace hS := hS.tail
                      replace hS := hS.tail
                      replace hS := hS.tail
                      replace hS := hS.tail
                      replace hS := hS.tail
                      replace hS := hS.tail
                      replace hS := hS.tail
                      obtain rfl := Option.some.inj H
                      exact ret1 hE rfl (.tmp rfl .nil) ⟨_, rfl, _, rfl, hS⟩
                  · rw [if_neg c131] at H
                    obtain ⟨J, hE⟩ := hE.norm [(0, .agg #[.int .i64 x0_.f0, .slice A0_1 x0_.f1.length c0_1]), (1, .agg #[.int .i64 x1_.f0, .int .i64 x1_.f1, .int .i64 x1_.f2]), (2, .agg #[.int .i64 x2_.f0, .int .i64 x2_.f1, .int .i64 x2_.f2, .int .i64 x2_.f3, .int .i64 x2_.f4, .int .i64 x2_.f5, .slice A2_6 x2_.f6.length c2_6]), (3, .pointer (some ⟨b2, 0, none⟩)), (4, .pointer (some ⟨b4, 0, none⟩)), (5, .pointer (some ⟨b6, 0, none⟩)), (6, .bool false), (7, .pointer (some ⟨b37, 0, none⟩)), (8, .slice A33 t26.2.1.length c34), (9, .int .i64 t26.2.2), (10, .pointer (some ⟨b49, 0, none⟩)), (11, .int .i64 t41.2), (13, .pointer (some ⟨b112, 0, none⟩)), (14, .slice A108 t101.2.1.length c109), (15, .int .i64 t101.2.2), (16, .pointer (some ⟨b123, 0, none⟩)), (17, .int .i64 t116.2), (26, .bool y14), (61, .bool y67), (64, .bool (!t77)), (114, .slice A33 t26.2.1.length c34), (115, .slice A108 t101.2.1.length c109), (116, .bool false), (118, .bool false)] (.cons rfl <| .cons rfl <| .cons rfl <| .cons rfl <| .cons rfl <| .cons rfl <| .cons rfl <| .cons rfl <| .cons rfl <| .cons rfl <| .cons rfl <| .cons rfl <| .cons rfl <| .cons rfl <| .cons rfl <| .cons rfl <| .cons rfl <| .cons rfl <| .cons rfl <| .cons rfl <| .cons rfl <| .cons rfl <| .cons (Eq.trans (b := .bool t128) rfl (congrArg Value.bool (eq_false_of_ne_true c131))) <| .cons (Eq.trans (b := .bool t128) rfl (congrArg Value.bool (eq_false_of_ne_true c131))) .nil)
                    refine many 17592186044415 hst hE (.k 9 35 [(119, undef), (120, undef), (121, undef), (122, .bool false), (123, .bool false), (124, undef), (125, undef), (126, undef), (127, .bool false), (128, .bool false), (129, undef), (130, undef), (131, undef), (132, .bool false), (133, .bool false), (134, undef), (135, undef), (136, .bool false), (137, .bool false), (138, undef), (139, undef), (140, .bool false), (141, .bool false), (142, undef), (143, undef), (144, undef), (145, undef), (146, undef), (147, undef), (148, undef), (149, .bool false), (150, .bool false), (151, undef), (152, .bool false), (6, .bool false)] (by kernel_rfl) .nil) (by kernel_rfl) (fun a hE => ?_)
                    refine all_done (by kernel_rfl) ?_
                    refine hK126 _ _ ?_
                    refine wp_ret ?_
                    replace hS := hS.tail
                    replace hS := hS.tail
                    replace hS := hS.tail
                    replace hS := hS.tail
                    replace hS := hS.tail
                    replace hS := hS.tail
                    replace hS := hS.tail
                    replace hS := hS.tail
                    replace hS := hS.tail
                    replace hS := hS.tail
                    obtain rfl := Option.some.inj H
                    exact ret1 hE rfl (.tmp rfl .nil) ⟨_, rfl, _, rfl, hS⟩
                · rw [if_neg c127] at H
                  obtain ⟨J, hE⟩ := hE.norm [(0, .agg #[.int .i64 x0_.f0, .slice A0_1 x0_.f1.length c0_1]), (1, .agg #[.int .i64 x1_.f0, .int .i64 x1_.f1, .int .i64 x1_.f2]), (2, .agg #[.int .i64 x2_.f0, .int .i64 x2_.f1, .int .i64 x2_.f2, .int .i64 x2_.f3, .int .i64 x2_.f4, .int .i64 x2_.f5, .slice A2_6 x2_.f6.length c2_6]), (3, .pointer (some ⟨b2, 0, none⟩)), (4, .pointer (some ⟨b4, 0, none⟩)), (5, .pointer (some ⟨b6, 0, none⟩)), (6, .bool false), (7, .pointer (some ⟨b37, 0, none⟩)), (8, .slice A33 t26.2.1.length c34), (9, .int .i64 t26.2.2), (10, .pointer (some ⟨b49, 0, none⟩)), (11, .int .i64 t41.2), (13, .pointer (some ⟨b112, 0, none⟩)), (14, .slice A108 t101.2.1.length c109), (15, .int .i64 t101.2.2), (16, .pointer (some ⟨b123, 0, none⟩)), (17, .int .i64 t116.2), (26, .bool y14), (61, .bool y67), (64, .bool (!t77)), (113, .bool false)] (.cons rfl <| .cons rfl <| .cons rfl <| .cons rfl <| .cons rfl <| .cons rfl <| .cons rfl <| .cons rfl <| .cons rfl <| .cons rfl <| .cons rfl <| .cons rfl <| .cons rfl <| .cons rfl <| .cons rfl <| .cons rfl <| .cons rfl <| .cons rfl <| .cons rfl <| .cons rfl <| .cons (Eq.trans (b := .bool (t26.2.2 == t101.2.2)) rfl (congrArg Value.bool (beq_eq_false_iff_ne.2 c127))) .nil)
                  refine many 17592186044415 hst hE (.k 4 40 [(114, undef), (115, undef), (116, undef), (117, .bool false), (118, .bool false), (119, undef), (120, undef), (121, undef), (122, .bool false), (123, .bool false), (124, undef), (125, undef), (126, undef), (127, .bool false), (128, .bool false), (129, undef), (130, undef), (131, undef), (132, .bool false), (133, .bool false), (134, undef), (135, undef), (136, .bool false), (137, .bool false), (138, undef), (139, undef), (140, .bool false), (141, .bool false), (142, undef), (143, undef), (144, undef), (145, undef), (146, undef), (147, undef), (148, undef), (149, .bool false), (150, .bool false), (151, undef), (152, .bool false), (6, .bool false)] (by kernel_rfl) .nil) (by kernel_rfl) (fun a hE => ?_)
                  refine all_done (by kernel_rfl) ?_
                  refine hK126 _ _ ?_
                  refine wp_ret ?_
                  replace hS := hS.tail
                  replace hS := hS.tail
                  replace hS := hS.tail
                  replace hS := hS.tail
                  replace hS := hS.tail
                  replace hS := hS.tail
                  replace hS := hS.tail
                  replace hS := hS.tail
                  replace hS := hS.tail
                  replace hS := hS.tail
                  obtain rfl := Option.some.inj H
                  exact ret1 hE rfl (.tmp rfl .nil) ⟨_, rfl, _, rfl, hS⟩
              · rw [if_neg c80] at H
                refine cond_t hE (b := (!t77)) rfl (congrArg not (eq_false_of_ne_true c80)) ?_
                refine wp_seq_k fun K81 hK81 => ?_
                refine plain (L := [0, 1, 2]) rfl ?_
                refine ops_chain (S := Agr _) (.v 0 65 rfl rfl rfl rfl (YA.s (x_build [] (.agg #[.int .i64 0, .slice none 0 0]) rfl rfl (fun w => by kernel_rfl))) .nil) (rest := [1, 2]) hE (Agr.refl _) (fun a hE => ?_)
                refine ops_eff 1 hE (some 12) rfl rfl rfl rfl (e_alloc hS rfl z24z #[.int .i64 0, .slice none 0 0] rfl) ?_
                rintro _ u83 a ⟨b82, rfl, hb82, hS, hg⟩ hE
                refine ops_eff 2 hE none rfl rfl rfl rfl (e_store (off := 0) hS rfl rfl rfl sz24 (Nat.le_of_ble_eq_true rfl) (all_one rfl) #[.int .i64 0, .slice none 0 0] rfl) ?_
                rintro _ u84 a ⟨rfl, hb82, hS, hz⟩ hE
                refine ops_done ?_
                refine hK81 _ _ ?_
                refine wp_seq_k fun K85 hK85 => ?_
                refine plain (L := [0, 1, 2, 3, 4, 5, 6, 7, 8, 9, 10, 11, 12, 13, 14, 15, 16, 17, 18, 19, 20, 21, 22, 23, 24]) rfl ?_
                refine ops_chain (S := Agr _) (.k 0 3 [(66, .int .i64 t26.2.2), (67, .bool (t26.2.2 == 1)), (68, .bool (t26.2.2 == 1))] (by kernel_rfl) .nil) (rest := [3, 4, 5, 6, 7, 8, 9, 10, 11, 12, 13, 14, 15, 16, 17, 18, 19, 20, 21, 22, 23, 24]) hE (Agr.refl _) (fun a hE => ?_)
                by_cases c86 : t26.2.2 = 1
                · rw [if_pos c86] at H
                  obtain ⟨J, hE⟩ := hE.norm [(0, .agg #[.int .i64 x0_.f0, .slice A0_1 x0_.f1.length c0_1]), (1, .agg #[.int .i64 x1_.f0, .int .i64 x1_.f1, .int .i64 x1_.f2]), (2, .agg #[.int .i64 x2_.f0, .int .i64 x2_.f1, .int .i64 x2_.f2, .int .i64 x2_.f3, .int .i64 x2_.f4, .int .i64 x2_.f5, .slice A2_6 x2_.f6.length c2_6]), (3, .pointer (some ⟨b2, 0, none⟩)), (4, .pointer (some ⟨b4, 0, none⟩)), (5, .pointer (some ⟨b6, 0, none⟩)), (6, .bool false), (7, .pointer (some ⟨b37, 0, none⟩)), (8, .slice A33 t26.2.1.length c34), (9, .int .i64 t26.2.2), (10, .pointer (some ⟨b49, 0, none⟩)), (11, .int .i64 t41.2), (12, .pointer (some ⟨b82, 0, none⟩)), (26, .bool y14), (61, .bool y67), (64, .bool (!t77)), (68, .bool true)] (.cons rfl <| .cons rfl <| .cons rfl <| .cons rfl <| .cons rfl <| .cons rfl <| .cons rfl <| .cons rfl <| .cons rfl <| .cons rfl <| .cons rfl <| .cons rfl <| .cons rfl <| .cons rfl <| .cons rfl <| .cons rfl <| .cons (Eq.trans (b := .bool (t26.2.2 == 1)) rfl (congrArg Value.bool (beq_iff_eq.2 c86))) .nil)
                  refine ops_chain (S := Agr _) (.k 3 4 [(69, .int .i64 t41.2), (70, .bool (t41.2 == 1)), (71, .bool (t41.2 == 1)), (72, .bool (t41.2 == 1))] (by kernel_rfl) .nil) (rest := [7, 8, 9, 10, 11, 12, 13, 14, 15, 16, 17, 18, 19, 20, 21, 22, 23, 24]) hE (Agr.refl _) (fun a hE => ?_)
                  by_cases c87 : t41.2 = 1
                  · rw [if_pos c87] at H
                    obtain ⟨J, hE⟩ := hE.norm [(0, .agg #[.int .i64 x0_.f0, .slice A0_1 x0_.f1.length c0_1]), (1, .agg #[.int .i64 x1_.f0, .int .i64 x1_.f1, .int .i64 x1_.f2]), (2, .agg #[.int .i64 x2_.f0, .int .i64 x2_.f1, .int .i64 x2_.f2, .int .i64 x2_.f3, .int .i64 x2_.f4, .int .i64 x2_.f5, .slice A2_6 x2_.f6.length c2_6]), (3, .pointer (some ⟨b2, 0, none⟩)), (4, .pointer (some ⟨b4, 0, none⟩)), (5, .pointer (some ⟨b6, 0, none⟩)), (6, .bool false), (7, .pointer (some ⟨b37, 0, none⟩)), (8, .slice A33 t26.2.1.length c34), (9, .int .i64 t26.2.2), (10, .pointer (some ⟨b49, 0, none⟩)), (11, .int .i64 t41.2), (12, .pointer (some ⟨b82, 0, none⟩)), (26, .bool y14), (61, .bool y67), (64, .bool (!t77)), (69, .int .i64 t41.2), (70, .bool true), (72, .bool true)] (.cons rfl <| .cons rfl <| .cons rfl <| .cons rfl <| .cons rfl <| .cons rfl <| .cons rfl <| .cons rfl <| .cons rfl <| .cons rfl <| .cons rfl <| .cons rfl <| .cons rfl <| .cons rfl <| .cons rfl <| .cons rfl <| .cons rfl <| .cons (Eq.trans (b := .bool (t41.2 == 1)) rfl (congrArg Value.bool (beq_iff_eq.2 c87))) <| .cons (Eq.trans (b := .bool (t41.2 == 1)) rfl (congrArg Value.bool (beq_iff_eq.2 c87))) .nil)
                    refine ops_chain (S := Agr _) (.k 7 1 [(73, .slice A33 t26.2.1.length c34)] (by kernel_rfl) <| .v 8 74 rfl rfl rfl rfl (YA.s (len_sl rfl rfl ud22)) <| .k 9 3 [(75, .bool ((t26.2.1.length : Int) == 0)), (76, .bool ((t26.2.1.length : Int) == 0)), (77, .bool ((t26.2.1.length : Int) == 0))] (by kernel_rfl) .nil) (rest := [12, 13, 14, 15, 16, 17, 18, 19, 20, 21, 22, 23, 24]) hE (Agr.refl _) (fun a hE => ?_)
                    by_cases c88 : (t26.2.1.length : Int) = 0
                    · rw [if_pos c88] at H
                      obtain ⟨J, hE⟩ := hE.norm [(0, .agg #[.int .i64 x0_.f0, .slice A0_1 x0_.f1.length c0_1]), (1, .agg #[.int .i64 x1_.f0, .int .i64 x1_.f1, .int .i64 x1_.f2]), (2, .agg #[.int .i64 x2_.f0, .int .i64 x2_.f1, .int .i64 x2_.f2, .int .i64 x2_.f3, .int .i64 x2_.f4, .int .i64 x2_.f5, .slice A2_6 x2_.f6.length c2_6]), (3, .pointer (some ⟨b2, 0, none⟩)), (4, .pointer (some ⟨b4, 0, none⟩)), (5, .pointer (some ⟨b6, 0, none⟩)), (6, .bool false), (7, .pointer (some ⟨b37, 0, none⟩)), (8, .slice A33 t26.2.1.length c34), (9, .int .i64 t26.2.2), (10, .pointer (some ⟨b49, 0, none⟩)), (11, .int .i64 t41.2), (12, .pointer (some ⟨b82, 0, none⟩)), (26, .bool y14), (61, .bool y67), (64, .bool (!t77)), (69, .int .i64 t41.2), (70, .bool true), (73, .slice A33 t26.2.1.length c34), (74, .int .i64 (t26.2.1.length : Int)), (75, .bool true), (77, .bool true)] (.cons rfl <| .cons rfl <| .cons rfl <| .cons rfl <| .cons rfl <| .cons rfl <| .cons rfl <| .cons rfl <| .cons rfl <| .cons rfl <| .cons rfl <| .cons rfl <| .cons rfl <| .cons rfl <| .cons rfl <| .cons rfl <| .cons rfl <| .cons rfl <| .cons rfl <| .cons rfl <| .cons (Eq.trans (b := .bool ((t26.2.1.length : Int) == 0)) rfl (congrArg Value.bool (beq_iff_eq.2 c88))) <| .cons (Eq.trans (b := .bool ((t26.2.1.length : Int) == 0)) rfl (congrArg Value.bool (beq_iff_eq.2 c88))) .nil)
                      have hb37 := hS.blk_at (i := 2) rfl
                      refine ops_chain (S := Agr _) (.v 12 78 rfl rfl rfl rfl (lbn 0 [.int .i64 t26.1.f0, .slice A30 t26.1.f1.length c31] rfl rfl ag24 sz24 hb37 rfl) <| .v 13 79 rfl rfl rfl rfl (lbn 0 [.int .i64 0, .slice none 0 0] rfl rfl ag24 sz24 hb82 rfl) .nil) (rest := [14, 15, 16, 17, 18, 19, 20, 21, 22, 23, 24]) hE (Agr.refl _) (fun a hE => ?_)
                      obtain ⟨t89, h90, H⟩ := Option.bind_eq_some_iff.mp H
                      refine ops_eff 14 hE (some 80) rfl rfl rfl rfl (Eff.call en25 rfl [.agg #[.int .i64 t26.1.f0, .slice A30 t26.1.f1.length c31], .agg #[.int .i64 0, .slice none 0 0]] rfl (windroseref16_Same.calls k70 t26.1 (⟨0, []⟩ : S24) _ _ _ _ _ _ _ hS.own.sub g32 (Rd.nil _ _) h90)) ?_
                      rintro _ u91 a ⟨_, rfl, hC⟩ hE
                      replace hS := hS.lent hC
                      refine ops_chain (S := Agr _) (.k 15 2 [(81, .bool t89), (82, .bool t89)] (by kernel_rfl) .nil) (rest := [17, 18, 19, 20, 21, 22, 23, 24]) hE (Agr.refl _) (fun a hE => ?_)
                      by_cases c92 : t89 = true
                      · rw [if_pos c92] at H
                        obtain ⟨J, hE⟩ := hE.norm [(0, .agg #[.int .i64 x0_.f0, .slice A0_1 x0_.f1.length c0_1]), (1, .agg #[.int .i64 x1_.f0, .int .i64 x1_.f1, .int .i64 x1_.f2]), (2, .agg #[.int .i64 x2_.f0, .int .i64 x2_.f1, .int .i64 x2_.f2, .int .i64 x2_.f3, .int .i64 x2_.f4, .int .i64 x2_.f5, .slice A2_6 x2_.f6.length c2_6]), (3, .pointer (some ⟨b2, 0, none⟩)), (4, .pointer (some ⟨b4, 0, none⟩)), (5, .pointer (some ⟨b6, 0, none⟩)), (6, .bool false), (7, .pointer (some ⟨b37, 0, none⟩)), (8, .slice A33 t26.2.1.length c34), (9, .int .i64 t26.2.2), (10, .pointer (some ⟨b49, 0, none⟩)), (11, .int .i64 t41.2), (12, .pointer (some ⟨b82, 0, none⟩)), (26, .bool y14), (61, .bool y67), (64, .bool (!t77)), (69, .int .i64 t41.2), (70, .bool true), (73, .slice A33 t26.2.1.length c34), (74, .int .i64 (t26.2.1.length : Int)), (75, .bool true), (78, .agg #[.int .i64 t26.1.f0, .slice A30 t26.1.f1.length c31]), (79, .agg #[.int .i64 0, .slice none 0 0]), (80, .bool true), (82, .bool true)] (.cons rfl <| .cons rfl <| .cons rfl <| .cons rfl <| .cons rfl <| .cons rfl <| .cons rfl <| .cons rfl <| .cons rfl <| .cons rfl <| .cons rfl <| .cons rfl <| .cons rfl <| .cons rfl <| .cons rfl <| .cons rfl <| .cons rfl <| .cons rfl <| .cons rfl <| .cons rfl <| .cons rfl <| .cons rfl <| .cons rfl <| .cons (Eq.trans (b := .bool t89) rfl (congrArg Value.bool c92)) <| .cons (Eq.trans (b := .bool t89) rfl (congrArg Value.bool c92)) .nil)
                        have hb49 := hS.blk_at (i := 1) rfl
                        have hb82 := hS.blk_at (i := 0) rfl
                        refine ops_chain (S := Agr _) (.v 17 83 rfl rfl rfl rfl (lbn 0 [.int .i64 t41.1.f0, .slice A45 t41.1.f1.length c46] rfl rfl ag24 sz24 hb49 rfl) <| .v 18 84 rfl rfl rfl rfl (lbn 0 [.int .i64 0, .slice none 0 0] rfl rfl ag24 sz24 hb82 rfl) .nil) (rest := [19, 20, 21, 22, 23, 24]) hE (Agr.refl _) (fun a hE => ?_)
                        obtain ⟨t93, h94, H⟩ := Option.bind_eq_some_iff.mp H
                        refine ops_eff 19 hE (some 85) rfl rfl rfl rfl (Eff.call en25 rfl [.agg #[.int .i64 t41.1.f0, .slice A45 t41.1.f1.length c46], .agg #[.int .i64 0, .slice none 0 0]] rfl (windroseref16_Same.calls k70 t41.1 (⟨0, []⟩ : S24) _ _ _ _ _ _ _ (Sub.refl _) (hS.rd_at (i := 6) rfl) (Rd.nil _ _) h94)) ?_
                        rintro _ u95 a ⟨_, rfl, hC⟩ hE
                        replace hS := hS.lent hC
                        refine ops_chain (S := Agr _) (.k 20 2 [(86, .bool t93), (87, .bool t93)] (by kernel_rfl) .nil) (rest := [22, 23, 24]) hE (Agr.refl _) (fun a hE => ?_)
                        by_cases c96 : t93 = true
                        · rw [if_pos c96] at H
                          obtain ⟨J, hE⟩ := hE.norm [(0, .agg #[.int .i64 x0_.f0, .slice A0_1 x0_.f1.length c0_1]), (1, .agg #[.int .i64 x1_.f0, .int .i64 x1_.f1, .int .i64 x1_.f2]), (2, .agg #[.int .i64 x2_.f0, .int .i64 x2_.f1, .int .i64 x2_.f2, .int .i64 x2_.f3, .int .i64 x2_.f4, .int .i64 x2_.f5, .slice A2_6 x2_.f6.length c2_6]), (3, .pointer (some ⟨b2, 0, none⟩)), (4, .pointer (some ⟨b4, 0, none⟩)), (5, .pointer (some ⟨b6, 0, none⟩)), (6, .bool false), (7, .pointer (some ⟨b37, 0, none⟩)), (8, .slice A33 t26.2.1.length c34), (9, .int .i64 t26.2.2), (10, .pointer (some ⟨b49, 0, none⟩)), (11, .int .i64 t41.2), (12, .pointer (some ⟨b82, 0, none⟩)), (26, .bool y14), (61, .bool y67), (64, .bool (!t77)), (69, .int .i64 t41.2), (70, .bool true), (73, .slice A33 t26.2.1.length c34), (74, .int .i64 (t26.2.1.length : Int)), (75, .bool true), (78, .agg #[.int .i64 t26.1.f0, .slice A30 t26.1.f1.length c31]), (79, .agg #[.int .i64 0, .slice none 0 0]), (80, .bool true), (83, .agg #[.int .i64 t41.1.f0, .slice A45 t41.1.f1.length c46]), (84, .agg #[.int .i64 0, .slice none 0 0]), (85, .bool true), (87, .bool true)] (.cons rfl <| .cons rfl <| .cons rfl <| .cons rfl <| .cons rfl <| .cons rfl <| .cons rfl <| .cons rfl <| .cons rfl <| .cons rfl <| .cons rfl <| .cons rfl <| .cons rfl <| .cons rfl <| .cons rfl <| .cons rfl <| .cons rfl <| .cons rfl <| .cons rfl <| .cons rfl <| .cons rfl <| .cons rfl <| .cons rfl <| .cons rfl <| .cons rfl <| .cons rfl <| .cons (Eq.trans (b := .bool t93) rfl (congrArg Value.bool c96)) <| .cons (Eq.trans (b := .bool t93) rfl (congrArg Value.bool c96)) .nil)
                          obtain ⟨t97, h98, H⟩ := Option.bind_eq_some_iff.mp H
                          refine ops_eff 22 hE (some 88) rfl rfl rfl rfl (Eff.call en18 rfl [] rfl (windroselaw16_awake.calls k70 _ _ _ hS.own.sub h98)) ?_
                          rintro _ u99 a ⟨_, rfl, hC⟩ hE
                          replace hS := hS.lent hC
                          refine ops_chain (S := Agr _) (.k 23 2 [(89, .bool t97), (6, .bool t97)] (by kernel_rfl) .nil) (rest := []) hE (Agr.refl _) (fun a hE => ?_)
                          refine ops_done ?_
                          refine hK85 _ _ ?_
                          refine wp_ret (then_ret ?_)
                          replace hS := hS.tail
                          replace hS := hS.tail
                          replace hS := hS.tail
                          replace hS := hS.tail
                          replace hS := hS.tail
                          replace hS := hS.tail
                          replace hS := hS.tail
                          replace hS := hS.tail
                          obtain rfl := Option.some.inj H
                          exact ret1 hE rfl (.tmp rfl .nil) ⟨_, rfl, _, rfl, hS⟩
                        · rw [if_neg c96] at H
                          obtain ⟨J, hE⟩ := hE.norm [(0, .agg #[.int .i64 x0_.f0, .slice A0_1 x0_.f1.length c0_1]), (1, .agg #[.int .i64 x1_.f0, .int .i64 x1_.f1, .int .i64 x1_.f2]), (2, .agg #[.int .i64 x2_.f0, .int .i64 x2_.f1, .int .i64 x2_.f2, .int .i64 x2_.f3, .int .i64 x2_.f4, .int .i64 x2_.f5, .slice A2_6 x2_.f6.length c2_6]), (3, .pointer (some ⟨b2, 0, none⟩)), (4, .pointer (some ⟨b4, 0, none⟩)), (5, .pointer (some ⟨b6, 0, none⟩)), (6, .bool false), (7, .pointer (some ⟨b37, 0, none⟩)), (8, .slice A33 t26.2.1.length c34), (9, .int .i64 t26.2.2), (10, .pointer (some ⟨b49, 0, none⟩)), (11, .int .i64 t41.2), (12, .pointer (some ⟨b82, 0, none⟩)), (26, .bool y14), (61, .bool y67), (64, .bool (!t77)), (69, .int .i64 t41.2), (70, .bool true), (73, .slice A33 t26.2.1.length c34), (74, .int .i64 (t26.2.1.length : Int)), (75, .bool true), (78, .agg #[.int .i64 t26.1.f0, .slice A30 t26.1.f1.length c31]), (79, .agg #[.int .i64 0, .slice none 0 0]), (80, .bool true), (83, .agg #[.int .i64 t41.1.f0, .slice A45 t41.1.f1.length c46]), (84, .agg #[.int .i64 0, .slice none 0 0]), (85, .bool false), (87, .bool false)] (.cons rfl <| .cons rfl <| .cons rfl <| .cons rfl <| .cons rfl <| .cons rfl <| .cons rfl <| .cons rfl <| .cons rfl <| .cons rfl <| .cons rfl <| .cons rfl <| .cons rfl <| .cons rfl <| .cons rfl <| .cons rfl <| .cons rfl <| .cons rfl <| .cons rfl <| .cons rfl <| .cons rfl <| .cons rfl <| .cons rfl <| .cons rfl <| .cons rfl <| .cons rfl <| .cons (Eq.trans (b := .bool t93) rfl (congrArg Value.bool (eq_false_of_ne_true c96))) <| .cons (Eq.trans (b := .bool t93) rfl (congrArg Value.bool (eq_false_of_ne_true c96))) .nil)
                          refine ops_chain (S := Agr _) (.k 22 3 [(88, undef), (89, .bool false), (6, .bool false)] (by kernel_rfl) .nil) (rest := []) hE (Agr.refl _) (fun a hE => ?_)
                          refine ops_done ?_
                          refine hK85 _ _ ?_
                          refine wp_ret (then_ret ?_)
                          replace hS := hS.tail
                          replace hS := hS.tail
                          replace hS := hS.tail
                          replace hS := hS.tail
                          replace hS := hS.tail
                          replace hS := hS.tail
                          replace hS := hS.tail
                          replace hS := hS.tail
                          obtain rfl := Option.some.inj H
                          exact ret1 hE rfl (.tmp rfl .nil) ⟨_, rfl, _, rfl, hS⟩
                      · rw [if_neg c92] at H
                        obtain ⟨J, hE⟩ := hE.norm [(0, .agg #[.int .i64 x0_.f0, .slice A0_1 x0_.f1.length c0_1]), (1, .agg #[.int .i64 x1_.f0, .int .i64 x1_.f1, .int .i64 x1_.f2]), (2, .agg #[.int .i64 x2_.f0, .int .i64 x2_.f1, .int .i64 x2_.f2, .int .i64 x2_.f3, .int .i64 x2_.f4, .int .i64 x2_.f5, .slice A2_6 x2_.f6.length c2_6]), (3, .pointer (some ⟨b2, 0, none⟩)), (4, .pointer (some ⟨b4, 0, none⟩)), (5, .pointer (some ⟨b6, 0, none⟩)), (6, .bool false), (7, .pointer (some ⟨b37, 0, none⟩)), (8, .slice A33 t26.2.1.length c34), (9, .int .i64 t26.2.2), (10, .pointer (some ⟨b49, 0, none⟩)), (11, .int .i64 t41.2), (12, .pointer (some ⟨b82, 0, none⟩)), (26, .bool y14), (61, .bool y67), (64, .bool (!t77)), (69, .int .i64 t41.2), (70, .bool true), (73, .slice A33 t26.2.1.length c34), (74, .int .i64 (t26.2.1.length : Int)), (75, .bool true), (78, .agg #[.int .i64 t26.1.f0, .slice A30 t26.1.f1.length c31]), (79, .agg #[.int .i64 0, .slice none 0 0]), (80, .bool false), (82, .bool false)] (.cons rfl <| .cons rfl <| .cons rfl <| .cons rfl <| .cons rfl <| .cons rfl <| .cons rfl <| .cons rfl <| .cons rfl <| .cons rfl <| .cons rfl <| .cons rfl <| .cons rfl <| .cons rfl <| .cons rfl <| .cons rfl <| .cons rfl <| .cons rfl <| .cons rfl <| .cons rfl <| .cons rfl <| .cons rfl <| .cons rfl <| .cons (Eq.trans (b := .bool t89) rfl (congrArg Value.bool (eq_false_of_ne_true c92))) <| .cons (Eq.trans (b := .bool t89) rfl (congrArg Value.bool (eq_false_of_ne_true c92))) .nil)
                        refine ops_chain (S := Agr _) (.k 17 8 [(83, undef), (84, undef), (85, undef), (86, .bool false), (87, .bool false), (88, undef), (89, .bool false), (6, .bool false)] (by kernel_rfl) .nil) (rest := []) hE (Agr.refl _) (fun a hE => ?_)
                        refine ops_done ?_
                        refine hK85 _ _ ?_
                        refine wp_ret (then_ret ?_)
                        replace hS := hS.tail
                        replace hS := hS.tail
                        replace hS := hS.tail
                        replace hS := hS.tail
                        replace hS := hS.tail
                        replace hS := hS.tail
                        replace hS := hS.tail
                        replace hS := hS.tail
                        obtain rfl := Option.some.inj H
                        exact ret1 hE rfl (.tmp rfl .nil) ⟨_, rfl, _, rfl, hS⟩
                    · rw [if_neg c88] at H
                      obtain ⟨J, hE⟩ := hE.norm [(0, .agg #[.int .i64 x0_.f0, .slice A0_1 x0_.f1.length c0_1]), (1, .agg #[.int .i64 x1_.f0, .int .i64 x1_.f1, .int .i64 x1_.f2]), (2, .agg #[.int .i64 x2_.f0, .int .i64 x2_.f1, .int .i64 x2_.f2, .int .i64 x2_.f3, .int .i64 x2_.f4, .int .i64 x2_.f5, .slice A2_6 x2_.f6.length c2_6]), (3, .pointer (some ⟨b2, 0, none⟩)), (4, .pointer (some ⟨b4, 0, none⟩)), (5, .pointer (some ⟨b6, 0, none⟩)), (6, .bool false), (7, .pointer (some ⟨b37, 0, none⟩)), (8, .slice A33 t26.2.1.length c34), (9, .int .i64 t26.2.2), (10, .pointer (some ⟨b49, 0, none⟩)), (11, .int .i64 t41.2), (12, .pointer (some ⟨b82, 0, none⟩)), (26, .bool y14), (61, .bool y67), (64, .bool (!t77)), (69, .int .i64 t41.2), (70, .bool true), (73, .slice A33 t26.2.1.length c34), (74, .int .i64 (t26.2.1.length : Int)), (75, .bool false), (77, .bool false)] (.cons rfl <| .cons rfl <| .cons rfl <| .cons rfl <| .cons rfl <| .cons rfl <| .cons rfl <| .cons rfl <| .cons rfl <| .cons rfl <| .cons rfl <| .cons rfl <| .cons rfl <| .cons rfl <| .cons rfl <| .cons rfl <| .cons rfl <| .cons rfl <| .cons rfl <| .cons rfl <| .cons (Eq.trans (b := .bool ((t26.2.1.length : Int) == 0)) rfl (congrArg Value.bool (beq_eq_false_iff_ne.2 c88))) <| .cons (Eq.trans (b := .bool ((t26.2.1.length : Int) == 0)) rfl (congrArg Value.bool (beq_eq_false_iff_ne.2 c88))) .nil)
                      refine ops_chain (S := Agr _) (.k 12 13 [(78, undef), (79, undef), (80, undef), (81, .bool false), (82, .bool false), (83, undef), (84, undef), (85, undef), (86, .bool false), (87, .bool false), (88, undef), (89, .bool false), (6, .bool false)] (by kernel_rfl) .nil) (rest := []) hE (Agr.refl _) (fun a hE => ?_)
                      refine ops_done ?_
                      refine hK85 _ _ ?_
                      refine wp_ret (then_ret ?_)
                      replace hS := hS.tail
                      replace hS := hS.tail
                      replace hS := hS.tail
                      replace hS := hS.tail
                      replace hS := hS.tail
                      replace hS := hS.tail
                      replace hS := hS.tail
                      replace hS := hS.tail
                      obtain rfl := Option.some.inj H
                      exact ret1 hE rfl (.tmp rfl .nil) ⟨_, rfl, _, rfl, hS⟩
                  · rw [if_neg c87] at H
                    obtain ⟨J, hE⟩ := hE.norm [(0, .agg #[.int .i64 x0_.f0, .slice A0_1 x0_.f1.length c0_1]), (1, .agg #[.int .i64 x1_.f0, .int .i64 x1_.f1, .int .i64 x1_.f2]), (2, .agg #[.int .i64 x2_.f0, .int .i64 x2_.f1, .int .i64 x2_.f2, .int .i64 x2_.f3, .int .i64 x2_.f4, .int .i64 x2_.f5, .slice A2_6 x2_.f6.length c2_6]), (3, .pointer (some ⟨b2, 0, none⟩)), (4, .pointer (some ⟨b4, 0, none⟩)), (5, .pointer (some ⟨b6, 0, none⟩)), (6, .bool false), (7, .pointer (some ⟨b37, 0, none⟩)), (8, .slice A33 t26.2.1.length c34), (9, .int .i64 t26.2.2), (10, .pointer (some ⟨b49, 0, none⟩)), (11, .int .i64 t41.2), (12, .pointer (some ⟨b82, 0, none⟩)), (26, .bool y14), (61, .bool y67), (64, .bool (!t77)), (69, .int .i64 t41.2), (70, .bool false), (72, .bool false)] (.cons rfl <| .cons rfl <| .cons rfl <| .cons rfl <| .cons rfl <| .cons rfl <| .cons rfl <| .cons rfl <| .cons rfl <| .cons rfl <| .cons rfl <| .cons rfl <| .cons rfl <| .cons rfl <| .cons rfl <| .cons rfl <| .cons rfl <| .cons (Eq.trans (b := .bool (t41.2 == 1)) rfl (congrArg Value.bool (beq_eq_false_iff_ne.2 c87))) <| .cons (Eq.trans (b := .bool (t41.2 == 1)) rfl (congrArg Value.bool (beq_eq_false_iff_ne.2 c87))) .nil)
                    refine ops_chain (S := Agr _) (.k 7 18 [(73, undef), (74, undef), (75, undef), (76, .bool false), (77, .bool false), (78, undef), (79, undef), (80, undef), (81, .bool false), (82, .bool false), (83, undef), (84, undef), (85, undef), (86, .bool false), (87, .bool false), (88, undef), (89, .bool false), (6, .bool false)] (by kernel_rfl) .nil) (rest := []) hE (Agr.refl _) (fun a hE => ?_)
                    refine ops_done ?_
                    refine hK85 _ _ ?_
                    refine wp_ret (then_ret ?_)
                    replace hS := hS.tail
                    replace hS := hS.tail
                    replace hS := hS.tail
                    replace hS := hS.tail
                    replace hS := hS.tail
                    replace hS := hS.tail
                    replace hS := hS.tail
                    replace hS := hS.tail
                    obtain rfl := Option.some.inj H
                    exact ret1 hE rfl (.tmp rfl .nil) ⟨_, rfl, _, rfl, hS⟩
                · rw [if_neg c86] at H
                  obtain ⟨J, hE⟩ := hE.norm [(0, .agg #[.int .i64 x0_.f0, .slice A0_1 x0_.f1.length c0_1]), (1, .agg #[.int .i64 x1_.f0, .int .i64 x1_.f1, .int .i64 x1_.f2]), (2, .agg #[.int .i64 x2_.f0, .int .i64 x2_.f1, .int .i64 x2_.f2, .int .i64 x2_.f3, .int .i64 x2_.f4, .int .i64 x2_.f5, .slice A2_6 x2_.f6.length c2_6]), (3, .pointer (some ⟨b2, 0, none⟩)), (4, .pointer (some ⟨b4, 0, none⟩)), (5, .pointer (some ⟨b6, 0, none⟩)), (6, .bool false), (7, .pointer (some ⟨b37, 0, none⟩)), (8, .slice A33 t26.2.1.length c34), (9, .int .i64 t26.2.2), (10, .pointer (some ⟨b49, 0, none⟩)), (11, .int .i64 t41.2), (12, .pointer (some ⟨b82, 0, none⟩)), (26, .bool y14), (61, .bool y67), (64, .bool (!t77)), (68, .bool false)] (.cons rfl <| .cons rfl <| .cons rfl <| .cons rfl <| .cons rfl <| .cons rfl <| .cons rfl <| .cons rfl <| .cons rfl <| .cons rfl <| .cons rfl <| .cons rfl <| .cons rfl <| .cons rfl <| .cons rfl <| .cons rfl <| .cons (Eq.trans (b := .bool (t26.2.2 == 1)) rfl (congrArg Value.bool (beq_eq_false_iff_ne.2 c86))) .nil)
                  refine ops_chain (S := Agr _) (.k 3 22 [(69, undef), (70, undef), (71, .bool false), (72, .bool false), (73, undef), (74, undef), (75, undef), (76, .bool false), (77, .bool false), (78, undef), (79, undef), (80, undef), (81, .bool false), (82, .bool false), (83, undef), (84, undef), (85, undef), (86, .bool false), (87, .bool false), (88, undef), (89, .bool false), (6, .bool false)] (by kernel_rfl) .nil) (rest := []) hE (Agr.refl _) (fun a hE => ?_)
                  refine ops_done ?_
                  refine hK85 _ _ ?_
                  refine wp_ret (then_ret ?_)
                  replace hS := hS.tail
                  replace hS := hS.tail
                  replace hS := hS.tail
                  replace hS := hS.tail
                  replace hS := hS.tail
                  replace hS := hS.tail
                  replace hS := hS.tail
                  replace hS := hS.tail
                  obtain rfl := Option.some.inj H
                  exact ret1 hE rfl (.tmp rfl .nil) ⟨_, rfl, _, rfl, hS⟩
        refine drawn 14 [] mixed rfl (by kernel_rfl) (fun hst => ?_)
        replace hS := hS.drew
        have hb2 := hS.blk_at (i := 6) rfl
        refine many 9 hst hE (.v 0 48 rfl rfl rfl rfl (lbn 0 [.int .i64 x0_.f0, .slice A0_1 x0_.f1.length c0_1] rfl rfl ag24 sz24 hb2 rfl) <| .v 3 51 rfl rfl rfl rfl (lbn 0 [.int .i64 x0_.f0, .slice A0_1 x0_.f1.length c0_1] rfl rfl ag24 sz24 hb2 rfl) .nil) (by kernel_rfl) (fun a hE => ?_)
        obtain ⟨t54, h55, H⟩ := Option.bind_eq_some_iff.mp H
        refine one 1 11 hE (some 49) rfl rfl rfl rfl (by kernel_rfl) (Eff.call en21 rfl [.agg #[.int .i64 x0_.f0, .slice A0_1 x0_.f1.length c0_1]] rfl (acceptor_Check.calls k17 x0_ _ _ _ _ _ hS.own.sub g0_1 h55)) ?_
        rintro _ u56 a ⟨_, rfl, hC⟩ hE
        refine ⟨fun _ => hC.agr, ?_⟩
        replace hS := hS.lent hC
        refine many 15 hst hE (.k 2 1 [(50, .bool (t54 == 0))] (by kernel_rfl) .nil) (by kernel_rfl) (fun a hE => ?_)
        obtain ⟨t57, h58, H⟩ := Option.bind_eq_some_iff.mp H
        refine one 4 31 hE (some 52) rfl rfl rfl rfl (by kernel_rfl) (Eff.call en22 rfl [.agg #[.int .i64 x0_.f0, .slice A0_1 x0_.f1.length c0_1]] rfl (windroseref16_May.calls k17 x0_ _ _ _ _ _ hS.own.sub g0_1 h58)) ?_
        rintro _ u59 a ⟨_, rfl, hC⟩ hE
        refine ⟨fun _ => hC.agr, ?_⟩
        replace hS := hS.lent hC
        refine many 127 hst hE (.k 5 2 [(53, .bool (!((t54 == 0) == t57))), (54, .bool (!((t54 == 0) == t57)))] (by kernel_rfl) .nil) (by kernel_rfl) (fun a hE => ?_)
        by_cases c60 : (t54 == 0) = t57
        · rw [if_pos c60] at H
          obtain ⟨J, hE⟩ := hE.norm [(0, .agg #[.int .i64 x0_.f0, .slice A0_1 x0_.f1.length c0_1]), (1, .agg #[.int .i64 x1_.f0, .int .i64 x1_.f1, .int .i64 x1_.f2]), (2, .agg #[.int .i64 x2_.f0, .int .i64 x2_.f1, .int .i64 x2_.f2, .int .i64 x2_.f3, .int .i64 x2_.f4, .int .i64 x2_.f5, .slice A2_6 x2_.f6.length c2_6]), (3, .pointer (some ⟨b2, 0, none⟩)), (4, .pointer (some ⟨b4, 0, none⟩)), (5, .pointer (some ⟨b6, 0, none⟩)), (6, .bool false), (7, .pointer (some ⟨b37, 0, none⟩)), (8, .slice A33 t26.2.1.length c34), (9, .int .i64 t26.2.2), (10, .pointer (some ⟨b49, 0, none⟩)), (11, .int .i64 t41.2), (26, .bool y14), (54, .bool false)] (.cons rfl <| .cons rfl <| .cons rfl <| .cons rfl <| .cons rfl <| .cons rfl <| .cons rfl <| .cons rfl <| .cons rfl <| .cons rfl <| .cons rfl <| .cons rfl <| .cons rfl <| .cons (Eq.trans (b := .bool (!((t54 == 0) == t57))) rfl (congrArg Value.bool (congrArg not (beq_iff_eq.2 c60)))) .nil)
          have hb6 := hS.blk_at (i := 4) rfl
          refine many 1279 hst hE (.v 7 55 rfl rfl rfl rfl (lbn 0 [.int .i64 x2_.f0, .int .i64 x2_.f1, .int .i64 x2_.f2, .int .i64 x2_.f3, .int .i64 x2_.f4, .int .i64 x2_.f5, .slice A2_6 x2_.f6.length c2_6] rfl rfl ag28 sz28 hb6 rfl) <| .v 10 58 rfl rfl rfl rfl (lbn 0 [.int .i64 x2_.f0, .int .i64 x2_.f1, .int .i64 x2_.f2, .int .i64 x2_.f3, .int .i64 x2_.f4, .int .i64 x2_.f5, .slice A2_6 x2_.f6.length c2_6] rfl rfl ag28 sz28 hb6 rfl) .nil) (by kernel_rfl) (fun a hE => ?_)
          obtain ⟨t61, h62, H⟩ := Option.bind_eq_some_iff.mp H
          refine one 8 1535 hE (some 56) rfl rfl rfl rfl (by kernel_rfl) (Eff.call en23 rfl [.agg #[.int .i64 x2_.f0, .int .i64 x2_.f1, .int .i64 x2_.f2, .int .i64 x2_.f3, .int .i64 x2_.f4, .int .i64 x2_.f5, .slice A2_6 x2_.f6.length c2_6]] rfl (acceptor_CheckDelta.calls k17 x2_ _ _ _ _ _ hS.own.sub g2_6 h62)) ?_
          rintro _ u63 a ⟨_, rfl, hC⟩ hE
          refine ⟨fun _ => hC.agr, ?_⟩
          replace hS := hS.lent hC
          refine many 2047 hst hE (.k 9 1 [(57, .bool (t61 == 0))] (by kernel_rfl) .nil) (by kernel_rfl) (fun a hE => ?_)
          obtain ⟨t64, h65, H⟩ := Option.bind_eq_some_iff.mp H
          refine one 11 4095 hE (some 59) rfl rfl rfl rfl (by kernel_rfl) (Eff.call en24 rfl [.agg #[.int .i64 x2_.f0, .int .i64 x2_.f1, .int .i64 x2_.f2, .int .i64 x2_.f3, .int .i64 x2_.f4, .int .i64 x2_.f5, .slice A2_6 x2_.f6.length c2_6]] rfl (windroseref16_Delta.calls k17 x2_ _ _ _ _ _ hS.own.sub g2_6 h65)) ?_
          rintro _ u66 a ⟨_, rfl, hC⟩ hE
          refine ⟨fun _ => hC.agr, ?_⟩
          replace hS := hS.lent hC
          refine many 16383 hst hE (.k 12 2 [(60, .bool (!((t61 == 0) == t64))), (61, .bool (!((t61 == 0) == t64)))] (by kernel_rfl) .nil) (by kernel_rfl) (fun a hE => ?_)
          refine all_done (by kernel_rfl) ?_
          replace hS := hS.front 3 rfl
          replace hS := hS.front 2 rfl
          replace hS := hS.front 6 rfl
          replace hS := hS.front 6 rfl
          replace hS := hS.front 6 rfl
          replace hS := hS.front 6 rfl
          replace hS := hS.front 6 rfl
          obtain ⟨J, hE⟩ := hE.norm [(0, .agg #[.int .i64 x0_.f0, .slice A0_1 x0_.f1.length c0_1]), (1, .agg #[.int .i64 x1_.f0, .int .i64 x1_.f1, .int .i64 x1_.f2]), (2, .agg #[.int .i64 x2_.f0, .int .i64 x2_.f1, .int .i64 x2_.f2, .int .i64 x2_.f3, .int .i64 x2_.f4, .int .i64 x2_.f5, .slice A2_6 x2_.f6.length c2_6]), (3, .pointer (some ⟨b2, 0, none⟩)), (4, .pointer (some ⟨b4, 0, none⟩)), (5, .pointer (some ⟨b6, 0, none⟩)), (6, .bool false), (7, .pointer (some ⟨b37, 0, none⟩)), (8, .slice A33 t26.2.1.length c34), (9, .int .i64 t26.2.2), (10, .pointer (some ⟨b49, 0, none⟩)), (11, .int .i64 t41.2), (26, .bool y14), (61, .bool (!((t61 == 0) == t64)))] (.cons rfl <| .cons rfl <| .cons rfl <| .cons rfl <| .cons rfl <| .cons rfl <| .cons rfl <| .cons rfl <| .cons rfl <| .cons rfl <| .cons rfl <| .cons rfl <| .cons rfl <| .cons rfl .nil)
          exact J71 _ (by omega) J (!((t61 == 0) == t64)) _ _ hE hS H
        · rw [if_neg c60] at H
          obtain ⟨J, hE⟩ := hE.norm [(0, .agg #[.int .i64 x0_.f0, .slice A0_1 x0_.f1.length c0_1]), (1, .agg #[.int .i64 x1_.f0, .int .i64 x1_.f1, .int .i64 x1_.f2]), (2, .agg #[.int .i64 x2_.f0, .int .i64 x2_.f1, .int .i64 x2_.f2, .int .i64 x2_.f3, .int .i64 x2_.f4, .int .i64 x2_.f5, .slice A2_6 x2_.f6.length c2_6]), (3, .pointer (some ⟨b2, 0, none⟩)), (4, .pointer (some ⟨b4, 0, none⟩)), (5, .pointer (some ⟨b6, 0, none⟩)), (6, .bool false), (7, .pointer (some ⟨b37, 0, none⟩)), (8, .slice A33 t26.2.1.length c34), (9, .int .i64 t26.2.2), (10, .pointer (some ⟨b49, 0, none⟩)), (11, .int .i64 t41.2), (26, .bool y14), (54, .bool true)] (.cons rfl <| .cons rfl <| .cons rfl <| .cons rfl <| .cons rfl <| .cons rfl <| .cons rfl <| .cons rfl <| .cons rfl <| .cons rfl <| .cons rfl <| .cons rfl <| .cons rfl <| .cons (Eq.trans (b := .bool (!((t54 == 0) == t57))) rfl (congrArg Value.bool (congrArg not (beq_eq_false_iff_ne.2 c60)))) .nil)
          refine many 16383 hst hE (.k 7 7 [(55, undef), (56, undef), (57, undef), (58, undef), (59, undef), (60, undef), (61, .bool true)] (by kernel_rfl) .nil) (by kernel_rfl) (fun a hE => ?_)
          refine all_done (by kernel_rfl) ?_
          replace hS := hS.front 3 rfl
          replace hS := hS.front 2 rfl
          replace hS := hS.front 6 rfl
          replace hS := hS.front 6 rfl
          replace hS := hS.front 6 rfl
          replace hS := hS.front 6 rfl
          replace hS := hS.front 6 rfl
          obtain ⟨J, hE⟩ := hE.norm [(0, .agg #[.int .i64 x0_.f0, .slice A0_1 x0_.f1.length c0_1]), (1, .agg #[.int .i64 x1_.f0, .int .i64 x1_.f1, .int .i64 x1_.f2]), (2, .agg #[.int .i64 x2_.f0, .int .i64 x2_.f1, .int .i64 x2_.f2, .int .i64 x2_.f3, .int .i64 x2_.f4, .int .i64 x2_.f5, .slice A2_6 x2_.f6.length c2_6]), (3, .pointer (some ⟨b2, 0, none⟩)), (4, .pointer (some ⟨b4, 0, none⟩)), (5, .pointer (some ⟨b6, 0, none⟩)), (6, .bool false), (7, .pointer (some ⟨b37, 0, none⟩)), (8, .slice A33 t26.2.1.length c34), (9, .int .i64 t26.2.2), (10, .pointer (some ⟨b49, 0, none⟩)), (11, .int .i64 t41.2), (26, .bool y14), (61, .bool true)] (.cons rfl <| .cons rfl <| .cons rfl <| .cons rfl <| .cons rfl <| .cons rfl <| .cons rfl <| .cons rfl <| .cons rfl <| .cons rfl <| .cons rfl <| .cons rfl <| .cons rfl <| .cons rfl .nil)
          exact J71 _ (by omega) J true _ _ hE hS H
  refine plain (L := [0, 1, 2, 3, 4, 5, 6, 7, 8]) rfl ?_
  have hb2 := hS.blk_at (i := 2) rfl
  refine ops_chain (S := Agr _) (.v 0 18 rfl rfl rfl rfl (lbn 0 [.int .i64 x0_.f0, .slice A0_1 x0_.f1.length c0_1] rfl rfl ag24 sz24 hb2 rfl) .nil) (rest := [1, 2, 3, 4, 5, 6, 7, 8]) hE (Agr.refl _) (fun a hE => ?_)
  obtain ⟨t10, h11, H⟩ := Option.bind_eq_some_iff.mp H
  refine ops_eff 1 hE (some 19) rfl rfl rfl rfl (Eff.call en17 rfl [.agg #[.int .i64 x0_.f0, .slice A0_1 x0_.f1.length c0_1]] rfl (windroselaw16_Light.calls k x0_ _ _ _ _ _ hS.own.sub g0_1 h11)) ?_
  rintro _ u12 a ⟨_, rfl, hC⟩ hE
  replace hS := hS.lent hC
  refine ops_chain (S := Agr _) (.k 2 2 [(20, .bool (!t10)), (21, .bool (!t10))] (by kernel_rfl) .nil) (rest := [4, 5, 6, 7, 8]) hE (Agr.refl _) (fun a hE => ?_)
  by_cases c13 : t10 = true
  · rw [if_pos c13] at H
    obtain ⟨J, hE⟩ := hE.norm [(0, .agg #[.int .i64 x0_.f0, .slice A0_1 x0_.f1.length c0_1]), (1, .agg #[.int .i64 x1_.f0, .int .i64 x1_.f1, .int .i64 x1_.f2]), (2, .agg #[.int .i64 x2_.f0, .int .i64 x2_.f1, .int .i64 x2_.f2, .int .i64 x2_.f3, .int .i64 x2_.f4, .int .i64 x2_.f5, .slice A2_6 x2_.f6.length c2_6]), (3, .pointer (some ⟨b2, 0, none⟩)), (4, .pointer (some ⟨b4, 0, none⟩)), (5, .pointer (some ⟨b6, 0, none⟩)), (6, .bool false), (21, .bool false)] (.cons rfl <| .cons rfl <| .cons rfl <| .cons rfl <| .cons rfl <| .cons rfl <| .cons rfl <| .cons (Eq.trans (b := .bool (!t10)) rfl (congrArg Value.bool (congrArg not c13))) .nil)
    have hb6 := hS.blk_at (i := 0) rfl
    refine ops_chain (S := Agr _) (.k 4 1 [(22, .pointer (some ⟨b6, 6, none⟩))] (by kernel_rfl) <| .v 5 23 rfl rfl rfl rfl (lb1 6 (.slice A2_6 x2_.f6.length c2_6) rfl rfl ag26 hb6 rfl) <| .v 6 24 rfl rfl rfl rfl (YA.s (len_sl rfl rfl ud26)) <| .k 7 2 [(25, .bool (decide ((x2_.f6.length : Int) > 20))), (26, .bool (decide ((x2_.f6.length : Int) > 20)))] (by kernel_rfl) .nil) (rest := []) hE (Agr.refl _) (fun a hE => ?_)
    refine ops_done ?_
    obtain ⟨J, hE⟩ := hE.norm [(0, .agg #[.int .i64 x0_.f0, .slice A0_1 x0_.f1.length c0_1]), (1, .agg #[.int .i64 x1_.f0, .int .i64 x1_.f1, .int .i64 x1_.f2]), (2, .agg #[.int .i64 x2_.f0, .int .i64 x2_.f1, .int .i64 x2_.f2, .int .i64 x2_.f3, .int .i64 x2_.f4, .int .i64 x2_.f5, .slice A2_6 x2_.f6.length c2_6]), (3, .pointer (some ⟨b2, 0, none⟩)), (4, .pointer (some ⟨b4, 0, none⟩)), (5, .pointer (some ⟨b6, 0, none⟩)), (6, .bool false), (26, .bool (decide ((x2_.f6.length : Int) > 20)))] (.cons rfl <| .cons rfl <| .cons rfl <| .cons rfl <| .cons rfl <| .cons rfl <| .cons rfl <| .cons rfl .nil)
    exact J18 _ (by omega) J (decide ((x2_.f6.length : Int) > 20)) _ _ hE hS H
  · rw [if_neg c13] at H
    obtain ⟨J, hE⟩ := hE.norm [(0, .agg #[.int .i64 x0_.f0, .slice A0_1 x0_.f1.length c0_1]), (1, .agg #[.int .i64 x1_.f0, .int .i64 x1_.f1, .int .i64 x1_.f2]), (2, .agg #[.int .i64 x2_.f0, .int .i64 x2_.f1, .int .i64 x2_.f2, .int .i64 x2_.f3, .int .i64 x2_.f4, .int .i64 x2_.f5, .slice A2_6 x2_.f6.length c2_6]), (3, .pointer (some ⟨b2, 0, none⟩)), (4, .pointer (some ⟨b4, 0, none⟩)), (5, .pointer (some ⟨b6, 0, none⟩)), (6, .bool false), (21, .bool true)] (.cons rfl <| .cons rfl <| .cons rfl <| .cons rfl <| .cons rfl <| .cons rfl <| .cons rfl <| .cons (Eq.trans (b := .bool (!t10)) rfl (congrArg Value.bool (congrArg not (eq_false_of_ne_true c13)))) .nil)
    refine ops_chain (S := Agr _) (.k 4 5 [(22, undef), (23, undef), (24, undef), (25, undef), (26, .bool true)] (by kernel_rfl) .nil) (rest := []) hE (Agr.refl _) (fun a hE => ?_)
    refine ops_done ?_
    obtain ⟨J, hE⟩ := hE.norm [(0, .agg #[.int .i64 x0_.f0, .slice A0_1 x0_.f1.length c0_1]), (1, .agg #[.int .i64 x1_.f0, .int .i64 x1_.f1, .int .i64 x1_.f2]), (2, .agg #[.int .i64 x2_.f0, .int .i64 x2_.f1, .int .i64 x2_.f2, .int .i64 x2_.f3, .int .i64 x2_.f4, .int .i64 x2_.f5, .slice A2_6 x2_.f6.length c2_6]), (3, .pointer (some ⟨b2, 0, none⟩)), (4, .pointer (some ⟨b4, 0, none⟩)), (5, .pointer (some ⟨b6, 0, none⟩)), (6, .bool false), (26, .bool true)] (.cons rfl <| .cons rfl <| .cons rfl <| .cons rfl <| .cons rfl <| .cons rfl <| .cons rfl <| .cons rfl .nil)
    exact J18 _ (by omega) J true _ _ hE hS H

end Go.Proofs.Ytilgmccdpddeoaa.SX
