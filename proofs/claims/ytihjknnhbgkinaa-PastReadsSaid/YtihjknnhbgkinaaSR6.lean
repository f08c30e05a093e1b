/- Functions of the program, what each computes (written by wip/s/sl.py). -/
import Derived.Test.YtihjknnhbgkinaaSR5
namespace Go.Proofs.Ytihjknnhbgkinaa.SR
open Go Go.RowKit Go.Proofs.Ytihjknnhbgkinaa.Sl
set_option linter.unusedVariables false
set_option linter.unusedSimpArgs false
/-! ### windrose/windroselaw27.PastReads: function 6 -/
def windroselaw27_PastReads.j8 : Nat → T_api_Data → Bool → Option Bool
  | 0, _, _ => none
  | k + 1, x0_, y7 => if y7 = true then ((windroselaw27_awake.f k).bind fun t16 => (some t16)) else ((past_ReadMap.f k x0_).bind fun t20 => ((windroseref27_ReadMap.f k x0_).bind fun t40 => (if t40.2 = true then (if t20.2 = 0 then ((windroseref08_Same.f k t20.1 t40.1).bind fun t70 => (if t70 = true then ((windroselaw27_awake.f k).bind fun t74 => (some t74)) else (some false))) else (some false)) else (if t20.2 = 2 then ((windroseref08_Same.f k t20.1 (⟨0, 0, 0, 0, [], [], []⟩ : T_api_Map)).bind fun t61 => (if t61 = true then ((windroselaw27_awake.f k).bind fun t65 => (some t65)) else (some false))) else (some false)))))
theorem windroselaw27_PastReads.j8_s (k : Nat) (x0_ : T_api_Data) (y7 : Bool) : windroselaw27_PastReads.j8 (k + 1) x0_ y7 = (if y7 = true then ((windroselaw27_awake.f k).bind fun t16 => (some t16)) else ((past_ReadMap.f k x0_).bind fun t20 => ((windroseref27_ReadMap.f k x0_).bind fun t40 => (if t40.2 = true then (if t20.2 = 0 then ((windroseref08_Same.f k t20.1 t40.1).bind fun t70 => (if t70 = true then ((windroselaw27_awake.f k).bind fun t74 => (some t74)) else (some false))) else (some false)) else (if t20.2 = 2 then ((windroseref08_Same.f k t20.1 (⟨0, 0, 0, 0, [], [], []⟩ : T_api_Map)).bind fun t61 => (if t61 = true then ((windroselaw27_awake.f k).bind fun t65 => (some t65)) else (some false))) else (some false)))))) := by kernel_rfl
def windroselaw27_PastReads.f (k : Nat) (x0_ : T_api_Data) : Option Bool := if (x0_.f0.length : Int) > 400 then (windroselaw27_PastReads.j8 k x0_ true) else (windroselaw27_PastReads.j8 k x0_ (decide ((x0_.f1.length : Int) > 5)))
def windroselaw27_PastReads.Post (W F : World) (r : Bool) (v : Value) (w' : World) : Prop := ∃ (F' : World), v = .bool r ∧ St W (mine W []) F w' F' []
set_option maxHeartbeats 4000000 in
set_option maxRecDepth 100000 in
theorem windroselaw27_PastReads.calls (k : Nat) (x0_ : T_api_Data) (A0_0 : Option Addr) (c0_0 : Nat) (A0_1 : Option Addr) (c0_1 : Nat) (r : Bool) (W F : World) (hown : Sub F W) (g0_0 : Rd (Kn.int .i64) F A0_0 c0_0 x0_.f0) (g0_1 : Rd Kn.string F A0_1 c0_1 x0_.f1) (H : windroselaw27_PastReads.f k x0_ = some r) :
    Calls Try.prog 6 #[.agg #[.slice A0_0 x0_.f0.length c0_0, .slice A0_1 x0_.f1.length c0_1]] W fun e w' => ∃ v, e = .returned v ∧ windroselaw27_PastReads.Post W F r v w' := by
  have hS := St.start (Own.nil hown)
  unfold windroselaw27_PastReads.f at H
  refine enter (n := 50) rfl rfl rfl (Nat.le_of_ble_eq_true rfl) (fun a hE => ?_)
  refine wp_seq_k fun K1 hK1 => ?_
  refine pl0 ?_
  refine ple hE (.bx (t := 36) hS [.slice A0_0 x0_.f0.length c0_0, .slice A0_1 x0_.f1.length c0_1]) ?_
  rintro _ u3 a ⟨b2, rfl, hb2, hS, hg⟩ hE
  refine plc hE (.r 1 1 .nil) (fun a hE => ?_)
  refine pld ?_
  refine hK1 _ _ ?_
  refine wp_seq_k fun K4 hK4 => ?_
  refine wp_seq_k fun K5 hK5 => ?_
  have J11 : ∀ kq9, kq9 ≤ k → ∀ (G : Nat → Value) (y7 : Bool) (a : Act) (w' : World), Env 50 G a → At G [(1, .pointer (some ⟨b2, 0, none⟩)), (16, .bool y7)] → St W (mine W []) F w' F [box b2 #[.slice A0_0 x0_.f0.length c0_0, .slice A0_1 x0_.f1.length c0_1] 36] → windroselaw27_PastReads.j8 kq9 x0_ y7 = some r → K5 a w' := by
    intro kq9 hkq G y7 a u12 hE hA hS H
    cases kq9 with
    | zero => cases (show none = some r from H)
    | succ k10 =>
      rw [windroselaw27_PastReads.j8_s] at H
      obtain ⟨J, hE⟩ := hE.at hA
      refine hK5 _ _ ?_
      by_cases c13 : y7 = true
      · rw [if_pos c13] at H
        replace hE := hE.bt 16 c13
        refine ct hE ?_
        refine wp_seq_k fun K14 hK14 => ?_
        refine pl0 ?_
        obtain ⟨t16, h17, H⟩ := Option.bind_eq_some_iff.mp H
        refine ple hE (.cl en16 (windroselaw27_awake.calls k10 _ _ _ hS.own.sub h17)) ?_
        rintro _ u15 a ⟨_, rfl, hC⟩ hE
        replace hS := hS.lent hC
        refine plc hE (.r 1 1 .nil) (fun a hE => ?_)
        refine pld ?_
        refine hK14 _ _ ?_
        refine wp_ret (then_ret ?_)
        replace hS := hS.tail
        obtain rfl := Option.some.inj H
        exact rt1 hE ⟨_, rfl, _, rfl, hS⟩
      · rw [if_neg c13] at H
        replace hE := hE.bf 16 c13
        refine cf hE ?_
        refine wp_skip ?_
        refine hK4 _ _ ?_
        refine wp_seq_k fun K18 hK18 => ?_
        refine pl0 ?_
        have hb2 := hS.blk_at (i := 0) rfl
        refine plc hE (.bn 0 0 2 hb2 .nil) (fun a hE => ?_)
        obtain ⟨t20, h21, H⟩ := Option.bind_eq_some_iff.mp H
        refine ple hE (.cl en28 (past_ReadMap.calls k10 x0_ _ _ _ _ _ _ _ hS.own.sub g0_0 g0_1 h21)) ?_
        rintro _ u19 a ⟨F22, A23, c24, A27, c28, A31, c32, rfl, hC⟩ hE
        have hs := hC.sub
        replace hS := hS.called (X := []) hC
        replace g0_0 := g0_0.mono hs
        replace g0_1 := g0_1.mono hs
        refine plc hE (.r 2 3 .nil) (fun a hE => ?_)
        refine ple hE (.al (t := 78) hS [.int .i64 0, .int .i64 0, .int .i64 0, .int .i64 0, .slice none 0 0, .slice none 0 0, .slice none 0 0]) ?_
        rintro _ u36 a ⟨b35, rfl, hb35, hS, hg⟩ hE
        refine ple hE (.sto hS [.int .i64 t20.1.f0, .int .i64 t20.1.f1, .int .i64 t20.1.f2, .int .i64 t20.1.f3, .slice A23 t20.1.f4.length c24, .slice A27 t20.1.f5.length c28, .slice A31 t20.1.f6.length c32]) ?_
        rintro _ u37 a ⟨rfl, hb35, hS, hz⟩ hE
        refine plc hE (.r 7 1 .nil) (fun a hE => ?_)
        refine pld ?_
        refine hK18 _ _ ?_
        refine wp_seq_k fun K38 hK38 => ?_
        refine pl0 ?_
        have hb2 := hS.blk_at (i := 4) rfl
        refine plc hE (.bn 0 0 2 hb2 .nil) (fun a hE => ?_)
        obtain ⟨t40, h41, H⟩ := Option.bind_eq_some_iff.mp H
        refine ple hE (.cl en29 (windroseref27_ReadMap.calls k10 x0_ _ _ _ _ _ _ _ hS.own.sub g0_0 g0_1 h41)) ?_
        rintro _ u39 a ⟨F42, A43, c44, A46, c47, A49, c50, rfl, hC, g45, g48, g51⟩ hE
        have hs := hC.sub
        replace hS := hS.called (X := []) hC
        replace g0_0 := g0_0.mono hs
        replace g0_1 := g0_1.mono hs
        refine plc hE (.r 2 3 .nil) (fun a hE => ?_)
        refine ple hE (.al (t := 78) hS [.int .i64 0, .int .i64 0, .int .i64 0, .int .i64 0, .slice none 0 0, .slice none 0 0, .slice none 0 0]) ?_
        rintro _ u53 a ⟨b52, rfl, hb52, hS, hg⟩ hE
        refine ple hE (.sto hS [.int .i64 t40.1.f0, .int .i64 t40.1.f1, .int .i64 t40.1.f2, .int .i64 t40.1.f3, .slice A43 t40.1.f4.length c44, .slice A46 t40.1.f5.length c47, .slice A49 t40.1.f6.length c50]) ?_
        rintro _ u54 a ⟨rfl, hb52, hS, hz⟩ hE
        refine plc hE (.r 7 1 .nil) (fun a hE => ?_)
        refine pld ?_
        refine hK38 _ _ ?_
        refine wp_seq_k fun K55 hK55 => ?_
        refine wp_seq_k fun K56 hK56 => ?_
        refine pl0 ?_
        refine plc hE (.r 0 2 .nil) (fun a hE => ?_)
        refine pld ?_
        refine hK56 _ _ ?_
        by_cases c57 : t40.2 = true
        · rw [if_pos c57] at H
          replace hE := hE.btn 29 c57
          refine cf hE ?_
          refine wp_skip ?_
          refine hK55 _ _ ?_
          refine wp_seq_k fun K67 hK67 => ?_
          refine pl0 ?_
          refine plc hE (.r 0 3 .nil) (fun a hE => ?_)
          by_cases c68 : t20.2 = 0
          · rw [if_pos c68] at H
            replace hE := hE.kt 42 c68
            have hb35 := hS.blk_at (i := 1) rfl
            refine plc hE (.bn 3 0 7 hb35 <| .bn 4 0 7 hb52 <| .nil) (fun a hE => ?_)
            obtain ⟨t70, h71, H⟩ := Option.bind_eq_some_iff.mp H
            refine ple hE (.cl en30 (windroseref08_Same.calls k10 t20.1 t40.1 _ _ _ _ _ _ _ _ _ _ _ _ _ _ _ (Sub.refl _) (hS.rd_at (i := 2) rfl) (hS.rd_at (i := 3) rfl) (hS.rd_at (i := 4) rfl) (g45.mono hS.own.sub) (g48.mono hS.own.sub) (g51.mono hS.own.sub) h71)) ?_
            rintro _ u69 a ⟨_, rfl, hC⟩ hE
            replace hS := hS.lent hC
            refine plc hE (.r 6 2 .nil) (fun a hE => ?_)
            by_cases c72 : t70 = true
            · rw [if_pos c72] at H
              replace hE := hE.bt 47 c72
              obtain ⟨t74, h75, H⟩ := Option.bind_eq_some_iff.mp H
              refine ple hE (.cl en16 (windroselaw27_awake.calls k10 _ _ _ hS.own.sub h75)) ?_
              rintro _ u73 a ⟨_, rfl, hC⟩ hE
              replace hS := hS.lent hC
              refine plc hE (.r 9 2 .nil) (fun a hE => ?_)
              refine pld ?_
              refine hK67 _ _ ?_
              refine wp_ret ?_
              replace hS := hS.tail
              replace hS := hS.tail
              replace hS := hS.tail
              replace hS := hS.tail
              replace hS := hS.tail
              replace hS := hS.tail
              obtain rfl := Option.some.inj H
              exact rt1 hE ⟨_, rfl, _, rfl, hS⟩
            · rw [if_neg c72] at H
              replace hE := hE.bf 47 c72
              refine plc hE (.r 8 3 .nil) (fun a hE => ?_)
              refine pld ?_
              refine hK67 _ _ ?_
              refine wp_ret ?_
              replace hS := hS.tail
              replace hS := hS.tail
              replace hS := hS.tail
              replace hS := hS.tail
              replace hS := hS.tail
              replace hS := hS.tail
              obtain rfl := Option.some.inj H
              exact rt1 hE ⟨_, rfl, _, rfl, hS⟩
          · rw [if_neg c68] at H
            replace hE := hE.kf 42 c68
            refine plc hE (.r 3 8 .nil) (fun a hE => ?_)
            refine pld ?_
            refine hK67 _ _ ?_
            refine wp_ret ?_
            replace hS := hS.tail
            replace hS := hS.tail
            replace hS := hS.tail
            replace hS := hS.tail
            replace hS := hS.tail
            replace hS := hS.tail
            obtain rfl := Option.some.inj H
            exact rt1 hE ⟨_, rfl, _, rfl, hS⟩
        · rw [if_neg c57] at H
          replace hE := hE.bfn 29 c57
          refine ct hE ?_
          refine wp_seq_k fun K58 hK58 => ?_
          refine pl0 ?_
          refine plc hE (.r 0 3 .nil) (fun a hE => ?_)
          by_cases c59 : t20.2 = 2
          · rw [if_pos c59] at H
            replace hE := hE.kt 32 c59
            have hb35 := hS.blk_at (i := 1) rfl
            refine plc hE (.bn 3 0 7 hb35 <| .r 4 1 <| .nil) (fun a hE => ?_)
            obtain ⟨t61, h62, H⟩ := Option.bind_eq_some_iff.mp H
            refine ple hE (.cl en30 (windroseref08_Same.calls k10 t20.1 (⟨0, 0, 0, 0, [], [], []⟩ : T_api_Map) _ _ _ _ _ _ _ _ _ _ _ _ _ _ _ (Sub.refl _) (hS.rd_at (i := 2) rfl) (hS.rd_at (i := 3) rfl) (hS.rd_at (i := 4) rfl) (Rd.nil _ _) (Rd.nil _ _) (Rd.nil _ _) h62)) ?_
            rintro _ u60 a ⟨_, rfl, hC⟩ hE
            replace hS := hS.lent hC
            refine plc hE (.r 6 2 .nil) (fun a hE => ?_)
            by_cases c63 : t61 = true
            · rw [if_pos c63] at H
              replace hE := hE.bt 37 c63
              obtain ⟨t65, h66, H⟩ := Option.bind_eq_some_iff.mp H
              refine ple hE (.cl en16 (windroselaw27_awake.calls k10 _ _ _ hS.own.sub h66)) ?_
              rintro _ u64 a ⟨_, rfl, hC⟩ hE
              replace hS := hS.lent hC
              refine plc hE (.r 9 2 .nil) (fun a hE => ?_)
              refine pld ?_
              refine hK58 _ _ ?_
              refine wp_ret (then_ret ?_)
              replace hS := hS.tail
              replace hS := hS.tail
              replace hS := hS.tail
              replace hS := hS.tail
              replace hS := hS.tail
              replace hS := hS.tail
              obtain rfl := Option.some.inj H
              exact rt1 hE ⟨_, rfl, _, rfl, hS⟩
            · rw [if_neg c63] at H
              replace hE := hE.bf 37 c63
              refine plc hE (.r 8 3 .nil) (fun a hE => ?_)
              refine pld ?_
              refine hK58 _ _ ?_
              refine wp_ret (then_ret ?_)
              replace hS := hS.tail
              replace hS := hS.tail
              replace hS := hS.tail
              replace hS := hS.tail
              replace hS := hS.tail
              replace hS := hS.tail
              obtain rfl := Option.some.inj H
              exact rt1 hE ⟨_, rfl, _, rfl, hS⟩
          · rw [if_neg c59] at H
            replace hE := hE.kf 32 c59
            refine plc hE (.r 3 8 .nil) (fun a hE => ?_)
            refine pld ?_
            refine hK58 _ _ ?_
            refine wp_ret (then_ret ?_)
            replace hS := hS.tail
            replace hS := hS.tail
            replace hS := hS.tail
            replace hS := hS.tail
            replace hS := hS.tail
            replace hS := hS.tail
            obtain rfl := Option.some.inj H
            exact rt1 hE ⟨_, rfl, _, rfl, hS⟩
  refine pl0 ?_
  refine plc hE (.r 0 1 <| .b 1 0 hb2 <| .r 2 3 <| .nil) (fun a hE => ?_)
  by_cases c6 : (x0_.f0.length : Int) > 400
  · rw [if_pos c6] at H
    replace hE := hE.kt 11 c6
    refine plc hE (.r 5 5 .nil) (fun a hE => ?_)
    refine pld ?_
    exact J11 _ (by omega) _ true _ _ hE .of hS H
  · rw [if_neg c6] at H
    replace hE := hE.kf 11 c6
    refine plc hE (.r 5 1 <| .b 6 1 hb2 <| .r 7 3 <| .nil) (fun a hE => ?_)
    refine pld ?_
    exact J11 _ (by omega) _ (decide ((x0_.f1.length : Int) > 5)) _ _ hE .of hS H

end Go.Proofs.Ytihjknnhbgkinaa.SR
