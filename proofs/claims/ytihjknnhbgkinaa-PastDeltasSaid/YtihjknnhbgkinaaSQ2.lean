/- Functions of the program, what each computes (written by wip/s/sl.py). -/
import Derived.Test.YtihjknnhbgkinaaSQ1
namespace Go.Proofs.Ytihjknnhbgkinaa.SQ
open Go Go.RowKit Go.Proofs.Ytihjknnhbgkinaa.Sl
set_option linter.unusedVariables false
set_option linter.unusedSimpArgs false
/-! ### windrose/windroseref02.Strings: function 59 -/
def windroseref02_Strings.l9 : Nat → List ByteArray → List ByteArray → Int → Option Bool
  | 0, _, _, _ => none
  | k + 1, x0_, x1_, x8 => if x8 < (x0_.length : Int) then (if 0 ≤ x8 ∧ x8 < (x0_.length : Int) then (if 0 ≤ x8 ∧ x8 < (x1_.length : Int) then (if (nth ByteArray.empty x0_ x8).toList = (nth ByteArray.empty x1_ x8).toList then (windroseref02_Strings.l9 k x0_ x1_ (w64 (x8 + 1))) else (some false)) else (none)) else (none)) else (some true)
theorem windroseref02_Strings.l9_s (k : Nat) (x0_ : List ByteArray) (x1_ : List ByteArray) (x8 : Int) : windroseref02_Strings.l9 (k + 1) x0_ x1_ x8 = (if x8 < (x0_.length : Int) then (if 0 ≤ x8 ∧ x8 < (x0_.length : Int) then (if 0 ≤ x8 ∧ x8 < (x1_.length : Int) then (if (nth ByteArray.empty x0_ x8).toList = (nth ByteArray.empty x1_ x8).toList then (windroseref02_Strings.l9 k x0_ x1_ (w64 (x8 + 1))) else (some false)) else (none)) else (none)) else (some true)) := by kernel_rfl
def windroseref02_Strings.f (k : Nat) (x0_ : List ByteArray) (x1_ : List ByteArray) : Option Bool := if (x0_.length : Int) = (x1_.length : Int) then (windroseref02_Strings.l9 k x0_ x1_ 0) else (some false)
def windroseref02_Strings.Post (W F : World) (r : Bool) (v : Value) (w' : World) : Prop := ∃ (F' : World), v = .bool r ∧ St W (mine W []) F w' F' []
set_option maxHeartbeats 4000000 in
set_option maxRecDepth 100000 in
theorem windroseref02_Strings.calls (k : Nat) (x0_ : List ByteArray) (x1_ : List ByteArray) (A0_0 : Option Addr) (c0_0 : Nat) (A1_0 : Option Addr) (c1_0 : Nat) (r : Bool) (W F : World) (hown : Sub F W) (g0_0 : Rd Kn.string F A0_0 c0_0 x0_) (g1_0 : Rd Kn.string F A1_0 c1_0 x1_) (H : windroseref02_Strings.f k x0_ x1_ = some r) :
    Calls Try.prog 59 #[.slice A0_0 x0_.length c0_0, .slice A1_0 x1_.length c1_0] W fun e w' => ∃ v, e = .returned v ∧ windroseref02_Strings.Post W F r v w' := by
  have hS := St.start (Own.nil hown)
  unfold windroseref02_Strings.f at H
  refine enter (n := 26) rfl rfl rfl (Nat.le_of_ble_eq_true rfl) (fun a hE => ?_)
  refine wp_seq_k fun K1 hK1 => ?_
  refine pl0 ?_
  refine plc hE (.r 0 1 .nil) (fun a hE => ?_)
  refine pld ?_
  refine hK1 _ _ ?_
  refine wp_seq_k fun K2 hK2 => ?_
  refine wp_seq_k fun K3 hK3 => ?_
  refine pl0 ?_
  refine plc hE (.r 0 5 .nil) (fun a hE => ?_)
  refine pld ?_
  refine hK3 _ _ ?_
  by_cases c4 : (x0_.length : Int) = (x1_.length : Int)
  · rw [if_pos c4] at H
    replace hE := hE.ktn 10 c4
    refine cf hE ?_
    refine wp_skip ?_
    refine hK2 _ _ ?_
    refine wp_seq_k fun K6 hK6 => ?_
    refine wp_seq_k fun K7 hK7 => ?_
    refine pl0 ?_
    refine plc hE (.r 0 1 .nil) (fun a hE => ?_)
    refine pld ?_
    refine hK7 _ _ ?_
    refine wp_block ?_
    refine wp_loop_ghost (fun kq10 a w' => ∃ (G : Nat → Value) (x8 : Int), Env 26 G a ∧ At G [(0, .slice A0_0 x0_.length c0_0), (1, .slice A1_0 x1_.length c1_0), (5, .int .i64 x8)] ∧ St W (mine W []) F w' F [] ∧  windroseref02_Strings.l9 kq10 x0_ x1_ x8 = some r) k ⟨_, 0, hE, .of, hS, H⟩ ?_
    rintro kq10 a u12 ⟨G, x8, hE, hA, hS, H⟩
    cases kq10 with
    | zero => cases (show none = some r from H)
    | succ k11 =>
      rw [windroseref02_Strings.l9_s] at H
      obtain ⟨J, hE⟩ := hE.at hA
      refine wp_seq_k fun K13 hK13 => ?_
      refine wp_seq_k fun K14 hK14 => ?_
      refine pl0 ?_
      refine plc hE (.r 0 4 .nil) (fun a hE => ?_)
      refine pld ?_
      refine hK14 _ _ ?_
      by_cases c15 : x8 < (x0_.length : Int)
      · rw [if_pos c15] at H
        replace hE := hE.kt 14 c15
        refine ct hE ?_
        refine wp_skip ?_
        refine hK13 _ _ ?_
        refine wp_seq_k fun K16 hK16 => ?_
        refine wp_block ?_
        refine wp_seq_k fun K17 hK17 => ?_
        refine drawn 9 [] mixed rfl (by kernel_rfl) (fun hst => ?_)
        replace hS := hS.drew
        by_cases c18 : 0 ≤ x8 ∧ x8 < (x0_.length : Int)
        rotate_left
        · rw [if_neg c18] at H; cases H
        rw [if_pos c18] at H
        obtain ⟨ad19, rfl⟩ := g0_0.addr c18.1 c18.2
        obtain ⟨cs21, rfl, hc22⟩ := g0_0.el ByteArray.empty x8 c18.1 c18.2
        by_cases c23 : 0 ≤ x8 ∧ x8 < (x1_.length : Int)
        rotate_left
        · rw [if_neg c23] at H; cases H
        rw [if_pos c23] at H
        obtain ⟨ad24, rfl⟩ := g1_0.addr c23.1 c23.2
        obtain ⟨cs26, rfl, hc27⟩ := g1_0.el ByteArray.empty x8 c23.1 c23.2
        refine mny hst hE (.r 0 2 <| .x 2 c18 <| .c 3 (hS.fc hc22 0) <| .r 4 2 <| .x 6 c23 <| .c 7 (hS.fc hc27 0) <| .r 8 1 <| .nil) (fun a hE => ?_)
        refine dn ?_
        refine hK17 _ _ ?_
        by_cases c28 : (nth ByteArray.empty x0_ x8).toList = (nth ByteArray.empty x1_ x8).toList
        · rw [if_pos c28] at H
          replace hE := hE.etn 25 c28
          refine cf hE ?_
          refine wp_skip ?_
          refine hK16 _ _ ?_
          refine pl0 ?_
          refine plc hE (.r 0 3 .nil) (fun a hE => ?_)
          refine pld ?_
          exact then_n ⟨k11, by omega, _, (w64 (x8 + 1)), hE, .of, hS, H⟩
        · rw [if_neg c28] at H
          replace hE := hE.efn 25 c28
          refine ct hE ?_
          refine wp_seq_k fun K29 hK29 => ?_
          refine pl0 ?_
          refine plc hE (.r 0 1 .nil) (fun a hE => ?_)
          refine pld ?_
          refine hK29 _ _ ?_
          refine wp_ret (block_ret (then_ret (then_ret (block_ret (then_ret ?_)))))
          obtain rfl := Option.some.inj H
          exact rt1 hE ⟨_, rfl, _, rfl, hS⟩
      · rw [if_neg c15] at H
        replace hE := hE.kf 14 c15
        refine cf hE ?_
        refine wp_exit ?_
        refine hK6 _ _ ?_
        refine wp_seq_k fun K30 hK30 => ?_
        refine pl0 ?_
        refine plc hE (.r 0 1 .nil) (fun a hE => ?_)
        refine pld ?_
        refine hK30 _ _ ?_
        refine wp_ret ?_
        obtain rfl := Option.some.inj H
        exact rt1 hE ⟨_, rfl, _, rfl, hS⟩
  · rw [if_neg c4] at H
    replace hE := hE.kfn 10 c4
    refine ct hE ?_
    refine wp_seq_k fun K5 hK5 => ?_
    refine pl0 ?_
    refine plc hE (.r 0 1 .nil) (fun a hE => ?_)
    refine pld ?_
    refine hK5 _ _ ?_
    refine wp_ret (then_ret ?_)
    obtain rfl := Option.some.inj H
    exact rt1 hE ⟨_, rfl, _, rfl, hS⟩

/-! ### windrose/windroseref02.Same: function 22 -/
def windroseref02_Same.f (k : Nat) (x0_ : T_api_Data) (x1_ : T_api_Data) : Option Bool := (windroseref02_Ints.f k x0_.f0 x1_.f0).bind fun t8 => (if t8 = true then ((windroseref02_Strings.f k x0_.f1 x1_.f1).bind fun t12 => (some t12)) else (some false))
def windroseref02_Same.Post (W F : World) (r : Bool) (v : Value) (w' : World) : Prop := ∃ (F' : World), v = .bool r ∧ St W (mine W []) F w' F' []
set_option maxHeartbeats 4000000 in
set_option maxRecDepth 100000 in
theorem windroseref02_Same.calls (k : Nat) (x0_ : T_api_Data) (x1_ : T_api_Data) (A0_0 : Option Addr) (c0_0 : Nat) (A0_1 : Option Addr) (c0_1 : Nat) (A1_0 : Option Addr) (c1_0 : Nat) (A1_1 : Option Addr) (c1_1 : Nat) (r : Bool) (W F : World) (hown : Sub F W) (g0_0 : Rd (Kn.int .i64) F A0_0 c0_0 x0_.f0) (g0_1 : Rd Kn.string F A0_1 c0_1 x0_.f1) (g1_0 : Rd (Kn.int .i64) F A1_0 c1_0 x1_.f0) (g1_1 : Rd Kn.string F A1_1 c1_1 x1_.f1) (H : windroseref02_Same.f k x0_ x1_ = some r) :
    Calls Try.prog 22 #[.agg #[.slice A0_0 x0_.f0.length c0_0, .slice A0_1 x0_.f1.length c0_1], .agg #[.slice A1_0 x1_.f0.length c1_0, .slice A1_1 x1_.f1.length c1_1]] W fun e w' => ∃ v, e = .returned v ∧ windroseref02_Same.Post W F r v w' := by
  have hS := St.start (Own.nil hown)
  unfold windroseref02_Same.f at H
  refine enter (n := 17) rfl rfl rfl (Nat.le_of_ble_eq_true rfl) (fun a hE => ?_)
  refine wp_seq_k fun K1 hK1 => ?_
  refine pl0 ?_
  refine ple hE (.bx (t := 36) hS [.slice A0_0 x0_.f0.length c0_0, .slice A0_1 x0_.f1.length c0_1]) ?_
  rintro _ u3 a ⟨b2, rfl, hb2, hS, hg⟩ hE
  refine ple hE (.bx (t := 36) hS [.slice A1_0 x1_.f0.length c1_0, .slice A1_1 x1_.f1.length c1_1]) ?_
  rintro _ u5 a ⟨b4, rfl, hb4, hS, hg⟩ hE
  refine plc hE (.r 2 1 .nil) (fun a hE => ?_)
  refine pld ?_
  refine hK1 _ _ ?_
  refine wp_seq_k fun K6 hK6 => ?_
  refine pl0 ?_
  have hb2 := hS.blk_at (i := 1) rfl
  refine plc hE (.r 0 1 <| .b 1 0 hb2 <| .r 2 1 <| .b 3 0 hb4 <| .nil) (fun a hE => ?_)
  obtain ⟨t8, h9, H⟩ := Option.bind_eq_some_iff.mp H
  refine ple hE (.cl en44 (windroseref02_Ints.calls k x0_.f0 x1_.f0 _ _ _ _ _ _ _ hS.own.sub g0_0 g1_0 h9)) ?_
  rintro _ u7 a ⟨_, rfl, hC⟩ hE
  replace hS := hS.lent hC
  refine plc hE (.r 5 1 .nil) (fun a hE => ?_)
  by_cases c10 : t8 = true
  · rw [if_pos c10] at H
    replace hE := hE.bt 10 c10
    have hb2 := hS.blk_at (i := 1) rfl
    have hb4 := hS.blk_at (i := 0) rfl
    refine plc hE (.r 6 1 <| .b 7 1 hb2 <| .r 8 1 <| .b 9 1 hb4 <| .nil) (fun a hE => ?_)
    obtain ⟨t12, h13, H⟩ := Option.bind_eq_some_iff.mp H
    refine ple hE (.cl en59 (windroseref02_Strings.calls k x0_.f1 x1_.f1 _ _ _ _ _ _ _ hS.own.sub g0_1 g1_1 h13)) ?_
    rintro _ u11 a ⟨_, rfl, hC⟩ hE
    replace hS := hS.lent hC
    refine plc hE (.r 11 2 .nil) (fun a hE => ?_)
    refine pld ?_
    refine hK6 _ _ ?_
    refine wp_ret ?_
    replace hS := hS.tail
    replace hS := hS.tail
    obtain rfl := Option.some.inj H
    exact rt1 hE ⟨_, rfl, _, rfl, hS⟩
  · rw [if_neg c10] at H
    replace hE := hE.bf 10 c10
    refine plc hE (.r 6 7 .nil) (fun a hE => ?_)
    refine pld ?_
    refine hK6 _ _ ?_
    refine wp_ret ?_
    replace hS := hS.tail
    replace hS := hS.tail
    obtain rfl := Option.some.inj H
    exact rt1 hE ⟨_, rfl, _, rfl, hS⟩

/-! ### windrose/windroseref27.list: function 60 -/
def windroseref27_list.f (x0_ : List Int) : Option (List Int) := if (([(x0_.length : Int)].length : Int) + (x0_.length : Int)) * 8 ≤ 140737488355328 then (some ([(x0_.length : Int)] ++ x0_)) else (none)
def windroseref27_list.Post (W F : World) (r : List Int) (v : Value) (w' : World) : Prop := ∃ (F' : World) (RA0_0 : Option Addr) (rc0_0 : Nat), v = .slice RA0_0 r.length rc0_0 ∧ St W (mine W []) F w' F' [row (Kn.int .i64) 3 (.slice RA0_0 r.length rc0_0) r]
set_option maxHeartbeats 4000000 in
set_option maxRecDepth 100000 in
theorem windroseref27_list.calls (x0_ : List Int) (A0_0 : Option Addr) (c0_0 : Nat) (r : List Int) (W F : World) (hown : Sub F W) (g0_0 : Rd (Kn.int .i64) F A0_0 c0_0 x0_) (H : windroseref27_list.f x0_ = some r) :
    Calls Try.prog 60 #[.slice A0_0 x0_.length c0_0] W fun e w' => ∃ v, e = .returned v ∧ windroseref27_list.Post W F r v w' := by
  have hS := St.start (Own.nil hown)
  unfold windroseref27_list.f at H
  refine enter (n := 8) rfl rfl rfl (Nat.le_of_ble_eq_true rfl) (fun a hE => ?_)
  refine wp_seq_k fun K1 hK1 => ?_
  refine pl0 ?_
  refine plc hE (.r 0 1 .nil) (fun a hE => ?_)
  refine pld ?_
  refine hK1 _ _ ?_
  refine wp_seq_k fun K2 hK2 => ?_
  refine pl0 ?_
  refine plc hE (.r 0 2 .nil) (fun a hE => ?_)
  refine ple hE (.lit (d := (Kn.int .i64)) (e := 3) hS [(x0_.length : Int)] (.cons rfl .nil)) ?_
  rintro _ u3 a ⟨A4, c5, rfl, hS, hg⟩ hE
  refine plc hE (.r 3 1 .nil) (fun a hE => ?_)
  by_cases c7 : (([(x0_.length : Int)].length : Int) + (x0_.length : Int)) * 8 ≤ 140737488355328
  rotate_left
  · rw [if_neg c7] at H; cases H
  rw [if_pos c7] at H
  refine ple hE (.ap (d := (Kn.int .i64)) 8 hS (g0_0.src hS.own.sub) c7 c0_0) ?_
  rintro _ u10 a ⟨A8, c9, rfl, hS, hz⟩ hE
  refine plc hE (.r 5 1 .nil) (fun a hE => ?_)
  refine pld ?_
  refine hK2 _ _ ?_
  refine wp_ret ?_
  obtain rfl := Option.some.inj H
  exact rt1 hE ⟨_, rfl, _, _, _, rfl, hS⟩

/-! ### windrose/windroseref27.Delta: function 23 -/
def windroseref27_Delta.f (x0_ : T_api_Delta) : Option T_api_Data := (windroseref27_list.f x0_.f6).bind fun t7 => (if (([x0_.f0, x0_.f1, x0_.f2, x0_.f3, x0_.f4, x0_.f5].length : Int) + (t7.length : Int)) * 8 ≤ 140737488355328 then (some (⟨([x0_.f0, x0_.f1, x0_.f2, x0_.f3, x0_.f4, x0_.f5] ++ t7), []⟩ : T_api_Data)) else (none))
def windroseref27_Delta.Post (W F : World) (r : T_api_Data) (v : Value) (w' : World) : Prop := ∃ (F' : World) (RA0_0 : Option Addr) (rc0_0 : Nat) (RA0_1 : Option Addr) (rc0_1 : Nat), v = .agg #[.slice RA0_0 r.f0.length rc0_0, .slice RA0_1 r.f1.length rc0_1] ∧ St W (mine W []) F w' F' [row (Kn.int .i64) 3 (.slice RA0_0 r.f0.length rc0_0) r.f0] ∧ Rd Kn.string F' RA0_1 rc0_1 r.f1
set_option maxHeartbeats 4000000 in
set_option maxRecDepth 100000 in
theorem windroseref27_Delta.calls (x0_ : T_api_Delta) (A0_6 : Option Addr) (c0_6 : Nat) (r : T_api_Data) (W F : World) (hown : Sub F W) (g0_6 : Rd (Kn.int .i64) F A0_6 c0_6 x0_.f6) (H : windroseref27_Delta.f x0_ = some r) :
    Calls Try.prog 23 #[.agg #[.int .i64 x0_.f0, .int .i64 x0_.f1, .int .i64 x0_.f2, .int .i64 x0_.f3, .int .i64 x0_.f4, .int .i64 x0_.f5, .slice A0_6 x0_.f6.length c0_6]] W fun e w' => ∃ v, e = .returned v ∧ windroseref27_Delta.Post W F r v w' := by
  have hS := St.start (Own.nil hown)
  unfold windroseref27_Delta.f at H
  refine enter (n := 21) rfl rfl rfl (Nat.le_of_ble_eq_true rfl) (fun a hE => ?_)
  refine wp_seq_k fun K1 hK1 => ?_
  refine pl0 ?_
  refine ple hE (.bx (t := 33) hS [.int .i64 x0_.f0, .int .i64 x0_.f1, .int .i64 x0_.f2, .int .i64 x0_.f3, .int .i64 x0_.f4, .int .i64 x0_.f5, .slice A0_6 x0_.f6.length c0_6]) ?_
  rintro _ u3 a ⟨b2, rfl, hb2, hS, hg⟩ hE
  refine ple hE (.al (t := 36) hS [.slice none 0 0, .slice none 0 0]) ?_
  rintro _ u5 a ⟨b4, rfl, hb4, hS, hg⟩ hE
  refine pld ?_
  refine hK1 _ _ ?_
  refine wp_seq_k fun K6 hK6 => ?_
  refine drawn 19 [16, 18] mixed rfl (by kernel_rfl) (fun hst => ?_)
  replace hS := hS.drew
  have hb2 := hS.blk_at (i := 1) rfl
  refine mny hst hE (.r 0 1 <| .b 1 0 hb2 <| .r 2 1 <| .b 3 1 hb2 <| .r 4 1 <| .b 5 2 hb2 <| .r 6 1 <| .b 7 3 hb2 <| .r 8 1 <| .b 9 4 hb2 <| .r 10 1 <| .b 11 5 hb2 <| .r 13 1 <| .b 14 6 hb2 <| .nil) (fun a hE => ?_)
  obtain ⟨t7, h8, H⟩ := Option.bind_eq_some_iff.mp H
  refine meet2 (fun a w' => ∃ (G : Nat → Value) (A15 : Option Addr) (c16 : Nat) (A10 : Option Addr) (c11 : Nat) (F20 : World), Env 21 G a ∧ At G [(2, .pointer (some ⟨b4, 0, none⟩)), (15, .slice A10 ([x0_.f0, x0_.f1, x0_.f2, x0_.f3, x0_.f4, x0_.f5].length) c11), (18, .slice A15 t7.length c16)] ∧ St W (mine W []) F w' F20 [box b4 #[.slice none 0 0, .slice none 0 0] 36, box b2 #[.int .i64 x0_.f0, .int .i64 x0_.f1, .int .i64 x0_.f2, .int .i64 x0_.f3, .int .i64 x0_.f4, .int .i64 x0_.f5, .slice A0_6 x0_.f6.length c0_6] 33, row (Kn.int .i64) 3 (.slice A15 t7.length c16) t7, row (Kn.int .i64) 3 (.slice A10 ([x0_.f0, x0_.f1, x0_.f2, x0_.f3, x0_.f4, x0_.f5].length) c11) [x0_.f0, x0_.f1, x0_.f2, x0_.f3, x0_.f4, x0_.f5]] ∧ Rd (Kn.int .i64) F20 A0_6 c0_6 x0_.f6) 3 65535 ?_ (fun hJ => ?_)
  · rintro a u21 ⟨G, A15, c16, A10, c11, F20, hE, hA, hS, g0_6⟩
    obtain ⟨J, hE⟩ := hE.at hA
    by_cases c22 : (([x0_.f0, x0_.f1, x0_.f2, x0_.f3, x0_.f4, x0_.f5].length : Int) + (t7.length : Int)) * 8 ≤ 140737488355328
    rotate_left
    · rw [if_neg c22] at H; cases H
    rw [if_pos c22] at H
    replace hS := hS.front 3 rfl
    refine on1 16 hE (.ap (d := (Kn.int .i64)) 8 hS (row_src (hS.row_at (i := 3) rfl)) c22 c16) ?_
    rintro _ u25 a ⟨A23, c24, rfl, hS, hz⟩ hE
    refine ⟨fun h => absurd (by decide) h, ?_⟩
    refine mny hst hE (.r 17 1 .nil) (fun a hE => ?_)
    replace hS := hS.front 1 rfl
    refine on1 18 hE (.sto hS [.slice A23 (([x0_.f0, x0_.f1, x0_.f2, x0_.f3, x0_.f4, x0_.f5] ++ t7).length) c24, .slice none 0 0]) ?_
    rintro _ u26 a ⟨rfl, hb4, hS, hz⟩ hE
    refine ⟨fun h => absurd (by decide) h, ?_⟩
    refine dn ?_
    refine hK6 _ _ ?_
    refine wp_ret ?_
    replace hS := hS.tail
    replace hS := hS.front 1 rfl
    replace hS := hS.tail
    replace hS := hS.front 1 rfl
    replace hS := hS.tail
    obtain rfl := Option.some.inj H
    exact ret1 hE rfl (.cell (by kernel_rfl) (res_blk [.slice A23 (([x0_.f0, x0_.f1, x0_.f2, x0_.f3, x0_.f4, x0_.f5] ++ t7).length) c24, .slice none 0 0] ag36 sz36 hb4 rfl) .nil) ⟨_, rfl, _, _, _, _, _, rfl, hS, (Rd.nil _ _)⟩
  · refine pk2 12 15 ?_ ?_
    · skip
      refine pk1 12 hE (.lit (d := (Kn.int .i64)) (e := 3) hS [x0_.f0, x0_.f1, x0_.f2, x0_.f3, x0_.f4, x0_.f5] (.cons rfl <| .cons rfl <| .cons rfl <| .cons rfl <| .cons rfl <| .cons rfl .nil)) ?_
      rintro _ u9 a ⟨A10, c11, rfl, hS, hg⟩ hE
      refine ⟨fun _ => hg, ?_⟩
      refine on1 15 hE (.cl en60 (windroseref27_list.calls x0_.f6 _ _ _ _ _ hS.own.sub g0_6 h8)) ?_
      rintro _ u13 a ⟨F14, A15, c16, rfl, hC⟩ hE
      refine ⟨fun _ => hC.agr, ?_⟩
      have hs := hC.sub
      replace hS := hS.called (X := []) hC
      replace g0_6 := g0_6.mono hs
      replace hS := hS.front 1 rfl
      replace hS := hS.front 1 rfl
      replace hS := hS.front 3 rfl
      replace hS := hS.front 3 rfl
      exact hJ _ _ ⟨_, A15, c16, A10, c11, F14, hE, .of, hS, g0_6⟩
    · skip
      refine pk1 15 hE (.cl en60 (windroseref27_list.calls x0_.f6 _ _ _ _ _ hS.own.sub g0_6 h8)) ?_
      rintro _ u13 a ⟨F14, A15, c16, rfl, hC⟩ hE
      refine ⟨fun _ => hC.agr, ?_⟩
      have hs := hC.sub
      replace hS := hS.called (X := []) hC
      replace g0_6 := g0_6.mono hs
      refine on1 12 hE (.lit (d := (Kn.int .i64)) (e := 3) hS [x0_.f0, x0_.f1, x0_.f2, x0_.f3, x0_.f4, x0_.f5] (.cons rfl <| .cons rfl <| .cons rfl <| .cons rfl <| .cons rfl <| .cons rfl .nil)) ?_
      rintro _ u9 a ⟨A10, c11, rfl, hS, hg⟩ hE
      refine ⟨fun _ => hg, ?_⟩
      replace hS := hS.front 1 rfl
      replace hS := hS.front 3 rfl
      replace hS := hS.front 3 rfl
      exact hJ _ _ ⟨_, A15, c16, A10, c11, F14, hE, .of, hS, g0_6⟩

/-! ### windrose/windroseref27.ReadDelta: function 18 -/
mutual
def windroseref27_ReadDelta.j10 : Nat → T_api_Data → Bool → Option (T_api_Delta × Bool)
  | 0, _, _ => none
  | k + 1, x0_, y9 => if y9 = true then (some ((⟨0, 0, 0, 0, 0, 0, []⟩ : T_api_Delta), false)) else (if 0 ≤ (0 : Int) ∧ 0 < (x0_.f0.length : Int) then (if 0 ≤ (1 : Int) ∧ 1 < (x0_.f0.length : Int) then (if 0 ≤ (2 : Int) ∧ 2 < (x0_.f0.length : Int) then (if 0 ≤ (3 : Int) ∧ 3 < (x0_.f0.length : Int) then (if 0 ≤ (4 : Int) ∧ 4 < (x0_.f0.length : Int) then (if 0 ≤ (5 : Int) ∧ 5 < (x0_.f0.length : Int) then (if 0 ≤ (7 : Int) ∧ (7 : Int) ≤ (x0_.f0.length : Int) then ((windroseref16_Delta.f k (⟨(nth 0 x0_.f0 0), (nth 0 x0_.f0 1), (nth 0 x0_.f0 2), (nth 0 x0_.f0 3), (nth 0 x0_.f0 4), (nth 0 x0_.f0 5), (cutl x0_.f0 (7 : Int) (x0_.f0.length : Int))⟩ : T_api_Delta)).bind fun t56 => (if t56 = true then ((windroseref27_Delta.f (⟨(nth 0 x0_.f0 0), (nth 0 x0_.f0 1), (nth 0 x0_.f0 2), (nth 0 x0_.f0 3), (nth 0 x0_.f0 4), (nth 0 x0_.f0 5), (cutl x0_.f0 (7 : Int) (x0_.f0.length : Int))⟩ : T_api_Delta)).bind fun t60 => ((windroseref02_Same.f k t60 x0_).bind fun t71 => (windroseref27_ReadDelta.j75 k x0_ (!t71)))) else (windroseref27_ReadDelta.j75 k x0_ true))) else (none)) else (none)) else (none)) else (none)) else (none)) else (none)) else (none))
def windroseref27_ReadDelta.j75 : Nat → T_api_Data → Bool → Option (T_api_Delta × Bool)
  | 0, _, _ => none
  | k + 1, x0_, y73 => if y73 = true then (some ((⟨0, 0, 0, 0, 0, 0, []⟩ : T_api_Delta), false)) else (some ((⟨(nth 0 x0_.f0 0), (nth 0 x0_.f0 1), (nth 0 x0_.f0 2), (nth 0 x0_.f0 3), (nth 0 x0_.f0 4), (nth 0 x0_.f0 5), (cutl x0_.f0 (7 : Int) (x0_.f0.length : Int))⟩ : T_api_Delta), true))
end
theorem windroseref27_ReadDelta.j10_s (k : Nat) (x0_ : T_api_Data) (y9 : Bool) : windroseref27_ReadDelta.j10 (k + 1) x0_ y9 = (if y9 = true then (some ((⟨0, 0, 0, 0, 0, 0, []⟩ : T_api_Delta), false)) else (if 0 ≤ (0 : Int) ∧ 0 < (x0_.f0.length : Int) then (if 0 ≤ (1 : Int) ∧ 1 < (x0_.f0.length : Int) then (if 0 ≤ (2 : Int) ∧ 2 < (x0_.f0.length : Int) then (if 0 ≤ (3 : Int) ∧ 3 < (x0_.f0.length : Int) then (if 0 ≤ (4 : Int) ∧ 4 < (x0_.f0.length : Int) then (if 0 ≤ (5 : Int) ∧ 5 < (x0_.f0.length : Int) then (if 0 ≤ (7 : Int) ∧ (7 : Int) ≤ (x0_.f0.length : Int) then ((windroseref16_Delta.f k (⟨(nth 0 x0_.f0 0), (nth 0 x0_.f0 1), (nth 0 x0_.f0 2), (nth 0 x0_.f0 3), (nth 0 x0_.f0 4), (nth 0 x0_.f0 5), (cutl x0_.f0 (7 : Int) (x0_.f0.length : Int))⟩ : T_api_Delta)).bind fun t56 => (if t56 = true then ((windroseref27_Delta.f (⟨(nth 0 x0_.f0 0), (nth 0 x0_.f0 1), (nth 0 x0_.f0 2), (nth 0 x0_.f0 3), (nth 0 x0_.f0 4), (nth 0 x0_.f0 5), (cutl x0_.f0 (7 : Int) (x0_.f0.length : Int))⟩ : T_api_Delta)).bind fun t60 => ((windroseref02_Same.f k t60 x0_).bind fun t71 => (windroseref27_ReadDelta.j75 k x0_ (!t71)))) else (windroseref27_ReadDelta.j75 k x0_ true))) else (none)) else (none)) else (none)) else (none)) else (none)) else (none)) else (none))) := by kernel_rfl
theorem windroseref27_ReadDelta.j75_s (k : Nat) (x0_ : T_api_Data) (y73 : Bool) : windroseref27_ReadDelta.j75 (k + 1) x0_ y73 = (if y73 = true then (some ((⟨0, 0, 0, 0, 0, 0, []⟩ : T_api_Delta), false)) else (some ((⟨(nth 0 x0_.f0 0), (nth 0 x0_.f0 1), (nth 0 x0_.f0 2), (nth 0 x0_.f0 3), (nth 0 x0_.f0 4), (nth 0 x0_.f0 5), (cutl x0_.f0 (7 : Int) (x0_.f0.length : Int))⟩ : T_api_Delta), true))) := by kernel_rfl
def windroseref27_ReadDelta.f (k : Nat) (x0_ : T_api_Data) : Option (T_api_Delta × Bool) := if (x0_.f0.length : Int) < 7 then (windroseref27_ReadDelta.j10 k x0_ true) else (windroseref27_ReadDelta.j10 k x0_ (decide ((x0_.f0.length : Int) > 10)))
def windroseref27_ReadDelta.Post (W F : World) (r : T_api_Delta × Bool) (v : Value) (w' : World) : Prop := ∃ (F' : World) (RA0_6 : Option Addr) (rc0_6 : Nat), v = .tuple #[.agg #[.int .i64 r.1.f0, .int .i64 r.1.f1, .int .i64 r.1.f2, .int .i64 r.1.f3, .int .i64 r.1.f4, .int .i64 r.1.f5, .slice RA0_6 r.1.f6.length rc0_6], .bool r.2] ∧ St W (mine W []) F w' F' [] ∧ Rd (Kn.int .i64) F' RA0_6 rc0_6 r.1.f6
set_option maxHeartbeats 4000000 in
set_option maxRecDepth 100000 in
theorem windroseref27_ReadDelta.calls (k : Nat) (x0_ : T_api_Data) (A0_0 : Option Addr) (c0_0 : Nat) (A0_1 : Option Addr) (c0_1 : Nat) (r : T_api_Delta × Bool) (W F : World) (hown : Sub F W) (g0_0 : Rd (Kn.int .i64) F A0_0 c0_0 x0_.f0) (g0_1 : Rd Kn.string F A0_1 c0_1 x0_.f1) (H : windroseref27_ReadDelta.f k x0_ = some r) :
    Calls Try.prog 18 #[.agg #[.slice A0_0 x0_.f0.length c0_0, .slice A0_1 x0_.f1.length c0_1]] W fun e w' => ∃ v, e = .returned v ∧ windroseref27_ReadDelta.Post W F r v w' := by
  have hS := St.start (Own.nil hown)
  unfold windroseref27_ReadDelta.f at H
  refine enter (n := 52) rfl rfl rfl (Nat.le_of_ble_eq_true rfl) (fun a hE => ?_)
  refine wp_seq_k fun K1 hK1 => ?_
  refine pl0 ?_
  refine ple hE (.bx (t := 36) hS [.slice A0_0 x0_.f0.length c0_0, .slice A0_1 x0_.f1.length c0_1]) ?_
  rintro _ u3 a ⟨b2, rfl, hb2, hS, hg⟩ hE
  refine ple hE (.al (t := 33) hS [.int .i64 0, .int .i64 0, .int .i64 0, .int .i64 0, .int .i64 0, .int .i64 0, .slice none 0 0]) ?_
  rintro _ u5 a ⟨b4, rfl, hb4, hS, hg⟩ hE
  refine plc hE (.r 2 1 .nil) (fun a hE => ?_)
  refine pld ?_
  refine hK1 _ _ ?_
  refine wp_seq_k fun K6 hK6 => ?_
  refine wp_seq_k fun K7 hK7 => ?_
  have J13 : ∀ kq11, kq11 ≤ k → ∀ (G : Nat → Value) (y9 : Bool) (a : Act) (w' : World), Env 52 G a → At G [(1, .pointer (some ⟨b2, 0, none⟩)), (2, .pointer (some ⟨b4, 0, none⟩)), (15, .bool y9)] → St W (mine W []) F w' F [box b4 #[.int .i64 0, .int .i64 0, .int .i64 0, .int .i64 0, .int .i64 0, .int .i64 0, .slice none 0 0] 33, box b2 #[.slice A0_0 x0_.f0.length c0_0, .slice A0_1 x0_.f1.length c0_1] 36] → windroseref27_ReadDelta.j10 kq11 x0_ y9 = some r → K7 a w' := by
    intro kq11 hkq G y9 a u14 hE hA hS H
    cases kq11 with
    | zero => cases (show none = some r from H)
    | succ k12 =>
      rw [windroseref27_ReadDelta.j10_s] at H
      obtain ⟨J, hE⟩ := hE.at hA
      refine hK7 _ _ ?_
      by_cases c15 : y9 = true
      · rw [if_pos c15] at H
        replace hE := hE.bt 15 c15
        refine ct hE ?_
        refine wp_seq_k fun K16 hK16 => ?_
        refine pl0 ?_
        refine plc hE (.r 0 1 .nil) (fun a hE => ?_)
        refine ple hE (.sto hS [.int .i64 0, .int .i64 0, .int .i64 0, .int .i64 0, .int .i64 0, .int .i64 0, .slice none 0 0]) ?_
        rintro _ u17 a ⟨rfl, hb4, hS, hz⟩ hE
        refine plc hE (.r 2 1 .nil) (fun a hE => ?_)
        refine pld ?_
        refine hK16 _ _ ?_
        refine wp_ret (then_ret ?_)
        replace hS := hS.tail
        replace hS := hS.tail
        obtain rfl := Option.some.inj H
        exact retN hE rfl (of_decide_eq_true rfl) (.cell (by kernel_rfl) (res_blk [.int .i64 0, .int .i64 0, .int .i64 0, .int .i64 0, .int .i64 0, .int .i64 0, .slice none 0 0] ag33 sz33 hb4 rfl) (.tmp (by kernel_rfl) .nil)) ⟨_, rfl, _, _, _, rfl, hS, (Rd.nil _ _)⟩
      · rw [if_neg c15] at H
        replace hE := hE.bf 15 c15
        refine cf hE ?_
        refine wp_skip ?_
        refine hK6 _ _ ?_
        refine wp_seq_k fun K18 hK18 => ?_
        refine pl0 ?_
        have hb2 := hS.blk_at (i := 1) rfl
        refine plc hE (.r 0 1 <| .b 1 0 hb2 <| .r 2 1 <| .nil) (fun a hE => ?_)
        refine pld ?_
        refine hK18 _ _ ?_
        refine wp_seq_k fun K19 hK19 => ?_
        refine drawn 23 [22] mixed rfl (by kernel_rfl) (fun hst => ?_)
        replace hS := hS.drew
        by_cases c20 : 0 ≤ (0 : Int) ∧ 0 < (x0_.f0.length : Int)
        rotate_left
        · rw [if_neg c20] at H; cases H
        rw [if_pos c20] at H
        obtain ⟨ad21, rfl⟩ := g0_0.addr c20.1 c20.2
        obtain ⟨cs23, rfl, hc24⟩ := g0_0.el 0 0 c20.1 c20.2
        by_cases c25 : 0 ≤ (1 : Int) ∧ 1 < (x0_.f0.length : Int)
        rotate_left
        · rw [if_neg c25] at H; cases H
        rw [if_pos c25] at H
        obtain ⟨cs27, rfl, hc28⟩ := g0_0.el 0 1 c25.1 c25.2
        by_cases c29 : 0 ≤ (2 : Int) ∧ 2 < (x0_.f0.length : Int)
        rotate_left
        · rw [if_neg c29] at H; cases H
        rw [if_pos c29] at H
        obtain ⟨cs31, rfl, hc32⟩ := g0_0.el 0 2 c29.1 c29.2
        by_cases c33 : 0 ≤ (3 : Int) ∧ 3 < (x0_.f0.length : Int)
        rotate_left
        · rw [if_neg c33] at H; cases H
        rw [if_pos c33] at H
        obtain ⟨cs35, rfl, hc36⟩ := g0_0.el 0 3 c33.1 c33.2
        by_cases c37 : 0 ≤ (4 : Int) ∧ 4 < (x0_.f0.length : Int)
        rotate_left
        · rw [if_neg c37] at H; cases H
        rw [if_pos c37] at H
        obtain ⟨cs39, rfl, hc40⟩ := g0_0.el 0 4 c37.1 c37.2
        by_cases c41 : 0 ≤ (5 : Int) ∧ 5 < (x0_.f0.length : Int)
        rotate_left
        · rw [if_neg c41] at H; cases H
        rw [if_pos c41] at H
        obtain ⟨cs43, rfl, hc44⟩ := g0_0.el 0 5 c41.1 c41.2
        by_cases c45 : 0 ≤ (7 : Int) ∧ (7 : Int) ≤ (x0_.f0.length : Int)
        rotate_left
        · rw [if_neg c45] at H; cases H
        rw [if_pos c45] at H
        obtain ⟨A46, c47, g48, hv49⟩ := slK_run (P := Try.prog) g0_0 ⟨c45.1, c45.2, Int.le_refl _⟩ sz3
        refine mny hst hE (.r 0 1 <| .x 1 c20 <| .c 2 (hS.fc hc24 0) <| .r 3 1 <| .x 4 c25 <| .c 5 (hS.fc hc28 0) <| .r 6 1 <| .x 7 c29 <| .c 8 (hS.fc hc32 0) <| .r 9 1 <| .x 10 c33 <| .c 11 (hS.fc hc36 0) <| .r 12 1 <| .x 13 c37 <| .c 14 (hS.fc hc40 0) <| .r 15 1 <| .x 16 c41 <| .c 17 (hS.fc hc44 0) <| .r 18 1 <| .y 19 (hv49 (by kernel_rfl)) <| .r 20 1 <| .nil) (fun a hE => ?_)
        refine on1 21 hE (.al (t := 33) hS [.int .i64 0, .int .i64 0, .int .i64 0, .int .i64 0, .int .i64 0, .int .i64 0, .slice none 0 0]) ?_
        rintro _ u51 a ⟨b50, rfl, hb50, hS, hg⟩ hE
        refine ⟨fun _ => hg, ?_⟩
        refine on1 22 hE (.sto hS [.int .i64 (nth 0 x0_.f0 0), .int .i64 (nth 0 x0_.f0 1), .int .i64 (nth 0 x0_.f0 2), .int .i64 (nth 0 x0_.f0 3), .int .i64 (nth 0 x0_.f0 4), .int .i64 (nth 0 x0_.f0 5), .slice A46 ((cutl x0_.f0 (7 : Int) (x0_.f0.length : Int)).length) c47]) ?_
        rintro _ u52 a ⟨rfl, hb50, hS, hz⟩ hE
        refine ⟨fun h => absurd (by decide) h, ?_⟩
        refine dn ?_
        refine hK19 _ _ ?_
        refine wp_seq_k fun K53 hK53 => ?_
        refine wp_seq_k fun K54 hK54 => ?_
        have J78 : ∀ kq76, kq76 ≤ k12 → ∀ (G : Nat → Value) (y73 : Bool) (F74 : World) (a : Act) (w' : World), Env 52 G a → At G [(2, .pointer (some ⟨b4, 0, none⟩)), (5, .pointer (some ⟨b50, 0, none⟩)), (49, .bool y73)] → St W (mine W []) F w' F74 [box b50 #[.int .i64 (nth 0 x0_.f0 0), .int .i64 (nth 0 x0_.f0 1), .int .i64 (nth 0 x0_.f0 2), .int .i64 (nth 0 x0_.f0 3), .int .i64 (nth 0 x0_.f0 4), .int .i64 (nth 0 x0_.f0 5), .slice A46 ((cutl x0_.f0 (7 : Int) (x0_.f0.length : Int)).length) c47] 33, box b4 #[.int .i64 0, .int .i64 0, .int .i64 0, .int .i64 0, .int .i64 0, .int .i64 0, .slice none 0 0] 33, box b2 #[.slice (some ad21) x0_.f0.length c0_0, .slice A0_1 x0_.f1.length c0_1] 36] → Rd (Kn.int .i64) F74 A46 c47 (cutl x0_.f0 (7 : Int) (x0_.f0.length : Int)) → Rd (Kn.int .i64) F74 (some ad21) c0_0 x0_.f0 → Rd Kn.string F74 A0_1 c0_1 x0_.f1 → windroseref27_ReadDelta.j75 kq76 x0_ y73 = some r → K54 a w' := by
          intro kq76 hkq G y73 F74 a u79 hE hA hS g48 g0_0 g0_1 H
          cases kq76 with
          | zero => cases (show none = some r from H)
          | succ k77 =>
            rw [windroseref27_ReadDelta.j75_s] at H
            obtain ⟨J, hE⟩ := hE.at hA
            refine hK54 _ _ ?_
            by_cases c80 : y73 = true
            · rw [if_pos c80] at H
              replace hE := hE.bt 49 c80
              refine ct hE ?_
              refine wp_seq_k fun K81 hK81 => ?_
              refine pl0 ?_
              refine plc hE (.r 0 1 .nil) (fun a hE => ?_)
              replace hS := hS.front 1 rfl
              refine ple hE (.sto hS [.int .i64 0, .int .i64 0, .int .i64 0, .int .i64 0, .int .i64 0, .int .i64 0, .slice none 0 0]) ?_
              rintro _ u82 a ⟨rfl, hb4, hS, hz⟩ hE
              refine plc hE (.r 2 1 .nil) (fun a hE => ?_)
              refine pld ?_
              refine hK81 _ _ ?_
              refine wp_ret (then_ret ?_)
              replace hS := hS.tail
              replace hS := hS.tail
              replace hS := hS.tail
              obtain rfl := Option.some.inj H
              exact retN hE rfl (of_decide_eq_true rfl) (.cell (by kernel_rfl) (res_blk [.int .i64 0, .int .i64 0, .int .i64 0, .int .i64 0, .int .i64 0, .int .i64 0, .slice none 0 0] ag33 sz33 hb4 rfl) (.tmp (by kernel_rfl) .nil)) ⟨_, rfl, _, _, _, rfl, hS, (Rd.nil _ _)⟩
            · rw [if_neg c80] at H
              replace hE := hE.bf 49 c80
              refine cf hE ?_
              refine wp_skip ?_
              refine hK53 _ _ ?_
              refine wp_seq_k fun K83 hK83 => ?_
              refine pl0 ?_
              have hb50 := hS.blk_at (i := 0) rfl
              refine plc hE (.bn 0 0 7 hb50 .nil) (fun a hE => ?_)
              replace hS := hS.front 1 rfl
              refine ple hE (.sto hS [.int .i64 (nth 0 x0_.f0 0), .int .i64 (nth 0 x0_.f0 1), .int .i64 (nth 0 x0_.f0 2), .int .i64 (nth 0 x0_.f0 3), .int .i64 (nth 0 x0_.f0 4), .int .i64 (nth 0 x0_.f0 5), .slice A46 ((cutl x0_.f0 (7 : Int) (x0_.f0.length : Int)).length) c47]) ?_
              rintro _ u84 a ⟨rfl, hb4, hS, hz⟩ hE
              refine plc hE (.r 2 1 .nil) (fun a hE => ?_)
              refine pld ?_
              refine hK83 _ _ ?_
              refine wp_ret ?_
              replace hS := hS.tail
              replace hS := hS.tail
              replace hS := hS.tail
              obtain rfl := Option.some.inj H
              exact retN hE rfl (of_decide_eq_true rfl) (.cell (by kernel_rfl) (res_blk [.int .i64 (nth 0 x0_.f0 0), .int .i64 (nth 0 x0_.f0 1), .int .i64 (nth 0 x0_.f0 2), .int .i64 (nth 0 x0_.f0 3), .int .i64 (nth 0 x0_.f0 4), .int .i64 (nth 0 x0_.f0 5), .slice A46 ((cutl x0_.f0 (7 : Int) (x0_.f0.length : Int)).length) c47] ag33 sz33 hb4 rfl) (.tmp (by kernel_rfl) .nil)) ⟨_, rfl, _, _, _, rfl, hS, g48⟩
        refine drawn 10 [] mixed rfl (by kernel_rfl) (fun hst => ?_)
        replace hS := hS.drew
        have hb50 := hS.blk_at (i := 0) rfl
        refine mny hst hE (.bn 0 0 7 hb50 .nil) (fun a hE => ?_)
        obtain ⟨t56, h57, H⟩ := Option.bind_eq_some_iff.mp H
        refine on1 1 hE (.cl en21 (windroseref16_Delta.calls k12 (⟨(nth 0 x0_.f0 0), (nth 0 x0_.f0 1), (nth 0 x0_.f0 2), (nth 0 x0_.f0 3), (nth 0 x0_.f0 4), (nth 0 x0_.f0 5), (cutl x0_.f0 (7 : Int) (x0_.f0.length : Int))⟩ : T_api_Delta) _ _ _ _ _ hS.own.sub g48 h57)) ?_
        rintro _ u55 a ⟨_, rfl, hC⟩ hE
        refine ⟨fun _ => hC.agr, ?_⟩
        replace hS := hS.lent hC
        refine mny hst hE (.r 2 2 .nil) (fun a hE => ?_)
        by_cases c58 : t56 = true
        · rw [if_pos c58] at H
          replace hE := hE.btn 43 c58
          have hb50 := hS.blk_at (i := 0) rfl
          have hb2 := hS.blk_at (i := 2) rfl
          refine mny hst hE (.bn 4 0 7 hb50 <| .bn 6 0 2 hb2 <| .nil) (fun a hE => ?_)
          obtain ⟨t60, h61, H⟩ := Option.bind_eq_some_iff.mp H
          refine on1 5 hE (.cl en23 (windroseref27_Delta.calls (⟨(nth 0 x0_.f0 0), (nth 0 x0_.f0 1), (nth 0 x0_.f0 2), (nth 0 x0_.f0 3), (nth 0 x0_.f0 4), (nth 0 x0_.f0 5), (cutl x0_.f0 (7 : Int) (x0_.f0.length : Int))⟩ : T_api_Delta) _ _ _ _ _ hS.own.sub g48 h61)) ?_
          rintro _ u59 a ⟨F62, A63, c64, A67, c68, rfl, hC, g69⟩ hE
          refine ⟨fun _ => hC.agr, ?_⟩
          have hs := hC.sub
          replace hS := hS.called (X := []) hC
          replace g0_0 := g0_0.mono hs
          replace g48 := g48.mono hs
          replace g0_1 := g0_1.mono hs
          obtain ⟨t71, h72, H⟩ := Option.bind_eq_some_iff.mp H
          refine on1 7 hE (.cl en22 (windroseref02_Same.calls k12 t60 x0_ _ _ _ _ _ _ _ _ _ _ _ (Sub.refl _) (hS.rd_at (i := 0) rfl) (g69.mono hS.own.sub) (g0_0.mono hS.own.sub) (g0_1.mono hS.own.sub) h72)) ?_
          rintro _ u70 a ⟨_, rfl, hC⟩ hE
          refine ⟨fun _ => hC.agr, ?_⟩
          replace hS := hS.lent hC
          refine mny hst hE (.r 8 2 .nil) (fun a hE => ?_)
          refine dn ?_
          replace hS := hS.tail
          exact J78 _ (by omega) _ (!t71) F62 _ _ hE .of hS g48 g0_0 g0_1 H
        · rw [if_neg c58] at H
          replace hE := hE.bfn 43 c58
          refine mny hst hE (.r 4 6 .nil) (fun a hE => ?_)
          refine dn ?_
          exact J78 _ (by omega) _ true F _ _ hE .of hS g48 g0_0 g0_1 H
  refine pl0 ?_
  have hb2 := hS.blk_at (i := 1) rfl
  refine plc hE (.r 0 1 <| .b 1 0 hb2 <| .r 2 3 <| .nil) (fun a hE => ?_)
  by_cases c8 : (x0_.f0.length : Int) < 7
  · rw [if_pos c8] at H
    replace hE := hE.kt 10 c8
    refine plc hE (.r 5 5 .nil) (fun a hE => ?_)
    refine pld ?_
    exact J13 _ (by omega) _ true _ _ hE .of hS H
  · rw [if_neg c8] at H
    replace hE := hE.kf 10 c8
    refine plc hE (.r 5 1 <| .b 6 0 hb2 <| .r 7 3 <| .nil) (fun a hE => ?_)
    refine pld ?_
    exact J13 _ (by omega) _ (decide ((x0_.f0.length : Int) > 10)) _ _ hE .of hS H

/-! ### windrose/windroselaw27.PastDeltas: function 4 -/
mutual
def windroselaw27_PastDeltas.j11 : Nat → T_api_Delta → T_api_Data → Bool → Option Bool
  | 0, _, _, _ => none
  | k + 1, x0_, x1_, y10 => if y10 = true then ((windroselaw27_awake.f k).bind fun t19 => (some t19)) else ((past_ReadDelta.f k x1_).bind fun t23 => ((windroseref27_ReadDelta.f k x1_).bind fun t35 => (if t35.2 = (t23.2 == 0) then (if t35.2 = true then ((windroseref08_Deltas.f k t23.1 t35.1).bind fun t49 => (windroselaw27_PastDeltas.j56 k x0_ (!t49))) else (if t23.2 = 2 then ((windroseref08_Deltas.f k t23.1 t35.1).bind fun t53 => (windroselaw27_PastDeltas.j56 k x0_ (!t53))) else (windroselaw27_PastDeltas.j56 k x0_ true))) else (windroselaw27_PastDeltas.j56 k x0_ true))))
def windroselaw27_PastDeltas.j56 : Nat → T_api_Delta → Bool → Option Bool
  | 0, _, _ => none
  | k + 1, x0_, y55 => if y55 = true then (some false) else ((past_Delta.f k x0_).bind fun t65 => ((windroseref16_Delta.f k x0_).bind fun t81 => (if t81 = true then ((past_ReadDelta.f k t65.1).bind fun t97 => (if t65.2 = 0 then ((windroseref27_Delta.f x0_).bind fun t110 => ((windroseref02_Same.f k t65.1 t110).bind fun t121 => (if t121 = true then (if t97.2 = 0 then ((windroseref08_Deltas.f k t97.1 x0_).bind fun t126 => (if t126 = true then ((windroselaw27_awake.f k).bind fun t130 => (some t130)) else (some false))) else (some false)) else (some false)))) else (some false))) else (if t65.2 = 1 then ((windroseref02_Same.f k t65.1 (⟨[], []⟩ : T_api_Data)).bind fun t87 => (if t87 = true then ((windroselaw27_awake.f k).bind fun t91 => (some t91)) else (some false))) else (some false)))))
end
theorem windroselaw27_PastDeltas.j11_s (k : Nat) (x0_ : T_api_Delta) (x1_ : T_api_Data) (y10 : Bool) : windroselaw27_PastDeltas.j11 (k + 1) x0_ x1_ y10 = (if y10 = true then ((windroselaw27_awake.f k).bind fun t19 => (some t19)) else ((past_ReadDelta.f k x1_).bind fun t23 => ((windroseref27_ReadDelta.f k x1_).bind fun t35 => (if t35.2 = (t23.2 == 0) then (if t35.2 = true then ((windroseref08_Deltas.f k t23.1 t35.1).bind fun t49 => (windroselaw27_PastDeltas.j56 k x0_ (!t49))) else (if t23.2 = 2 then ((windroseref08_Deltas.f k t23.1 t35.1).bind fun t53 => (windroselaw27_PastDeltas.j56 k x0_ (!t53))) else (windroselaw27_PastDeltas.j56 k x0_ true))) else (windroselaw27_PastDeltas.j56 k x0_ true))))) := by kernel_rfl
theorem windroselaw27_PastDeltas.j56_s (k : Nat) (x0_ : T_api_Delta) (y55 : Bool) : windroselaw27_PastDeltas.j56 (k + 1) x0_ y55 = (if y55 = true then (some false) else ((past_Delta.f k x0_).bind fun t65 => ((windroseref16_Delta.f k x0_).bind fun t81 => (if t81 = true then ((past_ReadDelta.f k t65.1).bind fun t97 => (if t65.2 = 0 then ((windroseref27_Delta.f x0_).bind fun t110 => ((windroseref02_Same.f k t65.1 t110).bind fun t121 => (if t121 = true then (if t97.2 = 0 then ((windroseref08_Deltas.f k t97.1 x0_).bind fun t126 => (if t126 = true then ((windroselaw27_awake.f k).bind fun t130 => (some t130)) else (some false))) else (some false)) else (some false)))) else (some false))) else (if t65.2 = 1 then ((windroseref02_Same.f k t65.1 (⟨[], []⟩ : T_api_Data)).bind fun t87 => (if t87 = true then ((windroselaw27_awake.f k).bind fun t91 => (some t91)) else (some false))) else (some false)))))) := by kernel_rfl
def windroselaw27_PastDeltas.f (k : Nat) (x0_ : T_api_Delta) (x1_ : T_api_Data) : Option Bool := if (x0_.f6.length : Int) > 20 then (windroselaw27_PastDeltas.j11 k x0_ x1_ true) else (if (x1_.f0.length : Int) > 40 then (windroselaw27_PastDeltas.j11 k x0_ x1_ true) else (windroselaw27_PastDeltas.j11 k x0_ x1_ (decide ((x1_.f1.length : Int) > 5))))
def windroselaw27_PastDeltas.Post (W F : World) (r : Bool) (v : Value) (w' : World) : Prop := ∃ (F' : World), v = .bool r ∧ St W (mine W []) F w' F' []
set_option maxHeartbeats 4000000 in
set_option maxRecDepth 100000 in
theorem windroselaw27_PastDeltas.calls (k : Nat) (x0_ : T_api_Delta) (x1_ : T_api_Data) (A0_6 : Option Addr) (c0_6 : Nat) (A1_0 : Option Addr) (c1_0 : Nat) (A1_1 : Option Addr) (c1_1 : Nat) (r : Bool) (W F : World) (hown : Sub F W) (g0_6 : Rd (Kn.int .i64) F A0_6 c0_6 x0_.f6) (g1_0 : Rd (Kn.int .i64) F A1_0 c1_0 x1_.f0) (g1_1 : Rd Kn.string F A1_1 c1_1 x1_.f1) (H : windroselaw27_PastDeltas.f k x0_ x1_ = some r) :
    Calls Try.prog 4 #[.agg #[.int .i64 x0_.f0, .int .i64 x0_.f1, .int .i64 x0_.f2, .int .i64 x0_.f3, .int .i64 x0_.f4, .int .i64 x0_.f5, .slice A0_6 x0_.f6.length c0_6], .agg #[.slice A1_0 x1_.f0.length c1_0, .slice A1_1 x1_.f1.length c1_1]] W fun e w' => ∃ v, e = .returned v ∧ windroselaw27_PastDeltas.Post W F r v w' := by
  have hS := St.start (Own.nil hown)
  unfold windroselaw27_PastDeltas.f at H
  refine enter (n := 101) rfl rfl rfl (Nat.le_of_ble_eq_true rfl) (fun a hE => ?_)
  refine wp_seq_k fun K1 hK1 => ?_
  refine pl0 ?_
  refine ple hE (.bx (t := 33) hS [.int .i64 x0_.f0, .int .i64 x0_.f1, .int .i64 x0_.f2, .int .i64 x0_.f3, .int .i64 x0_.f4, .int .i64 x0_.f5, .slice A0_6 x0_.f6.length c0_6]) ?_
  rintro _ u3 a ⟨b2, rfl, hb2, hS, hg⟩ hE
  refine ple hE (.bx (t := 36) hS [.slice A1_0 x1_.f0.length c1_0, .slice A1_1 x1_.f1.length c1_1]) ?_
  rintro _ u5 a ⟨b4, rfl, hb4, hS, hg⟩ hE
  refine plc hE (.r 2 1 .nil) (fun a hE => ?_)
  refine pld ?_
  refine hK1 _ _ ?_
  refine wp_seq_k fun K6 hK6 => ?_
  refine wp_seq_k fun K7 hK7 => ?_
  have J14 : ∀ kq12, kq12 ≤ k → ∀ (G : Nat → Value) (y10 : Bool) (a : Act) (w' : World), Env 101 G a → At G [(2, .pointer (some ⟨b2, 0, none⟩)), (3, .pointer (some ⟨b4, 0, none⟩)), (28, .bool y10)] → St W (mine W []) F w' F [box b4 #[.slice A1_0 x1_.f0.length c1_0, .slice A1_1 x1_.f1.length c1_1] 36, box b2 #[.int .i64 x0_.f0, .int .i64 x0_.f1, .int .i64 x0_.f2, .int .i64 x0_.f3, .int .i64 x0_.f4, .int .i64 x0_.f5, .slice A0_6 x0_.f6.length c0_6] 33] → windroselaw27_PastDeltas.j11 kq12 x0_ x1_ y10 = some r → K7 a w' := by
    intro kq12 hkq G y10 a u15 hE hA hS H
    cases kq12 with
    | zero => cases (show none = some r from H)
    | succ k13 =>
      rw [windroselaw27_PastDeltas.j11_s] at H
      obtain ⟨J, hE⟩ := hE.at hA
      refine hK7 _ _ ?_
      by_cases c16 : y10 = true
      · rw [if_pos c16] at H
        replace hE := hE.bt 28 c16
        refine ct hE ?_
        refine wp_seq_k fun K17 hK17 => ?_
        refine pl0 ?_
        obtain ⟨t19, h20, H⟩ := Option.bind_eq_some_iff.mp H
        refine ple hE (.cl en16 (windroselaw27_awake.calls k13 _ _ _ hS.own.sub h20)) ?_
        rintro _ u18 a ⟨_, rfl, hC⟩ hE
        replace hS := hS.lent hC
        refine plc hE (.r 1 1 .nil) (fun a hE => ?_)
        refine pld ?_
        refine hK17 _ _ ?_
        refine wp_ret (then_ret ?_)
        replace hS := hS.tail
        replace hS := hS.tail
        obtain rfl := Option.some.inj H
        exact rt1 hE ⟨_, rfl, _, rfl, hS⟩
      · rw [if_neg c16] at H
        replace hE := hE.bf 28 c16
        refine cf hE ?_
        refine wp_skip ?_
        refine hK6 _ _ ?_
        refine wp_seq_k fun K21 hK21 => ?_
        refine pl0 ?_
        have hb4 := hS.blk_at (i := 0) rfl
        refine plc hE (.bn 0 0 2 hb4 .nil) (fun a hE => ?_)
        obtain ⟨t23, h24, H⟩ := Option.bind_eq_some_iff.mp H
        refine ple hE (.cl en17 (past_ReadDelta.calls k13 x1_ _ _ _ _ _ _ _ hS.own.sub g1_0 g1_1 h24)) ?_
        rintro _ u22 a ⟨F25, A26, c27, rfl, hC⟩ hE
        have hs := hC.sub
        replace hS := hS.called (X := []) hC
        replace g1_0 := g1_0.mono hs
        replace g1_1 := g1_1.mono hs
        replace g0_6 := g0_6.mono hs
        refine plc hE (.r 2 3 .nil) (fun a hE => ?_)
        refine ple hE (.al (t := 33) hS [.int .i64 0, .int .i64 0, .int .i64 0, .int .i64 0, .int .i64 0, .int .i64 0, .slice none 0 0]) ?_
        rintro _ u31 a ⟨b30, rfl, hb30, hS, hg⟩ hE
        refine ple hE (.sto hS [.int .i64 t23.1.f0, .int .i64 t23.1.f1, .int .i64 t23.1.f2, .int .i64 t23.1.f3, .int .i64 t23.1.f4, .int .i64 t23.1.f5, .slice A26 t23.1.f6.length c27]) ?_
        rintro _ u32 a ⟨rfl, hb30, hS, hz⟩ hE
        refine plc hE (.r 7 1 .nil) (fun a hE => ?_)
        refine pld ?_
        refine hK21 _ _ ?_
        refine wp_seq_k fun K33 hK33 => ?_
        refine pl0 ?_
        have hb4 := hS.blk_at (i := 2) rfl
        refine plc hE (.bn 0 0 2 hb4 .nil) (fun a hE => ?_)
        obtain ⟨t35, h36, H⟩ := Option.bind_eq_some_iff.mp H
        refine ple hE (.cl en18 (windroseref27_ReadDelta.calls k13 x1_ _ _ _ _ _ _ _ hS.own.sub g1_0 g1_1 h36)) ?_
        rintro _ u34 a ⟨F37, A38, c39, rfl, hC, g40⟩ hE
        have hs := hC.sub
        replace hS := hS.called (X := []) hC
        replace g1_0 := g1_0.mono hs
        replace g1_1 := g1_1.mono hs
        replace g0_6 := g0_6.mono hs
        refine plc hE (.r 2 3 .nil) (fun a hE => ?_)
        refine ple hE (.al (t := 33) hS [.int .i64 0, .int .i64 0, .int .i64 0, .int .i64 0, .int .i64 0, .int .i64 0, .slice none 0 0]) ?_
        rintro _ u42 a ⟨b41, rfl, hb41, hS, hg⟩ hE
        refine ple hE (.sto hS [.int .i64 t35.1.f0, .int .i64 t35.1.f1, .int .i64 t35.1.f2, .int .i64 t35.1.f3, .int .i64 t35.1.f4, .int .i64 t35.1.f5, .slice A38 t35.1.f6.length c39]) ?_
        rintro _ u43 a ⟨rfl, hb41, hS, hz⟩ hE
        refine plc hE (.r 7 1 .nil) (fun a hE => ?_)
        refine pld ?_
        refine hK33 _ _ ?_
        refine wp_seq_k fun K44 hK44 => ?_
        refine wp_seq_k fun K45 hK45 => ?_
        have J59 : ∀ kq57, kq57 ≤ k13 → ∀ (G : Nat → Value) (y55 : Bool) (a : Act) (w' : World), Env 101 G a → At G [(2, .pointer (some ⟨b2, 0, none⟩)), (57, .bool y55)] → St W (mine W []) F w' F37 [box b41 #[.int .i64 t35.1.f0, .int .i64 t35.1.f1, .int .i64 t35.1.f2, .int .i64 t35.1.f3, .int .i64 t35.1.f4, .int .i64 t35.1.f5, .slice A38 t35.1.f6.length c39] 33, box b30 #[.int .i64 t23.1.f0, .int .i64 t23.1.f1, .int .i64 t23.1.f2, .int .i64 t23.1.f3, .int .i64 t23.1.f4, .int .i64 t23.1.f5, .slice A26 t23.1.f6.length c27] 33, box b4 #[.slice A1_0 x1_.f0.length c1_0, .slice A1_1 x1_.f1.length c1_1] 36, box b2 #[.int .i64 x0_.f0, .int .i64 x0_.f1, .int .i64 x0_.f2, .int .i64 x0_.f3, .int .i64 x0_.f4, .int .i64 x0_.f5, .slice A0_6 x0_.f6.length c0_6] 33, row (Kn.int .i64) 3 (.slice A26 t23.1.f6.length c27) t23.1.f6] → windroselaw27_PastDeltas.j56 kq57 x0_ y55 = some r → K45 a w' := by
          intro kq57 hkq G y55 a u60 hE hA hS H
          cases kq57 with
          | zero => cases (show none = some r from H)
          | succ k58 =>
            rw [windroselaw27_PastDeltas.j56_s] at H
            obtain ⟨J, hE⟩ := hE.at hA
            refine hK45 _ _ ?_
            by_cases c61 : y55 = true
            · rw [if_pos c61] at H
              replace hE := hE.bt 57 c61
              refine ct hE ?_
              refine wp_seq_k fun K62 hK62 => ?_
              refine pl0 ?_
              refine plc hE (.r 0 1 .nil) (fun a hE => ?_)
              refine pld ?_
              refine hK62 _ _ ?_
              refine wp_ret (then_ret ?_)
              replace hS := hS.tail
              replace hS := hS.tail
              replace hS := hS.tail
              replace hS := hS.tail
              replace hS := hS.tail
              obtain rfl := Option.some.inj H
              exact rt1 hE ⟨_, rfl, _, rfl, hS⟩
            · rw [if_neg c61] at H
              replace hE := hE.bf 57 c61
              refine cf hE ?_
              refine wp_skip ?_
              refine hK44 _ _ ?_
              refine wp_seq_k fun K63 hK63 => ?_
              refine pl0 ?_
              have hb2 := hS.blk_at (i := 3) rfl
              refine plc hE (.bn 0 0 7 hb2 .nil) (fun a hE => ?_)
              obtain ⟨t65, h66, H⟩ := Option.bind_eq_some_iff.mp H
              refine ple hE (.cl en20 (past_Delta.calls k58 x0_ _ _ _ _ _ hS.own.sub g0_6 h66)) ?_
              rintro _ u64 a ⟨F67, A68, c69, A72, c73, rfl, hC, g74⟩ hE
              have hs := hC.sub
              replace hS := hS.called (X := []) hC
              replace g0_6 := g0_6.mono hs
              replace g40 := g40.mono hs
              replace g1_0 := g1_0.mono hs
              replace g1_1 := g1_1.mono hs
              refine plc hE (.r 2 3 .nil) (fun a hE => ?_)
              refine ple hE (.al (t := 36) hS [.slice none 0 0, .slice none 0 0]) ?_
              rintro _ u76 a ⟨b75, rfl, hb75, hS, hg⟩ hE
              refine ple hE (.sto hS [.slice A68 t65.1.f0.length c69, .slice A72 t65.1.f1.length c73]) ?_
              rintro _ u77 a ⟨rfl, hb75, hS, hz⟩ hE
              refine plc hE (.r 7 1 .nil) (fun a hE => ?_)
              refine pld ?_
              refine hK63 _ _ ?_
              refine wp_seq_k fun K78 hK78 => ?_
              refine wp_seq_k fun K79 hK79 => ?_
              refine pl0 ?_
              have hb2 := hS.blk_at (i := 5) rfl
              refine plc hE (.bn 0 0 7 hb2 .nil) (fun a hE => ?_)
              obtain ⟨t81, h82, H⟩ := Option.bind_eq_some_iff.mp H
              refine ple hE (.cl en21 (windroseref16_Delta.calls k58 x0_ _ _ _ _ _ hS.own.sub g0_6 h82)) ?_
              rintro _ u80 a ⟨_, rfl, hC⟩ hE
              replace hS := hS.lent hC
              refine plc hE (.r 2 1 .nil) (fun a hE => ?_)
              refine pld ?_
              refine hK79 _ _ ?_
              by_cases c83 : t81 = true
              · rw [if_pos c83] at H
                replace hE := hE.btn 65 c83
                refine cf hE ?_
                refine wp_skip ?_
                refine hK78 _ _ ?_
                refine wp_seq_k fun K93 hK93 => ?_
                refine pl0 ?_
                have hb75 := hS.blk_at (i := 0) rfl
                refine plc hE (.bn 0 0 2 hb75 .nil) (fun a hE => ?_)
                replace hS := hS.front 1 rfl
                obtain ⟨F94, hs, g95, hS⟩ := hS.give
                replace g74 := g74.mono hs
                replace g0_6 := g0_6.mono hs
                replace g40 := g40.mono hs
                replace g1_0 := g1_0.mono hs
                replace g1_1 := g1_1.mono hs
                obtain ⟨t97, h98, H⟩ := Option.bind_eq_some_iff.mp H
                refine ple hE (.cl en17 (past_ReadDelta.calls k58 t65.1 _ _ _ _ _ _ _ hS.own.sub g95 g74 h98)) ?_
                rintro _ u96 a ⟨F99, A100, c101, rfl, hC⟩ hE
                have hs := hC.sub
                replace hS := hS.called (X := []) hC
                replace g95 := g95.mono hs
                replace g74 := g74.mono hs
                replace g0_6 := g0_6.mono hs
                replace g40 := g40.mono hs
                replace g1_0 := g1_0.mono hs
                replace g1_1 := g1_1.mono hs
                refine plc hE (.r 2 3 .nil) (fun a hE => ?_)
                refine ple hE (.al (t := 33) hS [.int .i64 0, .int .i64 0, .int .i64 0, .int .i64 0, .int .i64 0, .int .i64 0, .slice none 0 0]) ?_
                rintro _ u105 a ⟨b104, rfl, hb104, hS, hg⟩ hE
                refine ple hE (.sto hS [.int .i64 t97.1.f0, .int .i64 t97.1.f1, .int .i64 t97.1.f2, .int .i64 t97.1.f3, .int .i64 t97.1.f4, .int .i64 t97.1.f5, .slice A100 t97.1.f6.length c101]) ?_
                rintro _ u106 a ⟨rfl, hb104, hS, hz⟩ hE
                refine plc hE (.r 7 1 .nil) (fun a hE => ?_)
                refine pld ?_
                refine hK93 _ _ ?_
                refine wp_seq_k fun K107 hK107 => ?_
                refine drawn 21 [] mixed rfl (by kernel_rfl) (fun hst => ?_)
                replace hS := hS.drew
                refine mny hst hE (.r 0 3 .nil) (fun a hE => ?_)
                by_cases c108 : t65.2 = 0
                · rw [if_pos c108] at H
                  replace hE := hE.kt 83 c108
                  have hb75 := hS.blk_at (i := 2) rfl
                  have hb2 := hS.blk_at (i := 6) rfl
                  refine mny hst hE (.bn 3 0 2 hb75 <| .bn 4 0 7 hb2 <| .nil) (fun a hE => ?_)
                  obtain ⟨t110, h111, H⟩ := Option.bind_eq_some_iff.mp H
                  refine on1 5 hE (.cl en23 (windroseref27_Delta.calls x0_ _ _ _ _ _ hS.own.sub g0_6 h111)) ?_
                  rintro _ u109 a ⟨F112, A113, c114, A117, c118, rfl, hC, g119⟩ hE
                  refine ⟨fun _ => hC.agr, ?_⟩
                  have hs := hC.sub
                  replace hS := hS.called (X := []) hC
                  replace g95 := g95.mono hs
                  replace g74 := g74.mono hs
                  replace g0_6 := g0_6.mono hs
                  replace g40 := g40.mono hs
                  replace g1_0 := g1_0.mono hs
                  replace g1_1 := g1_1.mono hs
                  obtain ⟨t121, h122, H⟩ := Option.bind_eq_some_iff.mp H
                  refine on1 6 hE (.cl en22 (windroseref02_Same.calls k58 t65.1 t110 _ _ _ _ _ _ _ _ _ _ _ (Sub.refl _) (g95.mono hS.own.sub) (g74.mono hS.own.sub) (hS.rd_at (i := 0) rfl) (g119.mono hS.own.sub) h122)) ?_
                  rintro _ u120 a ⟨_, rfl, hC⟩ hE
                  refine ⟨fun _ => hC.agr, ?_⟩
                  replace hS := hS.lent hC
                  refine mny hst hE (.r 7 2 .nil) (fun a hE => ?_)
                  by_cases c123 : t121 = true
                  · rw [if_pos c123] at H
                    replace hE := hE.bt 89 c123
                    refine mny hst hE (.r 9 4 .nil) (fun a hE => ?_)
                    by_cases c124 : t97.2 = 0
                    · rw [if_pos c124] at H
                      replace hE := hE.kt 93 c124
                      have hb104 := hS.blk_at (i := 1) rfl
                      have hb2 := hS.blk_at (i := 7) rfl
                      refine mny hst hE (.bn 13 0 7 hb104 <| .bn 14 0 7 hb2 <| .nil) (fun a hE => ?_)
                      obtain ⟨t126, h127, H⟩ := Option.bind_eq_some_iff.mp H
                      refine on1 15 hE (.cl en19 (windroseref08_Deltas.calls k58 t97.1 x0_ _ _ _ _ _ _ _ (Sub.refl _) (hS.rd_at (i := 2) rfl) (g0_6.mono hS.own.sub) h127)) ?_
                      rintro _ u125 a ⟨_, rfl, hC⟩ hE
                      refine ⟨fun _ => hC.agr, ?_⟩
                      replace hS := hS.lent hC
                      refine mny hst hE (.r 16 2 .nil) (fun a hE => ?_)
                      by_cases c128 : t126 = true
                      · rw [if_pos c128] at H
                        replace hE := hE.bt 98 c128
                        obtain ⟨t130, h131, H⟩ := Option.bind_eq_some_iff.mp H
                        refine on1 18 hE (.cl en16 (windroselaw27_awake.calls k58 _ _ _ hS.own.sub h131)) ?_
                        rintro _ u129 a ⟨_, rfl, hC⟩ hE
                        refine ⟨fun _ => hC.agr, ?_⟩
                        replace hS := hS.lent hC
                        refine mny hst hE (.r 19 2 .nil) (fun a hE => ?_)
                        refine dn ?_
                        refine hK107 _ _ ?_
                        refine wp_ret ?_
                        replace hS := hS.tail
                        replace hS := hS.tail
                        replace hS := hS.tail
                        replace hS := hS.tail
                        replace hS := hS.tail
                        replace hS := hS.tail
                        replace hS := hS.tail
                        replace hS := hS.tail
                        replace hS := hS.tail
                        obtain rfl := Option.some.inj H
                        exact rt1 hE ⟨_, rfl, _, rfl, hS⟩
                      · rw [if_neg c128] at H
                        replace hE := hE.bf 98 c128
                        refine mny hst hE (.r 18 3 .nil) (fun a hE => ?_)
                        refine dn ?_
                        refine hK107 _ _ ?_
                        refine wp_ret ?_
                        replace hS := hS.tail
                        replace hS := hS.tail
                        replace hS := hS.tail
                        replace hS := hS.tail
                        replace hS := hS.tail
                        replace hS := hS.tail
                        replace hS := hS.tail
                        replace hS := hS.tail
                        replace hS := hS.tail
                        obtain rfl := Option.some.inj H
                        exact rt1 hE ⟨_, rfl, _, rfl, hS⟩
                    · rw [if_neg c124] at H
                      replace hE := hE.kf 93 c124
                      refine mny hst hE (.r 13 8 .nil) (fun a hE => ?_)
                      refine dn ?_
                      refine hK107 _ _ ?_
                      refine wp_ret ?_
                      replace hS := hS.tail
                      replace hS := hS.tail
                      replace hS := hS.tail
                      replace hS := hS.tail
                      replace hS := hS.tail
                      replace hS := hS.tail
                      replace hS := hS.tail
                      replace hS := hS.tail
                      replace hS := hS.tail
                      obtain rfl := Option.some.inj H
                      exact rt1 hE ⟨_, rfl, _, rfl, hS⟩
                  · rw [if_neg c123] at H
                    replace hE := hE.bf 89 c123
                    refine mny hst hE (.r 9 12 .nil) (fun a hE => ?_)
                    refine dn ?_
                    refine hK107 _ _ ?_
                    refine wp_ret ?_
                    replace hS := hS.tail
                    replace hS := hS.tail
                    replace hS := hS.tail
                    replace hS := hS.tail
                    replace hS := hS.tail
                    replace hS := hS.tail
                    replace hS := hS.tail
                    replace hS := hS.tail
                    replace hS := hS.tail
                    obtain rfl := Option.some.inj H
                    exact rt1 hE ⟨_, rfl, _, rfl, hS⟩
                · rw [if_neg c108] at H
                  replace hE := hE.kf 83 c108
                  refine mny hst hE (.r 3 18 .nil) (fun a hE => ?_)
                  refine dn ?_
                  refine hK107 _ _ ?_
                  refine wp_ret ?_
                  replace hS := hS.tail
                  replace hS := hS.tail
                  replace hS := hS.tail
                  replace hS := hS.tail
                  replace hS := hS.tail
                  replace hS := hS.tail
                  replace hS := hS.tail
                  replace hS := hS.tail
                  obtain rfl := Option.some.inj H
                  exact rt1 hE ⟨_, rfl, _, rfl, hS⟩
              · rw [if_neg c83] at H
                replace hE := hE.bfn 65 c83
                refine ct hE ?_
                refine wp_seq_k fun K84 hK84 => ?_
                refine pl0 ?_
                refine plc hE (.r 0 3 .nil) (fun a hE => ?_)
                by_cases c85 : t65.2 = 1
                · rw [if_pos c85] at H
                  replace hE := hE.kt 68 c85
                  have hb75 := hS.blk_at (i := 0) rfl
                  refine plc hE (.bn 3 0 2 hb75 <| .r 4 1 <| .nil) (fun a hE => ?_)
                  obtain ⟨t87, h88, H⟩ := Option.bind_eq_some_iff.mp H
                  refine ple hE (.cl en22 (windroseref02_Same.calls k58 t65.1 (⟨[], []⟩ : T_api_Data) _ _ _ _ _ _ _ _ _ _ _ (Sub.refl _) (hS.rd_at (i := 1) rfl) (g74.mono hS.own.sub) (Rd.nil _ _) (Rd.nil _ _) h88)) ?_
                  rintro _ u86 a ⟨_, rfl, hC⟩ hE
                  replace hS := hS.lent hC
                  refine plc hE (.r 6 2 .nil) (fun a hE => ?_)
                  by_cases c89 : t87 = true
                  · rw [if_pos c89] at H
                    replace hE := hE.bt 73 c89
                    obtain ⟨t91, h92, H⟩ := Option.bind_eq_some_iff.mp H
                    refine ple hE (.cl en16 (windroselaw27_awake.calls k58 _ _ _ hS.own.sub h92)) ?_
                    rintro _ u90 a ⟨_, rfl, hC⟩ hE
                    replace hS := hS.lent hC
                    refine plc hE (.r 9 2 .nil) (fun a hE => ?_)
                    refine pld ?_
                    refine hK84 _ _ ?_
                    refine wp_ret (then_ret ?_)
                    replace hS := hS.tail
                    replace hS := hS.tail
                    replace hS := hS.tail
                    replace hS := hS.tail
                    replace hS := hS.tail
                    replace hS := hS.tail
                    replace hS := hS.tail
                    obtain rfl := Option.some.inj H
                    exact rt1 hE ⟨_, rfl, _, rfl, hS⟩
                  · rw [if_neg c89] at H
                    replace hE := hE.bf 73 c89
                    refine plc hE (.r 8 3 .nil) (fun a hE => ?_)
                    refine pld ?_
                    refine hK84 _ _ ?_
                    refine wp_ret (then_ret ?_)
                    replace hS := hS.tail
                    replace hS := hS.tail
                    replace hS := hS.tail
                    replace hS := hS.tail
                    replace hS := hS.tail
                    replace hS := hS.tail
                    replace hS := hS.tail
                    obtain rfl := Option.some.inj H
                    exact rt1 hE ⟨_, rfl, _, rfl, hS⟩
                · rw [if_neg c85] at H
                  replace hE := hE.kf 68 c85
                  refine plc hE (.r 3 8 .nil) (fun a hE => ?_)
                  refine pld ?_
                  refine hK84 _ _ ?_
                  refine wp_ret (then_ret ?_)
                  replace hS := hS.tail
                  replace hS := hS.tail
                  replace hS := hS.tail
                  replace hS := hS.tail
                  replace hS := hS.tail
                  replace hS := hS.tail
                  replace hS := hS.tail
                  obtain rfl := Option.some.inj H
                  exact rt1 hE ⟨_, rfl, _, rfl, hS⟩
        refine pl0 ?_
        refine plc hE (.r 0 5 .nil) (fun a hE => ?_)
        by_cases c46 : t35.2 = (t23.2 == 0)
        · rw [if_pos c46] at H
          replace hE := hE.ktn 44 c46
          refine plc hE (.r 5 3 .nil) (fun a hE => ?_)
          by_cases c47 : t35.2 = true
          · rw [if_pos c47] at H
            replace hE := hE.btn 47 c47
            have hb30 := hS.blk_at (i := 1) rfl
            refine plc hE (.r 8 5 <| .bn 13 0 7 hb30 <| .bn 14 0 7 hb41 <| .nil) (fun a hE => ?_)
            obtain ⟨t49, h50, H⟩ := Option.bind_eq_some_iff.mp H
            refine ple hE (.cl en19 (windroseref08_Deltas.calls k13 t23.1 t35.1 _ _ _ _ _ _ _ (Sub.refl _) (hS.rd_at (i := 2) rfl) (g40.mono hS.own.sub) h50)) ?_
            rintro _ u48 a ⟨_, rfl, hC⟩ hE
            replace hS := hS.lent hC
            refine plc hE (.r 16 2 .nil) (fun a hE => ?_)
            refine pld ?_
            replace hS := hS.front 2 rfl
            replace hS := hS.front 4 rfl
            replace hS := hS.front 4 rfl
            replace hS := hS.front 4 rfl
            replace hS := hS.front 4 rfl
            exact J59 _ (by omega) _ (!t49) _ _ hE .of hS H
          · rw [if_neg c47] at H
            replace hE := hE.bfn 47 c47
            refine plc hE (.r 8 5 .nil) (fun a hE => ?_)
            by_cases c51 : t23.2 = 2
            · rw [if_pos c51] at H
              replace hE := hE.ktn 52 c51
              have hb30 := hS.blk_at (i := 1) rfl
              refine plc hE (.bn 13 0 7 hb30 <| .bn 14 0 7 hb41 <| .nil) (fun a hE => ?_)
              obtain ⟨t53, h54, H⟩ := Option.bind_eq_some_iff.mp H
              refine ple hE (.cl en19 (windroseref08_Deltas.calls k13 t23.1 t35.1 _ _ _ _ _ _ _ (Sub.refl _) (hS.rd_at (i := 2) rfl) (g40.mono hS.own.sub) h54)) ?_
              rintro _ u52 a ⟨_, rfl, hC⟩ hE
              replace hS := hS.lent hC
              refine plc hE (.r 16 2 .nil) (fun a hE => ?_)
              refine pld ?_
              replace hS := hS.front 2 rfl
              replace hS := hS.front 4 rfl
              replace hS := hS.front 4 rfl
              replace hS := hS.front 4 rfl
              replace hS := hS.front 4 rfl
              exact J59 _ (by omega) _ (!t53) _ _ hE .of hS H
            · rw [if_neg c51] at H
              replace hE := hE.kfn 52 c51
              refine plc hE (.r 13 5 .nil) (fun a hE => ?_)
              refine pld ?_
              replace hS := hS.front 2 rfl
              replace hS := hS.front 4 rfl
              replace hS := hS.front 4 rfl
              replace hS := hS.front 4 rfl
              replace hS := hS.front 4 rfl
              exact J59 _ (by omega) _ true _ _ hE .of hS H
        · rw [if_neg c46] at H
          replace hE := hE.kfn 44 c46
          refine plc hE (.r 5 13 .nil) (fun a hE => ?_)
          refine pld ?_
          replace hS := hS.front 2 rfl
          replace hS := hS.front 4 rfl
          replace hS := hS.front 4 rfl
          replace hS := hS.front 4 rfl
          replace hS := hS.front 4 rfl
          exact J59 _ (by omega) _ true _ _ hE .of hS H
  refine pl0 ?_
  have hb2 := hS.blk_at (i := 1) rfl
  refine plc hE (.r 0 1 <| .b 1 6 hb2 <| .r 2 3 <| .nil) (fun a hE => ?_)
  by_cases c8 : (x0_.f6.length : Int) > 20
  · rw [if_pos c8] at H
    replace hE := hE.kt 17 c8
    refine plc hE (.r 5 11 .nil) (fun a hE => ?_)
    refine pld ?_
    exact J14 _ (by omega) _ true _ _ hE .of hS H
  · rw [if_neg c8] at H
    replace hE := hE.kf 17 c8
    refine plc hE (.r 5 1 <| .b 6 0 hb4 <| .r 7 4 <| .nil) (fun a hE => ?_)
    by_cases c9 : (x1_.f0.length : Int) > 40
    · rw [if_pos c9] at H
      replace hE := hE.kt 23 c9
      refine plc hE (.r 11 5 .nil) (fun a hE => ?_)
      refine pld ?_
      exact J14 _ (by omega) _ true _ _ hE .of hS H
    · rw [if_neg c9] at H
      replace hE := hE.kf 23 c9
      refine plc hE (.r 11 1 <| .b 12 1 hb4 <| .r 13 3 <| .nil) (fun a hE => ?_)
      refine pld ?_
      exact J14 _ (by omega) _ (decide ((x1_.f1.length : Int) > 5)) _ _ hE .of hS H

end Go.Proofs.Ytihjknnhbgkinaa.SQ
