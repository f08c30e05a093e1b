/- Functions of the program, what each computes (written by wip/s/sl.py). -/
import Derived.Test.YtpohepinmjmbkaaGreatMN1
namespace Go.Proofs.YtpohepinmjmbkaaGreat.MN
open Go Go.RowKit Go.Proofs.YtpohepinmjmbkaaGreat.Sl
set_option linter.unusedVariables false
set_option linter.unusedSimpArgs false
/-! ### windrose/windroseref06.Same: function 65 -/
def windroseref06_Same.l9 : Nat → List T_api_Node → List T_api_Node → Int → Option Bool
  | 0, _, _, _ => none
  | k + 1, x0_, x1_, x8 => if x8 < (x0_.length : Int) then (if 0 ≤ x8 ∧ x8 < (x0_.length : Int) then (if 0 ≤ x8 ∧ x8 < (x1_.length : Int) then (if (⟨(nth T_api_Node.z x0_ x8).f0, (nth T_api_Node.z x0_ x8).f1, (nth T_api_Node.z x0_ x8).f2, (nth T_api_Node.z x0_ x8).f3, (nth T_api_Node.z x0_ x8).f4, (nth T_api_Node.z x0_ x8).f5⟩ : T_api_Node) = (⟨(nth T_api_Node.z x1_ x8).f0, (nth T_api_Node.z x1_ x8).f1, (nth T_api_Node.z x1_ x8).f2, (nth T_api_Node.z x1_ x8).f3, (nth T_api_Node.z x1_ x8).f4, (nth T_api_Node.z x1_ x8).f5⟩ : T_api_Node) then (windroseref06_Same.l9 k x0_ x1_ (w64 (x8 + 1))) else (some false)) else (none)) else (none)) else (some true)
theorem windroseref06_Same.l9_s (k : Nat) (x0_ : List T_api_Node) (x1_ : List T_api_Node) (x8 : Int) : windroseref06_Same.l9 (k + 1) x0_ x1_ x8 = (if x8 < (x0_.length : Int) then (if 0 ≤ x8 ∧ x8 < (x0_.length : Int) then (if 0 ≤ x8 ∧ x8 < (x1_.length : Int) then (if (⟨(nth T_api_Node.z x0_ x8).f0, (nth T_api_Node.z x0_ x8).f1, (nth T_api_Node.z x0_ x8).f2, (nth T_api_Node.z x0_ x8).f3, (nth T_api_Node.z x0_ x8).f4, (nth T_api_Node.z x0_ x8).f5⟩ : T_api_Node) = (⟨(nth T_api_Node.z x1_ x8).f0, (nth T_api_Node.z x1_ x8).f1, (nth T_api_Node.z x1_ x8).f2, (nth T_api_Node.z x1_ x8).f3, (nth T_api_Node.z x1_ x8).f4, (nth T_api_Node.z x1_ x8).f5⟩ : T_api_Node) then (windroseref06_Same.l9 k x0_ x1_ (w64 (x8 + 1))) else (some false)) else (none)) else (none)) else (some true)) := by kernel_rfl
def windroseref06_Same.f (k : Nat) (x0_ : List T_api_Node) (x1_ : List T_api_Node) : Option Bool := if (x0_.length : Int) = (x1_.length : Int) then (windroseref06_Same.l9 k x0_ x1_ 0) else (some false)
def windroseref06_Same.Post (W F : World) (r : Bool) (v : Value) (w' : World) : Prop := ∃ (F' : World), v = .bool r ∧ St W (mine W []) F w' F' []
set_option maxHeartbeats 4000000 in
set_option maxRecDepth 100000 in
theorem windroseref06_Same.calls (k : Nat) (x0_ : List T_api_Node) (x1_ : List T_api_Node) (A0_0 : Option Addr) (c0_0 : Nat) (A1_0 : Option Addr) (c1_0 : Nat) (r : Bool) (W F : World) (hown : Sub F W) (g0_0 : Rd T_api_Node.k F A0_0 c0_0 x0_) (g1_0 : Rd T_api_Node.k F A1_0 c1_0 x1_) (H : windroseref06_Same.f k x0_ x1_ = some r) :
    Calls Tryz.prog 65 #[.slice A0_0 x0_.length c0_0, .slice A1_0 x1_.length c1_0] W fun e w' => ∃ v, e = .returned v ∧ windroseref06_Same.Post W F r v w' := by
  have hS := St.start (Own.nil hown)
  unfold windroseref06_Same.f at H
  refine enter (n := 26) rfl rfl rfl (Nat.le_of_ble_eq_true rfl) (fun a hE => ?_)
  refine wp_seq_k fun K1 hK1 => ?_
  refine pl0 ?_
  refine plc hE (.r 0 1 .nil) (fun a hE => ?_)
  refine pld ?_
  refine hK1 _ _ ?_
  refine wp_seq_k fun K2 hK2 => ?_
  refine wp_seq_k fun K3 hK3 => ?_
  refine pl0 ?_
  refine plc hE (.r 0 5 .nil) (fun a hE => ?_)
  refine pld ?_
  refine hK3 _ _ ?_
  by_cases c4 : (x0_.length : Int) = (x1_.length : Int)
  · rw [if_pos c4] at H
    replace hE := hE.ktn 10 c4
    refine cf hE ?_
    refine wp_skip ?_
    refine hK2 _ _ ?_
    refine wp_seq_k fun K6 hK6 => ?_
    refine wp_seq_k fun K7 hK7 => ?_
    refine pl0 ?_
    refine plc hE (.r 0 1 .nil) (fun a hE => ?_)
    refine pld ?_
    refine hK7 _ _ ?_
    refine wp_block ?_
    refine wp_loop_ghost (fun kq10 a w' => ∃ (G : Nat → Value) (x8 : Int), kq10 ≤ k ∧ Env 26 G a ∧ At G [(0, .slice A0_0 x0_.length c0_0), (1, .slice A1_0 x1_.length c1_0), (5, .int .i64 x8)] ∧ St W (mine W []) F w' F [] ∧  windroseref06_Same.l9 kq10 x0_ x1_ x8 = some r) k ⟨_, 0, Nat.le_refl _, hE, .of, hS, H⟩ ?_
    rintro kq10 a u12 ⟨G, x8, hkq, hE, hA, hS, H⟩
    cases kq10 with
    | zero => cases (show none = some r from H)
    | succ k11 =>
      rw [windroseref06_Same.l9_s] at H
      obtain ⟨J, hE⟩ := hE.at hA
      refine wp_seq_k fun K13 hK13 => ?_
      refine wp_seq_k fun K14 hK14 => ?_
      refine pl0 ?_
      refine plc hE (.r 0 4 .nil) (fun a hE => ?_)
      refine pld ?_
      refine hK14 _ _ ?_
      by_cases c15 : x8 < (x0_.length : Int)
      · rw [if_pos c15] at H
        replace hE := hE.kt 14 c15
        refine ct hE ?_
        refine wp_skip ?_
        refine hK13 _ _ ?_
        refine wp_seq_k fun K16 hK16 => ?_
        refine wp_block ?_
        refine wp_seq_k fun K17 hK17 => ?_
        refine drawn 9 ⟨[], [], fun q => False⟩ mixed rfl (by kernel_rfl) (fun hst => ?_)
        replace hS := hS.drew
        by_cases c18 : 0 ≤ x8 ∧ x8 < (x0_.length : Int)
        rotate_left
        · rw [if_neg c18] at H; cases H
        rw [if_pos c18] at H
        have hE_ := hE
        obtain ⟨ad19, rfl⟩ := g0_0.addr c18.1 c18.2
        replace hE := hE_
        obtain ⟨cs21, rfl, hc22⟩ := g0_0.el T_api_Node.z x8 c18.1 c18.2
        by_cases c23 : 0 ≤ x8 ∧ x8 < (x1_.length : Int)
        rotate_left
        · rw [if_neg c23] at H; cases H
        rw [if_pos c23] at H
        have hE_ := hE
        obtain ⟨ad24, rfl⟩ := g1_0.addr c23.1 c23.2
        replace hE := hE_
        obtain ⟨cs26, rfl, hc27⟩ := g1_0.el T_api_Node.z x8 c23.1 c23.2
        refine mny 0 hst hE (.r 0 2 <| .x 2 c18 <| .cs 3 (hS.fcs hc22) <| .r 4 2 <| .x 6 c23 <| .cs 7 (hS.fcs hc27) <| .y 8 (y_nes (fun w => eqs104 (⟨(nth T_api_Node.z x0_ x8).f0, (nth T_api_Node.z x0_ x8).f1, (nth T_api_Node.z x0_ x8).f2, (nth T_api_Node.z x0_ x8).f3, (nth T_api_Node.z x0_ x8).f4, (nth T_api_Node.z x0_ x8).f5⟩ : T_api_Node) (⟨(nth T_api_Node.z x1_ x8).f0, (nth T_api_Node.z x1_ x8).f1, (nth T_api_Node.z x1_ x8).f2, (nth T_api_Node.z x1_ x8).f3, (nth T_api_Node.z x1_ x8).f4, (nth T_api_Node.z x1_ x8).f5⟩ : T_api_Node) w 9998)) <| .nil) (fun a hE => ?_)
        refine dn ?_
        refine hK17 _ _ ?_
        by_cases c28 : (⟨(nth T_api_Node.z x0_ x8).f0, (nth T_api_Node.z x0_ x8).f1, (nth T_api_Node.z x0_ x8).f2, (nth T_api_Node.z x0_ x8).f3, (nth T_api_Node.z x0_ x8).f4, (nth T_api_Node.z x0_ x8).f5⟩ : T_api_Node) = (⟨(nth T_api_Node.z x1_ x8).f0, (nth T_api_Node.z x1_ x8).f1, (nth T_api_Node.z x1_ x8).f2, (nth T_api_Node.z x1_ x8).f3, (nth T_api_Node.z x1_ x8).f4, (nth T_api_Node.z x1_ x8).f5⟩ : T_api_Node)
        · rw [if_pos c28] at H
          replace hE := hE.ktn 25 c28
          refine cf hE ?_
          refine wp_skip ?_
          refine block_n ?_
          refine hK16 _ _ ?_
          refine pl0 ?_
          refine plc hE (.r 0 3 .nil) (fun a hE => ?_)
          refine pld ?_
          exact then_n ⟨k11, by omega, _, (w64 (x8 + 1)), by omega, hE, .of, hS, H⟩
        · rw [if_neg c28] at H
          replace hE := hE.kfn 25 c28
          refine ct hE ?_
          refine wp_seq_k fun K29 hK29 => ?_
          refine pl0 ?_
          refine plc hE (.r 0 1 .nil) (fun a hE => ?_)
          refine pld ?_
          refine hK29 _ _ ?_
          refine wp_ret (block_ret (then_ret (then_ret (block_ret (then_ret ?_)))))
          obtain rfl := Option.some.inj H
          exact rt1 hE ⟨_, rfl, _, rfl, hS⟩
      · rw [if_neg c15] at H
        replace hE := hE.kf 14 c15
        refine cf hE ?_
        refine wp_exit ?_
        refine hK6 _ _ ?_
        refine wp_seq_k fun K30 hK30 => ?_
        refine pl0 ?_
        refine plc hE (.r 0 1 .nil) (fun a hE => ?_)
        refine pld ?_
        refine hK30 _ _ ?_
        refine wp_ret ?_
        obtain rfl := Option.some.inj H
        exact rt1 hE ⟨_, rfl, _, rfl, hS⟩
  · rw [if_neg c4] at H
    replace hE := hE.kfn 10 c4
    refine ct hE ?_
    refine wp_seq_k fun K5 hK5 => ?_
    refine pl0 ?_
    refine plc hE (.r 0 1 .nil) (fun a hE => ?_)
    refine pld ?_
    refine hK5 _ _ ?_
    refine wp_ret (then_ret ?_)
    obtain rfl := Option.some.inj H
    exact rt1 hE ⟨_, rfl, _, rfl, hS⟩

/-! ### windrose/windroseref02.Ints: function 21 -/
def windroseref02_Ints.l9 : Nat → List Int → List Int → Int → Option Bool
  | 0, _, _, _ => none
  | k + 1, x0_, x1_, x8 => if x8 < (x0_.length : Int) then (if 0 ≤ x8 ∧ x8 < (x0_.length : Int) then (if 0 ≤ x8 ∧ x8 < (x1_.length : Int) then (if (nth 0 x0_ x8) = (nth 0 x1_ x8) then (windroseref02_Ints.l9 k x0_ x1_ (w64 (x8 + 1))) else (some false)) else (none)) else (none)) else (some true)
theorem windroseref02_Ints.l9_s (k : Nat) (x0_ : List Int) (x1_ : List Int) (x8 : Int) : windroseref02_Ints.l9 (k + 1) x0_ x1_ x8 = (if x8 < (x0_.length : Int) then (if 0 ≤ x8 ∧ x8 < (x0_.length : Int) then (if 0 ≤ x8 ∧ x8 < (x1_.length : Int) then (if (nth 0 x0_ x8) = (nth 0 x1_ x8) then (windroseref02_Ints.l9 k x0_ x1_ (w64 (x8 + 1))) else (some false)) else (none)) else (none)) else (some true)) := by kernel_rfl
def windroseref02_Ints.f (k : Nat) (x0_ : List Int) (x1_ : List Int) : Option Bool := if (x0_.length : Int) = (x1_.length : Int) then (windroseref02_Ints.l9 k x0_ x1_ 0) else (some false)
def windroseref02_Ints.Post (W F : World) (r : Bool) (v : Value) (w' : World) : Prop := ∃ (F' : World), v = .bool r ∧ St W (mine W []) F w' F' []
set_option maxHeartbeats 4000000 in
set_option maxRecDepth 100000 in
theorem windroseref02_Ints.calls (k : Nat) (x0_ : List Int) (x1_ : List Int) (A0_0 : Option Addr) (c0_0 : Nat) (A1_0 : Option Addr) (c1_0 : Nat) (r : Bool) (W F : World) (hown : Sub F W) (g0_0 : Rd (Kn.int .i64) F A0_0 c0_0 x0_) (g1_0 : Rd (Kn.int .i64) F A1_0 c1_0 x1_) (H : windroseref02_Ints.f k x0_ x1_ = some r) :
    Calls Tryz.prog 21 #[.slice A0_0 x0_.length c0_0, .slice A1_0 x1_.length c1_0] W fun e w' => ∃ v, e = .returned v ∧ windroseref02_Ints.Post W F r v w' := by
  have hS := St.start (Own.nil hown)
  unfold windroseref02_Ints.f at H
  refine enter (n := 26) rfl rfl rfl (Nat.le_of_ble_eq_true rfl) (fun a hE => ?_)
  refine wp_seq_k fun K1 hK1 => ?_
  refine pl0 ?_
  refine plc hE (.r 0 1 .nil) (fun a hE => ?_)
  refine pld ?_
  refine hK1 _ _ ?_
  refine wp_seq_k fun K2 hK2 => ?_
  refine wp_seq_k fun K3 hK3 => ?_
  refine pl0 ?_
  refine plc hE (.r 0 5 .nil) (fun a hE => ?_)
  refine pld ?_
  refine hK3 _ _ ?_
  by_cases c4 : (x0_.length : Int) = (x1_.length : Int)
  · rw [if_pos c4] at H
    replace hE := hE.ktn 10 c4
    refine cf hE ?_
    refine wp_skip ?_
    refine hK2 _ _ ?_
    refine wp_seq_k fun K6 hK6 => ?_
    refine wp_seq_k fun K7 hK7 => ?_
    refine pl0 ?_
    refine plc hE (.r 0 1 .nil) (fun a hE => ?_)
    refine pld ?_
    refine hK7 _ _ ?_
    refine wp_block ?_
    refine wp_loop_ghost (fun kq10 a w' => ∃ (G : Nat → Value) (x8 : Int), kq10 ≤ k ∧ Env 26 G a ∧ At G [(0, .slice A0_0 x0_.length c0_0), (1, .slice A1_0 x1_.length c1_0), (5, .int .i64 x8)] ∧ St W (mine W []) F w' F [] ∧  windroseref02_Ints.l9 kq10 x0_ x1_ x8 = some r) k ⟨_, 0, Nat.le_refl _, hE, .of, hS, H⟩ ?_
    rintro kq10 a u12 ⟨G, x8, hkq, hE, hA, hS, H⟩
    cases kq10 with
    | zero => cases (show none = some r from H)
    | succ k11 =>
      rw [windroseref02_Ints.l9_s] at H
      obtain ⟨J, hE⟩ := hE.at hA
      refine wp_seq_k fun K13 hK13 => ?_
      refine wp_seq_k fun K14 hK14 => ?_
      refine pl0 ?_
      refine plc hE (.r 0 4 .nil) (fun a hE => ?_)
      refine pld ?_
      refine hK14 _ _ ?_
      by_cases c15 : x8 < (x0_.length : Int)
      · rw [if_pos c15] at H
        replace hE := hE.kt 14 c15
        refine ct hE ?_
        refine wp_skip ?_
        refine hK13 _ _ ?_
        refine wp_seq_k fun K16 hK16 => ?_
        refine wp_block ?_
        refine wp_seq_k fun K17 hK17 => ?_
        refine drawn 9 ⟨[], [], fun q => False⟩ mixed rfl (by kernel_rfl) (fun hst => ?_)
        replace hS := hS.drew
        by_cases c18 : 0 ≤ x8 ∧ x8 < (x0_.length : Int)
        rotate_left
        · rw [if_neg c18] at H; cases H
        rw [if_pos c18] at H
        have hE_ := hE
        obtain ⟨ad19, rfl⟩ := g0_0.addr c18.1 c18.2
        replace hE := hE_
        obtain ⟨cs21, rfl, hc22⟩ := g0_0.el 0 x8 c18.1 c18.2
        by_cases c23 : 0 ≤ x8 ∧ x8 < (x1_.length : Int)
        rotate_left
        · rw [if_neg c23] at H; cases H
        rw [if_pos c23] at H
        have hE_ := hE
        obtain ⟨ad24, rfl⟩ := g1_0.addr c23.1 c23.2
        replace hE := hE_
        obtain ⟨cs26, rfl, hc27⟩ := g1_0.el 0 x8 c23.1 c23.2
        refine mny 0 hst hE (.r 0 2 <| .x 2 c18 <| .c 3 (hS.fc hc22 0) <| .r 4 2 <| .x 6 c23 <| .c 7 (hS.fc hc27 0) <| .r 8 1 <| .nil) (fun a hE => ?_)
        refine dn ?_
        refine hK17 _ _ ?_
        by_cases c28 : (nth 0 x0_ x8) = (nth 0 x1_ x8)
        · rw [if_pos c28] at H
          replace hE := hE.ktn 25 c28
          refine cf hE ?_
          refine wp_skip ?_
          refine block_n ?_
          refine hK16 _ _ ?_
          refine pl0 ?_
          refine plc hE (.r 0 3 .nil) (fun a hE => ?_)
          refine pld ?_
          exact then_n ⟨k11, by omega, _, (w64 (x8 + 1)), by omega, hE, .of, hS, H⟩
        · rw [if_neg c28] at H
          replace hE := hE.kfn 25 c28
          refine ct hE ?_
          refine wp_seq_k fun K29 hK29 => ?_
          refine pl0 ?_
          refine plc hE (.r 0 1 .nil) (fun a hE => ?_)
          refine pld ?_
          refine hK29 _ _ ?_
          refine wp_ret (block_ret (then_ret (then_ret (block_ret (then_ret ?_)))))
          obtain rfl := Option.some.inj H
          exact rt1 hE ⟨_, rfl, _, rfl, hS⟩
      · rw [if_neg c15] at H
        replace hE := hE.kf 14 c15
        refine cf hE ?_
        refine wp_exit ?_
        refine hK6 _ _ ?_
        refine wp_seq_k fun K30 hK30 => ?_
        refine pl0 ?_
        refine plc hE (.r 0 1 .nil) (fun a hE => ?_)
        refine pld ?_
        refine hK30 _ _ ?_
        refine wp_ret ?_
        obtain rfl := Option.some.inj H
        exact rt1 hE ⟨_, rfl, _, rfl, hS⟩
  · rw [if_neg c4] at H
    replace hE := hE.kfn 10 c4
    refine ct hE ?_
    refine wp_seq_k fun K5 hK5 => ?_
    refine pl0 ?_
    refine plc hE (.r 0 1 .nil) (fun a hE => ?_)
    refine pld ?_
    refine hK5 _ _ ?_
    refine wp_ret (then_ret ?_)
    obtain rfl := Option.some.inj H
    exact rt1 hE ⟨_, rfl, _, rfl, hS⟩

/-! ### windrose/windroseref08.Spans: function 54 -/
mutual
def windroseref08_Spans.l9 : Nat → List T_api_Span → List T_api_Span → Int → Option Bool
  | 0, _, _, _ => none
  | k + 1, x0_, x1_, x8 => if x8 < (x0_.length : Int) then (if 0 ≤ x8 ∧ x8 < (x0_.length : Int) then (if 0 ≤ x8 ∧ x8 < (x1_.length : Int) then (if (nth T_api_Span.z x0_ x8).f0 = (nth T_api_Span.z x1_ x8).f0 then ((windroseref02_Ints.f k ((nth T_api_Span.z x0_ x8).f1) ((nth T_api_Span.z x1_ x8).f1)).bind fun t42 => (windroseref08_Spans.j45 k x0_ x1_ x8 (!t42))) else (windroseref08_Spans.j45 k x0_ x1_ x8 true)) else (none)) else (none)) else (some true)
def windroseref08_Spans.j45 : Nat → List T_api_Span → List T_api_Span → Int → Bool → Option Bool
  | 0, _, _, _, _ => none
  | k + 1, x0_, x1_, x8, y44 => if y44 = true then (some false) else (windroseref08_Spans.l9 k x0_ x1_ (w64 (x8 + 1)))
end
theorem windroseref08_Spans.l9_s (k : Nat) (x0_ : List T_api_Span) (x1_ : List T_api_Span) (x8 : Int) : windroseref08_Spans.l9 (k + 1) x0_ x1_ x8 = (if x8 < (x0_.length : Int) then (if 0 ≤ x8 ∧ x8 < (x0_.length : Int) then (if 0 ≤ x8 ∧ x8 < (x1_.length : Int) then (if (nth T_api_Span.z x0_ x8).f0 = (nth T_api_Span.z x1_ x8).f0 then ((windroseref02_Ints.f k ((nth T_api_Span.z x0_ x8).f1) ((nth T_api_Span.z x1_ x8).f1)).bind fun t42 => (windroseref08_Spans.j45 k x0_ x1_ x8 (!t42))) else (windroseref08_Spans.j45 k x0_ x1_ x8 true)) else (none)) else (none)) else (some true)) := by kernel_rfl
theorem windroseref08_Spans.j45_s (k : Nat) (x0_ : List T_api_Span) (x1_ : List T_api_Span) (x8 : Int) (y44 : Bool) : windroseref08_Spans.j45 (k + 1) x0_ x1_ x8 y44 = (if y44 = true then (some false) else (windroseref08_Spans.l9 k x0_ x1_ (w64 (x8 + 1)))) := by kernel_rfl
def windroseref08_Spans.f (k : Nat) (x0_ : List T_api_Span) (x1_ : List T_api_Span) : Option Bool := if (x0_.length : Int) = (x1_.length : Int) then (windroseref08_Spans.l9 k x0_ x1_ 0) else (some false)
def windroseref08_Spans.Post (W F : World) (r : Bool) (v : Value) (w' : World) : Prop := ∃ (F' : World), v = .bool r ∧ St W (mine W []) F w' F' []
set_option maxHeartbeats 4000000 in
set_option maxRecDepth 100000 in
theorem windroseref08_Spans.calls (k : Nat) (x0_ : List T_api_Span) (x1_ : List T_api_Span) (A0_0 : Option Addr) (c0_0 : Nat) (A1_0 : Option Addr) (c1_0 : Nat) (r : Bool) (W F : World) (hown : Sub F W) (g0_0 : Rd T_api_Span.k F A0_0 c0_0 x0_) (g1_0 : Rd T_api_Span.k F A1_0 c1_0 x1_) (H : windroseref08_Spans.f k x0_ x1_ = some r) :
    Calls Tryz.prog 54 #[.slice A0_0 x0_.length c0_0, .slice A1_0 x1_.length c1_0] W fun e w' => ∃ v, e = .returned v ∧ windroseref08_Spans.Post W F r v w' := by
  have hS := St.start (Own.nil hown)
  unfold windroseref08_Spans.f at H
  refine enter (n := 42) rfl rfl rfl (Nat.le_of_ble_eq_true rfl) (fun a hE => ?_)
  refine wp_seq_k fun K1 hK1 => ?_
  refine pl0 ?_
  refine plc hE (.r 0 1 .nil) (fun a hE => ?_)
  refine pld ?_
  refine hK1 _ _ ?_
  refine wp_seq_k fun K2 hK2 => ?_
  refine wp_seq_k fun K3 hK3 => ?_
  refine pl0 ?_
  refine plc hE (.r 0 5 .nil) (fun a hE => ?_)
  refine pld ?_
  refine hK3 _ _ ?_
  by_cases c4 : (x0_.length : Int) = (x1_.length : Int)
  · rw [if_pos c4] at H
    replace hE := hE.ktn 10 c4
    refine cf hE ?_
    refine wp_skip ?_
    refine hK2 _ _ ?_
    refine wp_seq_k fun K6 hK6 => ?_
    refine wp_seq_k fun K7 hK7 => ?_
    refine pl0 ?_
    refine plc hE (.r 0 1 .nil) (fun a hE => ?_)
    refine pld ?_
    refine hK7 _ _ ?_
    refine wp_block ?_
    refine wp_loop_ghost (fun kq10 a w' => ∃ (G : Nat → Value) (x8 : Int), kq10 ≤ k ∧ Env 42 G a ∧ At G [(0, .slice A0_0 x0_.length c0_0), (1, .slice A1_0 x1_.length c1_0), (5, .int .i64 x8)] ∧ St W (mine W []) F w' F [] ∧  windroseref08_Spans.l9 kq10 x0_ x1_ x8 = some r) k ⟨_, 0, Nat.le_refl _, hE, .of, hS, H⟩ ?_
    rintro kq10 a u12 ⟨G, x8, hkq, hE, hA, hS, H⟩
    cases kq10 with
    | zero => cases (show none = some r from H)
    | succ k11 =>
      rw [windroseref08_Spans.l9_s] at H
      obtain ⟨J, hE⟩ := hE.at hA
      refine wp_seq_k fun K13 hK13 => ?_
      refine wp_seq_k fun K14 hK14 => ?_
      refine pl0 ?_
      refine plc hE (.r 0 4 .nil) (fun a hE => ?_)
      refine pld ?_
      refine hK14 _ _ ?_
      by_cases c15 : x8 < (x0_.length : Int)
      · rw [if_pos c15] at H
        replace hE := hE.kt 14 c15
        refine ct hE ?_
        refine wp_skip ?_
        refine hK13 _ _ ?_
        refine wp_seq_k fun K16 hK16 => ?_
        refine wp_block ?_
        refine wp_seq_k fun K17 hK17 => ?_
        have J48 : ∀ kq46, kq46 ≤ k11 → ∀ (G : Nat → Value) (y44 : Bool) (a : Act) (w' : World), Env 42 G a → At G [(0, .slice A0_0 x0_.length c0_0), (1, .slice A1_0 x1_.length c1_0), (5, .int .i64 x8), (41, .bool y44)] → St W (mine W []) F w' F [] → windroseref08_Spans.j45 kq46 x0_ x1_ x8 y44 = some r → K17 a w' := by
          intro kq46 hkq G y44 a u49 hE hA hS H
          cases kq46 with
          | zero => cases (show none = some r from H)
          | succ k47 =>
            rw [windroseref08_Spans.j45_s] at H
            obtain ⟨J, hE⟩ := hE.at hA
            refine hK17 _ _ ?_
            by_cases c50 : y44 = true
            · rw [if_pos c50] at H
              replace hE := hE.bt 41 c50
              refine ct hE ?_
              refine wp_seq_k fun K51 hK51 => ?_
              refine pl0 ?_
              refine plc hE (.r 0 1 .nil) (fun a hE => ?_)
              refine pld ?_
              refine hK51 _ _ ?_
              refine wp_ret (block_ret (then_ret (then_ret (block_ret (then_ret ?_)))))
              obtain rfl := Option.some.inj H
              exact rt1 hE ⟨_, rfl, _, rfl, hS⟩
            · rw [if_neg c50] at H
              replace hE := hE.bf 41 c50
              refine cf hE ?_
              refine wp_skip ?_
              refine block_n ?_
              refine hK16 _ _ ?_
              refine pl0 ?_
              refine plc hE (.r 0 3 .nil) (fun a hE => ?_)
              refine pld ?_
              exact then_n ⟨k47, by omega, _, (w64 (x8 + 1)), by omega, hE, .of, hS, H⟩
        refine drawn 25 ⟨[], [], fun q => False⟩ mixed rfl (by kernel_rfl) (fun hst => ?_)
        replace hS := hS.drew
        by_cases c18 : 0 ≤ x8 ∧ x8 < (x0_.length : Int)
        rotate_left
        · rw [if_neg c18] at H; cases H
        rw [if_pos c18] at H
        have hE_ := hE
        obtain ⟨ad19, rfl⟩ := g0_0.addr c18.1 c18.2
        replace hE := hE_
        obtain ⟨cs21, ⟨A23, c24, rfl, g25⟩, hc22⟩ := g0_0.el T_api_Span.z x8 c18.1 c18.2
        by_cases c26 : 0 ≤ x8 ∧ x8 < (x1_.length : Int)
        rotate_left
        · rw [if_neg c26] at H; cases H
        rw [if_pos c26] at H
        have hE_ := hE
        obtain ⟨ad27, rfl⟩ := g1_0.addr c26.1 c26.2
        replace hE := hE_
        obtain ⟨cs29, ⟨A31, c32, rfl, g33⟩, hc30⟩ := g1_0.el T_api_Span.z x8 c26.1 c26.2
        refine mny 13 hst hE (.r 0 2 <| .x 2 c18 <| .r 3 1 <| .c 4 (hS.fc hc22 0) <| .r 5 2 <| .x 7 c26 <| .r 8 1 <| .c 9 (hS.fc hc30 0) <| .r 10 2 <| .nil) (fun a hE => ?_)
        by_cases c34 : (nth T_api_Span.z x0_ x8).f0 = (nth T_api_Span.z x1_ x8).f0
        · rw [if_pos c34] at H
          replace hE := hE.ktn 28 c34
          refine mny 3 hst hE (.r 12 2 <| .x 14 c18 <| .r 15 1 <| .c 16 (hS.fc hc22 1) <| .r 17 2 <| .x 19 c26 <| .r 20 1 <| .c 21 (hS.fc hc30 1) <| .nil) (fun a hE => ?_)
          obtain ⟨t42, h43, H⟩ := Option.bind_eq_some_iff.mp H
          refine on1 22 hE (.cl en21 (windroseref02_Ints.calls k11 ((nth T_api_Span.z x0_ x8).f1) ((nth T_api_Span.z x1_ x8).f1) _ _ _ _ _ _ _ hS.own.sub g25 g33 h43)) ?_
          rintro _ u41 a ⟨_, rfl, hC⟩ hE
          refine ⟨.of hC.agr, ?_⟩
          replace hS := hS.lent hC
          refine mny 0 hst hE (.r 23 2 .nil) (fun a hE => ?_)
          refine dn ?_
          exact J48 _ (by omega) _ (!t42) _ _ hE .of hS H
        · rw [if_neg c34] at H
          replace hE := hE.kfn 28 c34
          refine mny 0 hst hE (.r 12 13 .nil) (fun a hE => ?_)
          refine dn ?_
          exact J48 _ (by omega) _ true _ _ hE .of hS H
      · rw [if_neg c15] at H
        replace hE := hE.kf 14 c15
        refine cf hE ?_
        refine wp_exit ?_
        refine hK6 _ _ ?_
        refine wp_seq_k fun K52 hK52 => ?_
        refine pl0 ?_
        refine plc hE (.r 0 1 .nil) (fun a hE => ?_)
        refine pld ?_
        refine hK52 _ _ ?_
        refine wp_ret ?_
        obtain rfl := Option.some.inj H
        exact rt1 hE ⟨_, rfl, _, rfl, hS⟩
  · rw [if_neg c4] at H
    replace hE := hE.kfn 10 c4
    refine ct hE ?_
    refine wp_seq_k fun K5 hK5 => ?_
    refine pl0 ?_
    refine plc hE (.r 0 1 .nil) (fun a hE => ?_)
    refine pld ?_
    refine hK5 _ _ ?_
    refine wp_ret (then_ret ?_)
    obtain rfl := Option.some.inj H
    exact rt1 hE ⟨_, rfl, _, rfl, hS⟩

/-! ### windrose/windroseref08.trails: function 66 -/
mutual
def windroseref08_trails.l9 : Nat → List T_api_Trail → List T_api_Trail → Int → Option Bool
  | 0, _, _, _ => none
  | k + 1, x0_, x1_, x8 => if x8 < (x0_.length : Int) then (if 0 ≤ x8 ∧ x8 < (x0_.length : Int) then (if 0 ≤ x8 ∧ x8 < (x1_.length : Int) then (if (nth T_api_Trail.z x0_ x8).f0 = (nth T_api_Trail.z x1_ x8).f0 then ((windroseref08_Spans.f k ((nth T_api_Trail.z x0_ x8).f1) ((nth T_api_Trail.z x1_ x8).f1)).bind fun t42 => (windroseref08_trails.j45 k x0_ x1_ x8 (!t42))) else (windroseref08_trails.j45 k x0_ x1_ x8 true)) else (none)) else (none)) else (some true)
def windroseref08_trails.j45 : Nat → List T_api_Trail → List T_api_Trail → Int → Bool → Option Bool
  | 0, _, _, _, _ => none
  | k + 1, x0_, x1_, x8, y44 => if y44 = true then (some false) else (windroseref08_trails.l9 k x0_ x1_ (w64 (x8 + 1)))
end
theorem windroseref08_trails.l9_s (k : Nat) (x0_ : List T_api_Trail) (x1_ : List T_api_Trail) (x8 : Int) : windroseref08_trails.l9 (k + 1) x0_ x1_ x8 = (if x8 < (x0_.length : Int) then (if 0 ≤ x8 ∧ x8 < (x0_.length : Int) then (if 0 ≤ x8 ∧ x8 < (x1_.length : Int) then (if (nth T_api_Trail.z x0_ x8).f0 = (nth T_api_Trail.z x1_ x8).f0 then ((windroseref08_Spans.f k ((nth T_api_Trail.z x0_ x8).f1) ((nth T_api_Trail.z x1_ x8).f1)).bind fun t42 => (windroseref08_trails.j45 k x0_ x1_ x8 (!t42))) else (windroseref08_trails.j45 k x0_ x1_ x8 true)) else (none)) else (none)) else (some true)) := by kernel_rfl
theorem windroseref08_trails.j45_s (k : Nat) (x0_ : List T_api_Trail) (x1_ : List T_api_Trail) (x8 : Int) (y44 : Bool) : windroseref08_trails.j45 (k + 1) x0_ x1_ x8 y44 = (if y44 = true then (some false) else (windroseref08_trails.l9 k x0_ x1_ (w64 (x8 + 1)))) := by kernel_rfl
def windroseref08_trails.f (k : Nat) (x0_ : List T_api_Trail) (x1_ : List T_api_Trail) : Option Bool := if (x0_.length : Int) = (x1_.length : Int) then (windroseref08_trails.l9 k x0_ x1_ 0) else (some false)
def windroseref08_trails.Post (W F : World) (r : Bool) (v : Value) (w' : World) : Prop := ∃ (F' : World), v = .bool r ∧ St W (mine W []) F w' F' []
set_option maxHeartbeats 4000000 in
set_option maxRecDepth 100000 in
theorem windroseref08_trails.calls (k : Nat) (x0_ : List T_api_Trail) (x1_ : List T_api_Trail) (A0_0 : Option Addr) (c0_0 : Nat) (A1_0 : Option Addr) (c1_0 : Nat) (r : Bool) (W F : World) (hown : Sub F W) (g0_0 : Rd T_api_Trail.k F A0_0 c0_0 x0_) (g1_0 : Rd T_api_Trail.k F A1_0 c1_0 x1_) (H : windroseref08_trails.f k x0_ x1_ = some r) :
    Calls Tryz.prog 66 #[.slice A0_0 x0_.length c0_0, .slice A1_0 x1_.length c1_0] W fun e w' => ∃ v, e = .returned v ∧ windroseref08_trails.Post W F r v w' := by
  have hS := St.start (Own.nil hown)
  unfold windroseref08_trails.f at H
  refine enter (n := 42) rfl rfl rfl (Nat.le_of_ble_eq_true rfl) (fun a hE => ?_)
  refine wp_seq_k fun K1 hK1 => ?_
  refine pl0 ?_
  refine plc hE (.r 0 1 .nil) (fun a hE => ?_)
  refine pld ?_
  refine hK1 _ _ ?_
  refine wp_seq_k fun K2 hK2 => ?_
  refine wp_seq_k fun K3 hK3 => ?_
  refine pl0 ?_
  refine plc hE (.r 0 5 .nil) (fun a hE => ?_)
  refine pld ?_
  refine hK3 _ _ ?_
  by_cases c4 : (x0_.length : Int) = (x1_.length : Int)
  · rw [if_pos c4] at H
    replace hE := hE.ktn 10 c4
    refine cf hE ?_
    refine wp_skip ?_
    refine hK2 _ _ ?_
    refine wp_seq_k fun K6 hK6 => ?_
    refine wp_seq_k fun K7 hK7 => ?_
    refine pl0 ?_
    refine plc hE (.r 0 1 .nil) (fun a hE => ?_)
    refine pld ?_
    refine hK7 _ _ ?_
    refine wp_block ?_
    refine wp_loop_ghost (fun kq10 a w' => ∃ (G : Nat → Value) (x8 : Int), kq10 ≤ k ∧ Env 42 G a ∧ At G [(0, .slice A0_0 x0_.length c0_0), (1, .slice A1_0 x1_.length c1_0), (5, .int .i64 x8)] ∧ St W (mine W []) F w' F [] ∧  windroseref08_trails.l9 kq10 x0_ x1_ x8 = some r) k ⟨_, 0, Nat.le_refl _, hE, .of, hS, H⟩ ?_
    rintro kq10 a u12 ⟨G, x8, hkq, hE, hA, hS, H⟩
    cases kq10 with
    | zero => cases (show none = some r from H)
    | succ k11 =>
      rw [windroseref08_trails.l9_s] at H
      obtain ⟨J, hE⟩ := hE.at hA
      refine wp_seq_k fun K13 hK13 => ?_
      refine wp_seq_k fun K14 hK14 => ?_
      refine pl0 ?_
      refine plc hE (.r 0 4 .nil) (fun a hE => ?_)
      refine pld ?_
      refine hK14 _ _ ?_
      by_cases c15 : x8 < (x0_.length : Int)
      · rw [if_pos c15] at H
        replace hE := hE.kt 14 c15
        refine ct hE ?_
        refine wp_skip ?_
        refine hK13 _ _ ?_
        refine wp_seq_k fun K16 hK16 => ?_
        refine wp_block ?_
        refine wp_seq_k fun K17 hK17 => ?_
        have J48 : ∀ kq46, kq46 ≤ k11 → ∀ (G : Nat → Value) (y44 : Bool) (a : Act) (w' : World), Env 42 G a → At G [(0, .slice A0_0 x0_.length c0_0), (1, .slice A1_0 x1_.length c1_0), (5, .int .i64 x8), (41, .bool y44)] → St W (mine W []) F w' F [] → windroseref08_trails.j45 kq46 x0_ x1_ x8 y44 = some r → K17 a w' := by
          intro kq46 hkq G y44 a u49 hE hA hS H
          cases kq46 with
          | zero => cases (show none = some r from H)
          | succ k47 =>
            rw [windroseref08_trails.j45_s] at H
            obtain ⟨J, hE⟩ := hE.at hA
            refine hK17 _ _ ?_
            by_cases c50 : y44 = true
            · rw [if_pos c50] at H
              replace hE := hE.bt 41 c50
              refine ct hE ?_
              refine wp_seq_k fun K51 hK51 => ?_
              refine pl0 ?_
              refine plc hE (.r 0 1 .nil) (fun a hE => ?_)
              refine pld ?_
              refine hK51 _ _ ?_
              refine wp_ret (block_ret (then_ret (then_ret (block_ret (then_ret ?_)))))
              obtain rfl := Option.some.inj H
              exact rt1 hE ⟨_, rfl, _, rfl, hS⟩
            · rw [if_neg c50] at H
              replace hE := hE.bf 41 c50
              refine cf hE ?_
              refine wp_skip ?_
              refine block_n ?_
              refine hK16 _ _ ?_
              refine pl0 ?_
              refine plc hE (.r 0 3 .nil) (fun a hE => ?_)
              refine pld ?_
              exact then_n ⟨k47, by omega, _, (w64 (x8 + 1)), by omega, hE, .of, hS, H⟩
        refine drawn 25 ⟨[], [], fun q => False⟩ mixed rfl (by kernel_rfl) (fun hst => ?_)
        replace hS := hS.drew
        by_cases c18 : 0 ≤ x8 ∧ x8 < (x0_.length : Int)
        rotate_left
        · rw [if_neg c18] at H; cases H
        rw [if_pos c18] at H
        have hE_ := hE
        obtain ⟨ad19, rfl⟩ := g0_0.addr c18.1 c18.2
        replace hE := hE_
        obtain ⟨cs21, ⟨A23, c24, rfl, g25⟩, hc22⟩ := g0_0.el T_api_Trail.z x8 c18.1 c18.2
        by_cases c26 : 0 ≤ x8 ∧ x8 < (x1_.length : Int)
        rotate_left
        · rw [if_neg c26] at H; cases H
        rw [if_pos c26] at H
        have hE_ := hE
        obtain ⟨ad27, rfl⟩ := g1_0.addr c26.1 c26.2
        replace hE := hE_
        obtain ⟨cs29, ⟨A31, c32, rfl, g33⟩, hc30⟩ := g1_0.el T_api_Trail.z x8 c26.1 c26.2
        refine mny 13 hst hE (.r 0 2 <| .x 2 c18 <| .r 3 1 <| .c 4 (hS.fc hc22 0) <| .r 5 2 <| .x 7 c26 <| .r 8 1 <| .c 9 (hS.fc hc30 0) <| .r 10 2 <| .nil) (fun a hE => ?_)
        by_cases c34 : (nth T_api_Trail.z x0_ x8).f0 = (nth T_api_Trail.z x1_ x8).f0
        · rw [if_pos c34] at H
          replace hE := hE.ktn 28 c34
          refine mny 3 hst hE (.r 12 2 <| .x 14 c18 <| .r 15 1 <| .c 16 (hS.fc hc22 1) <| .r 17 2 <| .x 19 c26 <| .r 20 1 <| .c 21 (hS.fc hc30 1) <| .nil) (fun a hE => ?_)
          obtain ⟨t42, h43, H⟩ := Option.bind_eq_some_iff.mp H
          refine on1 22 hE (.cl en54 (windroseref08_Spans.calls k11 ((nth T_api_Trail.z x0_ x8).f1) ((nth T_api_Trail.z x1_ x8).f1) _ _ _ _ _ _ _ hS.own.sub g25 g33 h43)) ?_
          rintro _ u41 a ⟨_, rfl, hC⟩ hE
          refine ⟨.of hC.agr, ?_⟩
          replace hS := hS.lent hC
          refine mny 0 hst hE (.r 23 2 .nil) (fun a hE => ?_)
          refine dn ?_
          exact J48 _ (by omega) _ (!t42) _ _ hE .of hS H
        · rw [if_neg c34] at H
          replace hE := hE.kfn 28 c34
          refine mny 0 hst hE (.r 12 13 .nil) (fun a hE => ?_)
          refine dn ?_
          exact J48 _ (by omega) _ true _ _ hE .of hS H
      · rw [if_neg c15] at H
        replace hE := hE.kf 14 c15
        refine cf hE ?_
        refine wp_exit ?_
        refine hK6 _ _ ?_
        refine wp_seq_k fun K52 hK52 => ?_
        refine pl0 ?_
        refine plc hE (.r 0 1 .nil) (fun a hE => ?_)
        refine pld ?_
        refine hK52 _ _ ?_
        refine wp_ret ?_
        obtain rfl := Option.some.inj H
        exact rt1 hE ⟨_, rfl, _, rfl, hS⟩
  · rw [if_neg c4] at H
    replace hE := hE.kfn 10 c4
    refine ct hE ?_
    refine wp_seq_k fun K5 hK5 => ?_
    refine pl0 ?_
    refine plc hE (.r 0 1 .nil) (fun a hE => ?_)
    refine pld ?_
    refine hK5 _ _ ?_
    refine wp_ret (then_ret ?_)
    obtain rfl := Option.some.inj H
    exact rt1 hE ⟨_, rfl, _, rfl, hS⟩

/-! ### windrose/windroseref08.Same: function 16 -/
mutual
def windroseref08_Same.j17 : Nat → T_api_Map → T_api_Map → Bool → Option Bool
  | 0, _, _, _ => none
  | k + 1, x0_, x1_, y16 => if y16 = true then (some false) else (windroseref08_Same.l27 k x0_ x1_ 0)
def windroseref08_Same.l27 : Nat → T_api_Map → T_api_Map → Int → Option Bool
  | 0, _, _, _ => none
  | k + 1, x0_, x1_, x26 => if x26 < (x0_.f5.length : Int) then (if 0 ≤ x26 ∧ x26 < (x0_.f5.length : Int) then (if 0 ≤ x26 ∧ x26 < (x1_.f5.length : Int) then (if (nth T_api_Temp.z x0_.f5 x26).f0 = (nth T_api_Temp.z x1_.f5 x26).f0 then ((windroseref02_Ints.f k ((nth T_api_Temp.z x0_.f5 x26).f1) ((nth T_api_Temp.z x1_.f5 x26).f1)).bind fun t60 => (windroseref08_Same.j63 k x0_ x1_ x26 (!t60))) else (windroseref08_Same.j63 k x0_ x1_ x26 true)) else (none)) else (none)) else ((windroseref08_trails.f k x0_.f6 x1_.f6).bind fun t72 => (some t72))
def windroseref08_Same.j63 : Nat → T_api_Map → T_api_Map → Int → Bool → Option Bool
  | 0, _, _, _, _ => none
  | k + 1, x0_, x1_, x26, y62 => if y62 = true then (some false) else (windroseref08_Same.l27 k x0_ x1_ (w64 (x26 + 1)))
end
theorem windroseref08_Same.j17_s (k : Nat) (x0_ : T_api_Map) (x1_ : T_api_Map) (y16 : Bool) : windroseref08_Same.j17 (k + 1) x0_ x1_ y16 = (if y16 = true then (some false) else (windroseref08_Same.l27 k x0_ x1_ 0)) := by kernel_rfl
theorem windroseref08_Same.l27_s (k : Nat) (x0_ : T_api_Map) (x1_ : T_api_Map) (x26 : Int) : windroseref08_Same.l27 (k + 1) x0_ x1_ x26 = (if x26 < (x0_.f5.length : Int) then (if 0 ≤ x26 ∧ x26 < (x0_.f5.length : Int) then (if 0 ≤ x26 ∧ x26 < (x1_.f5.length : Int) then (if (nth T_api_Temp.z x0_.f5 x26).f0 = (nth T_api_Temp.z x1_.f5 x26).f0 then ((windroseref02_Ints.f k ((nth T_api_Temp.z x0_.f5 x26).f1) ((nth T_api_Temp.z x1_.f5 x26).f1)).bind fun t60 => (windroseref08_Same.j63 k x0_ x1_ x26 (!t60))) else (windroseref08_Same.j63 k x0_ x1_ x26 true)) else (none)) else (none)) else ((windroseref08_trails.f k x0_.f6 x1_.f6).bind fun t72 => (some t72))) := by kernel_rfl
theorem windroseref08_Same.j63_s (k : Nat) (x0_ : T_api_Map) (x1_ : T_api_Map) (x26 : Int) (y62 : Bool) : windroseref08_Same.j63 (k + 1) x0_ x1_ x26 y62 = (if y62 = true then (some false) else (windroseref08_Same.l27 k x0_ x1_ (w64 (x26 + 1)))) := by kernel_rfl
def windroseref08_Same.f (k : Nat) (x0_ : T_api_Map) (x1_ : T_api_Map) : Option Bool := if x0_.f0 = x1_.f0 then (if x0_.f1 = x1_.f1 then (if x0_.f2 = x1_.f2 then (if x0_.f3 = x1_.f3 then ((windroseref06_Same.f k x0_.f4 x1_.f4).bind fun t13 => (if t13 = true then (windroseref08_Same.j17 k x0_ x1_ (!((x0_.f5.length : Int) == (x1_.f5.length : Int)))) else (windroseref08_Same.j17 k x0_ x1_ true))) else (windroseref08_Same.j17 k x0_ x1_ true)) else (windroseref08_Same.j17 k x0_ x1_ true)) else (windroseref08_Same.j17 k x0_ x1_ true)) else (windroseref08_Same.j17 k x0_ x1_ true)
def windroseref08_Same.Post (W F : World) (r : Bool) (v : Value) (w' : World) : Prop := ∃ (F' : World), v = .bool r ∧ St W (mine W []) F w' F' []
set_option maxHeartbeats 4000000 in
set_option maxRecDepth 100000 in
theorem windroseref08_Same.calls (k : Nat) (x0_ : T_api_Map) (x1_ : T_api_Map) (A0_4 : Option Addr) (c0_4 : Nat) (A0_5 : Option Addr) (c0_5 : Nat) (A0_6 : Option Addr) (c0_6 : Nat) (A1_4 : Option Addr) (c1_4 : Nat) (A1_5 : Option Addr) (c1_5 : Nat) (A1_6 : Option Addr) (c1_6 : Nat) (r : Bool) (W F : World) (hown : Sub F W) (g0_4 : Rd T_api_Node.k F A0_4 c0_4 x0_.f4) (g0_5 : Rd T_api_Temp.k F A0_5 c0_5 x0_.f5) (g0_6 : Rd T_api_Trail.k F A0_6 c0_6 x0_.f6) (g1_4 : Rd T_api_Node.k F A1_4 c1_4 x1_.f4) (g1_5 : Rd T_api_Temp.k F A1_5 c1_5 x1_.f5) (g1_6 : Rd T_api_Trail.k F A1_6 c1_6 x1_.f6) (H : windroseref08_Same.f k x0_ x1_ = some r) :
    Calls Tryz.prog 16 #[.agg #[.int .i64 x0_.f0, .int .i64 x0_.f1, .int .i64 x0_.f2, .int .i64 x0_.f3, .slice A0_4 x0_.f4.length c0_4, .slice A0_5 x0_.f5.length c0_5, .slice A0_6 x0_.f6.length c0_6], .agg #[.int .i64 x1_.f0, .int .i64 x1_.f1, .int .i64 x1_.f2, .int .i64 x1_.f3, .slice A1_4 x1_.f4.length c1_4, .slice A1_5 x1_.f5.length c1_5, .slice A1_6 x1_.f6.length c1_6]] W fun e w' => ∃ v, e = .returned v ∧ windroseref08_Same.Post W F r v w' := by
  have hS := St.start (Own.nil hown)
  unfold windroseref08_Same.f at H
  refine enter (n := 90) rfl rfl rfl (Nat.le_of_ble_eq_true rfl) (fun a hE => ?_)
  refine wp_seq_k fun K1 hK1 => ?_
  refine pl0 ?_
  refine ple hE (.bx (t := 26) hS [.int .i64 x0_.f0, .int .i64 x0_.f1, .int .i64 x0_.f2, .int .i64 x0_.f3, .slice A0_4 x0_.f4.length c0_4, .slice A0_5 x0_.f5.length c0_5, .slice A0_6 x0_.f6.length c0_6]) ?_
  rintro _ u3 a ⟨b2, rfl, hb2, hS, hg⟩ hE
  refine ple hE (.bx (t := 26) hS [.int .i64 x1_.f0, .int .i64 x1_.f1, .int .i64 x1_.f2, .int .i64 x1_.f3, .slice A1_4 x1_.f4.length c1_4, .slice A1_5 x1_.f5.length c1_5, .slice A1_6 x1_.f6.length c1_6]) ?_
  rintro _ u5 a ⟨b4, rfl, hb4, hS, hg⟩ hE
  refine plc hE (.r 2 1 .nil) (fun a hE => ?_)
  refine pld ?_
  refine hK1 _ _ ?_
  refine wp_seq_k fun K6 hK6 => ?_
  refine wp_seq_k fun K7 hK7 => ?_
  have J20 : ∀ kq18, kq18 ≤ k → ∀ (G : Nat → Value) (y16 : Bool) (a : Act) (w' : World), Env 90 G a → At G [(2, .pointer (some ⟨b2, 0, none⟩)), (3, .pointer (some ⟨b4, 0, none⟩)), (48, .bool y16)] → St W (mine W []) F w' F [box b4 #[.int .i64 x1_.f0, .int .i64 x1_.f1, .int .i64 x1_.f2, .int .i64 x1_.f3, .slice A1_4 x1_.f4.length c1_4, .slice A1_5 x1_.f5.length c1_5, .slice A1_6 x1_.f6.length c1_6] 26, box b2 #[.int .i64 x0_.f0, .int .i64 x0_.f1, .int .i64 x0_.f2, .int .i64 x0_.f3, .slice A0_4 x0_.f4.length c0_4, .slice A0_5 x0_.f5.length c0_5, .slice A0_6 x0_.f6.length c0_6] 26] → windroseref08_Same.j17 kq18 x0_ x1_ y16 = some r → K7 a w' := by
    intro kq18 hkq G y16 a u21 hE hA hS H
    cases kq18 with
    | zero => cases (show none = some r from H)
    | succ k19 =>
      rw [windroseref08_Same.j17_s] at H
      obtain ⟨J, hE⟩ := hE.at hA
      refine hK7 _ _ ?_
      by_cases c22 : y16 = true
      · rw [if_pos c22] at H
        replace hE := hE.bt 48 c22
        refine ct hE ?_
        refine wp_seq_k fun K23 hK23 => ?_
        refine pl0 ?_
        refine plc hE (.r 0 1 .nil) (fun a hE => ?_)
        refine pld ?_
        refine hK23 _ _ ?_
        refine wp_ret (then_ret ?_)
        replace hS := hS.tail
        replace hS := hS.tail
        obtain rfl := Option.some.inj H
        exact rt1 hE ⟨_, rfl, _, rfl, hS⟩
      · rw [if_neg c22] at H
        replace hE := hE.bf 48 c22
        refine cf hE ?_
        refine wp_skip ?_
        refine hK6 _ _ ?_
        refine wp_seq_k fun K24 hK24 => ?_
        refine wp_seq_k fun K25 hK25 => ?_
        refine pl0 ?_
        refine plc hE (.r 0 1 .nil) (fun a hE => ?_)
        refine pld ?_
        refine hK25 _ _ ?_
        refine wp_block ?_
        refine wp_loop_ghost (fun kq28 a w' => ∃ (G : Nat → Value) (x26 : Int), kq28 ≤ k19 ∧ Env 90 G a ∧ At G [(2, .pointer (some ⟨b2, 0, none⟩)), (3, .pointer (some ⟨b4, 0, none⟩)), (5, .int .i64 x26)] ∧ St W (mine W []) F w' F [box b4 #[.int .i64 x1_.f0, .int .i64 x1_.f1, .int .i64 x1_.f2, .int .i64 x1_.f3, .slice A1_4 x1_.f4.length c1_4, .slice A1_5 x1_.f5.length c1_5, .slice A1_6 x1_.f6.length c1_6] 26, box b2 #[.int .i64 x0_.f0, .int .i64 x0_.f1, .int .i64 x0_.f2, .int .i64 x0_.f3, .slice A0_4 x0_.f4.length c0_4, .slice A0_5 x0_.f5.length c0_5, .slice A0_6 x0_.f6.length c0_6] 26] ∧  windroseref08_Same.l27 kq28 x0_ x1_ x26 = some r) k19 ⟨_, 0, Nat.le_refl _, hE, .of, hS, H⟩ ?_
        rintro kq28 a u30 ⟨G, x26, hkq, hE, hA, hS, H⟩
        cases kq28 with
        | zero => cases (show none = some r from H)
        | succ k29 =>
          rw [windroseref08_Same.l27_s] at H
          obtain ⟨J, hE⟩ := hE.at hA
          refine wp_seq_k fun K31 hK31 => ?_
          refine wp_seq_k fun K32 hK32 => ?_
          refine pl0 ?_
          have hb2 := hS.blk_at (i := 1) rfl
          refine plc hE (.r 0 2 <| .b 2 5 hb2 <| .r 3 2 <| .nil) (fun a hE => ?_)
          refine pld ?_
          refine hK32 _ _ ?_
          by_cases c33 : x26 < (x0_.f5.length : Int)
          · rw [if_pos c33] at H
            replace hE := hE.kt 53 c33
            refine ct hE ?_
            refine wp_skip ?_
            refine hK31 _ _ ?_
            refine wp_seq_k fun K34 hK34 => ?_
            refine wp_block ?_
            refine wp_seq_k fun K35 hK35 => ?_
            have J66 : ∀ kq64, kq64 ≤ k29 → ∀ (G : Nat → Value) (y62 : Bool) (a : Act) (w' : World), Env 90 G a → At G [(2, .pointer (some ⟨b2, 0, none⟩)), (3, .pointer (some ⟨b4, 0, none⟩)), (5, .int .i64 x26), (84, .bool y62)] → St W (mine W []) F w' F [box b4 #[.int .i64 x1_.f0, .int .i64 x1_.f1, .int .i64 x1_.f2, .int .i64 x1_.f3, .slice A1_4 x1_.f4.length c1_4, .slice A1_5 x1_.f5.length c1_5, .slice A1_6 x1_.f6.length c1_6] 26, box b2 #[.int .i64 x0_.f0, .int .i64 x0_.f1, .int .i64 x0_.f2, .int .i64 x0_.f3, .slice A0_4 x0_.f4.length c0_4, .slice A0_5 x0_.f5.length c0_5, .slice A0_6 x0_.f6.length c0_6] 26] → windroseref08_Same.j63 kq64 x0_ x1_ x26 y62 = some r → K35 a w' := by
              intro kq64 hkq G y62 a u67 hE hA hS H
              cases kq64 with
              | zero => cases (show none = some r from H)
              | succ k65 =>
                rw [windroseref08_Same.j63_s] at H
                obtain ⟨J, hE⟩ := hE.at hA
                refine hK35 _ _ ?_
                by_cases c68 : y62 = true
                · rw [if_pos c68] at H
                  replace hE := hE.bt 84 c68
                  refine ct hE ?_
                  refine wp_seq_k fun K69 hK69 => ?_
                  refine pl0 ?_
                  refine plc hE (.r 0 1 .nil) (fun a hE => ?_)
                  refine pld ?_
                  refine hK69 _ _ ?_
                  refine wp_ret (block_ret (then_ret (then_ret (block_ret (then_ret ?_)))))
                  replace hS := hS.tail
                  replace hS := hS.tail
                  obtain rfl := Option.some.inj H
                  exact rt1 hE ⟨_, rfl, _, rfl, hS⟩
                · rw [if_neg c68] at H
                  replace hE := hE.bf 84 c68
                  refine cf hE ?_
                  refine wp_skip ?_
                  refine block_n ?_
                  refine hK34 _ _ ?_
                  refine pl0 ?_
                  refine plc hE (.r 0 3 .nil) (fun a hE => ?_)
                  refine pld ?_
                  exact then_n ⟨k65, by omega, _, (w64 (x26 + 1)), by omega, hE, .of, hS, H⟩
            refine drawn 29 ⟨[], [], fun q => False⟩ mixed rfl (by kernel_rfl) (fun hst => ?_)
            replace hS := hS.drew
            have hb2 := hS.blk_at (i := 1) rfl
            by_cases c36 : 0 ≤ x26 ∧ x26 < (x0_.f5.length : Int)
            rotate_left
            · rw [if_neg c36] at H; cases H
            rw [if_pos c36] at H
            have hE_ := hE
            obtain ⟨ad37, rfl⟩ := g0_5.addr c36.1 c36.2
            replace hE := hE_
            obtain ⟨cs39, ⟨A41, c42, rfl, g43⟩, hc40⟩ := g0_5.el T_api_Temp.z x26 c36.1 c36.2
            have hb4 := hS.blk_at (i := 0) rfl
            by_cases c44 : 0 ≤ x26 ∧ x26 < (x1_.f5.length : Int)
            rotate_left
            · rw [if_neg c44] at H; cases H
            rw [if_pos c44] at H
            have hE_ := hE
            obtain ⟨ad45, rfl⟩ := g1_5.addr c44.1 c44.2
            replace hE := hE_
            obtain ⟨cs47, ⟨A49, c50, rfl, g51⟩, hc48⟩ := g1_5.el T_api_Temp.z x26 c44.1 c44.2
            refine mny 15 hst hE (.r 0 1 <| .b 1 5 hb2 <| .r 2 1 <| .x 3 c36 <| .r 4 1 <| .c 5 (hS.fc hc40 0) <| .r 6 1 <| .b 7 5 hb4 <| .r 8 1 <| .x 9 c44 <| .r 10 1 <| .c 11 (hS.fc hc48 0) <| .r 12 2 <| .nil) (fun a hE => ?_)
            by_cases c52 : (nth T_api_Temp.z x0_.f5 x26).f0 = (nth T_api_Temp.z x1_.f5 x26).f0
            · rw [if_pos c52] at H
              replace hE := hE.ktn 69 c52
              refine mny 3 hst hE (.r 14 1 <| .b 15 5 hb2 <| .r 16 1 <| .x 17 c36 <| .r 18 1 <| .c 19 (hS.fc hc40 1) <| .r 20 1 <| .b 21 5 hb4 <| .r 22 1 <| .x 23 c44 <| .r 24 1 <| .c 25 (hS.fc hc48 1) <| .nil) (fun a hE => ?_)
              obtain ⟨t60, h61, H⟩ := Option.bind_eq_some_iff.mp H
              refine on1 26 hE (.cl en21 (windroseref02_Ints.calls k29 ((nth T_api_Temp.z x0_.f5 x26).f1) ((nth T_api_Temp.z x1_.f5 x26).f1) _ _ _ _ _ _ _ hS.own.sub g43 g51 h61)) ?_
              rintro _ u59 a ⟨_, rfl, hC⟩ hE
              refine ⟨.of hC.agr, ?_⟩
              replace hS := hS.lent hC
              refine mny 0 hst hE (.r 27 2 .nil) (fun a hE => ?_)
              refine dn ?_
              exact J66 _ (by omega) _ (!t60) _ _ hE .of hS H
            · rw [if_neg c52] at H
              replace hE := hE.kfn 69 c52
              refine mny 0 hst hE (.r 14 15 .nil) (fun a hE => ?_)
              refine dn ?_
              exact J66 _ (by omega) _ true _ _ hE .of hS H
          · rw [if_neg c33] at H
            replace hE := hE.kf 53 c33
            refine cf hE ?_
            refine wp_exit ?_
            refine hK24 _ _ ?_
            refine wp_seq_k fun K70 hK70 => ?_
            refine pl0 ?_
            have hb4 := hS.blk_at (i := 0) rfl
            refine plc hE (.r 0 1 <| .b 1 6 hb2 <| .r 2 1 <| .b 3 6 hb4 <| .nil) (fun a hE => ?_)
            obtain ⟨t72, h73, H⟩ := Option.bind_eq_some_iff.mp H
            refine ple hE (.cl en66 (windroseref08_trails.calls k29 x0_.f6 x1_.f6 _ _ _ _ _ _ _ hS.own.sub g0_6 g1_6 h73)) ?_
            rintro _ u71 a ⟨_, rfl, hC⟩ hE
            replace hS := hS.lent hC
            refine plc hE (.r 5 1 .nil) (fun a hE => ?_)
            refine pld ?_
            refine hK70 _ _ ?_
            refine wp_ret ?_
            replace hS := hS.tail
            replace hS := hS.tail
            obtain rfl := Option.some.inj H
            exact rt1 hE ⟨_, rfl, _, rfl, hS⟩
  refine pl0 ?_
  have hb2 := hS.blk_at (i := 1) rfl
  refine plc hE (.r 0 1 <| .b 1 0 hb2 <| .r 2 1 <| .b 3 0 hb4 <| .r 4 2 <| .nil) (fun a hE => ?_)
  by_cases c8 : x0_.f0 = x1_.f0
  · rw [if_pos c8] at H
    replace hE := hE.ktn 11 c8
    refine plc hE (.r 6 1 <| .b 7 1 hb2 <| .r 8 1 <| .b 9 1 hb4 <| .r 10 3 <| .nil) (fun a hE => ?_)
    by_cases c9 : x0_.f1 = x1_.f1
    · rw [if_pos c9] at H
      replace hE := hE.ktn 18 c9
      refine plc hE (.r 13 1 <| .b 14 2 hb2 <| .r 15 1 <| .b 16 2 hb4 <| .r 17 3 <| .nil) (fun a hE => ?_)
      by_cases c10 : x0_.f2 = x1_.f2
      · rw [if_pos c10] at H
        replace hE := hE.ktn 25 c10
        refine plc hE (.r 20 1 <| .b 21 3 hb2 <| .r 22 1 <| .b 23 3 hb4 <| .r 24 3 <| .nil) (fun a hE => ?_)
        by_cases c11 : x0_.f3 = x1_.f3
        · rw [if_pos c11] at H
          replace hE := hE.ktn 32 c11
          refine plc hE (.r 27 1 <| .b 28 4 hb2 <| .r 29 1 <| .b 30 4 hb4 <| .nil) (fun a hE => ?_)
          obtain ⟨t13, h14, H⟩ := Option.bind_eq_some_iff.mp H
          refine ple hE (.cl en65 (windroseref06_Same.calls k x0_.f4 x1_.f4 _ _ _ _ _ _ _ hS.own.sub g0_4 g1_4 h14)) ?_
          rintro _ u12 a ⟨_, rfl, hC⟩ hE
          replace hS := hS.lent hC
          refine plc hE (.r 32 3 .nil) (fun a hE => ?_)
          by_cases c15 : t13 = true
          · rw [if_pos c15] at H
            replace hE := hE.btn 40 c15
            have hb2 := hS.blk_at (i := 1) rfl
            have hb4 := hS.blk_at (i := 0) rfl
            refine plc hE (.r 35 1 <| .b 36 5 hb2 <| .r 37 2 <| .b 39 5 hb4 <| .r 40 3 <| .nil) (fun a hE => ?_)
            refine pld ?_
            exact J20 _ (by omega) _ (!((x0_.f5.length : Int) == (x1_.f5.length : Int))) _ _ hE .of hS H
          · rw [if_neg c15] at H
            replace hE := hE.bfn 40 c15
            refine plc hE (.r 35 8 .nil) (fun a hE => ?_)
            refine pld ?_
            exact J20 _ (by omega) _ true _ _ hE .of hS H
        · rw [if_neg c11] at H
          replace hE := hE.kfn 32 c11
          refine plc hE (.r 27 16 .nil) (fun a hE => ?_)
          refine pld ?_
          exact J20 _ (by omega) _ true _ _ hE .of hS H
      · rw [if_neg c10] at H
        replace hE := hE.kfn 25 c10
        refine plc hE (.r 20 23 .nil) (fun a hE => ?_)
        refine pld ?_
        exact J20 _ (by omega) _ true _ _ hE .of hS H
    · rw [if_neg c9] at H
      replace hE := hE.kfn 18 c9
      refine plc hE (.r 13 30 .nil) (fun a hE => ?_)
      refine pld ?_
      exact J20 _ (by omega) _ true _ _ hE .of hS H
  · rw [if_neg c8] at H
    replace hE := hE.kfn 11 c8
    refine plc hE (.r 6 37 .nil) (fun a hE => ?_)
    refine pld ?_
    exact J20 _ (by omega) _ true _ _ hE .of hS H

/-! ### windrose/maps.bare: function 76 -/
def maps_bare.f (x0_ : T_api_Delta) : Option Bool := if x0_.f0 = 1 then (if x0_.f5 = 0 then (some ((x0_.f6.length : Int) == 0)) else (some false)) else (if x0_.f0 = 2 then (if x0_.f2 = 0 then (if x0_.f3 = 0 then (if x0_.f5 = 0 then (some ((x0_.f6.length : Int) == 0)) else (some false)) else (some false)) else (some false)) else (if x0_.f0 = 10 then (if x0_.f1 = 0 then (if x0_.f2 = 0 then (if x0_.f3 = 0 then (some ((x0_.f6.length : Int) == 0)) else (some false)) else (some false)) else (some false)) else (if x0_.f0 = 8 then (if x0_.f1 = 0 then (if x0_.f2 = 0 then (if x0_.f3 = 0 then (some (x0_.f4 == 0)) else (some false)) else (some false)) else (some false)) else (if x0_.f2 = 0 then (if x0_.f3 = 0 then (if x0_.f4 = 0 then (if x0_.f5 = 0 then (if (x0_.f6.length : Int) = 0 then (if x0_.f0 = 9 then (some (x0_.f1 == 0)) else (some true)) else (some false)) else (some false)) else (some false)) else (some false)) else (some false)))))
def maps_bare.Post (W F : World) (r : Bool) (v : Value) (w' : World) : Prop := ∃ (F' : World), v = .bool r ∧ St W (mine W []) F w' F' []
set_option maxHeartbeats 4000000 in
set_option maxRecDepth 100000 in
theorem maps_bare.calls (x0_ : T_api_Delta) (A0_6 : Option Addr) (c0_6 : Nat) (r : Bool) (W F : World) (hown : Sub F W) (g0_6 : Rd (Kn.int .i64) F A0_6 c0_6 x0_.f6) (H : maps_bare.f x0_ = some r) :
    Calls Tryz.prog 76 #[.agg #[.int .i64 x0_.f0, .int .i64 x0_.f1, .int .i64 x0_.f2, .int .i64 x0_.f3, .int .i64 x0_.f4, .int .i64 x0_.f5, .slice A0_6 x0_.f6.length c0_6]] W fun e w' => ∃ v, e = .returned v ∧ maps_bare.Post W F r v w' := by
  have hS := St.start (Own.nil hown)
  unfold maps_bare.f at H
  refine enter (n := 112) rfl rfl rfl (Nat.le_of_ble_eq_true rfl) (fun a hE => ?_)
  refine wp_seq_k fun K1 hK1 => ?_
  refine pl0 ?_
  refine ple hE (.bx (t := 40) hS [.int .i64 x0_.f0, .int .i64 x0_.f1, .int .i64 x0_.f2, .int .i64 x0_.f3, .int .i64 x0_.f4, .int .i64 x0_.f5, .slice A0_6 x0_.f6.length c0_6]) ?_
  rintro _ u3 a ⟨b2, rfl, hb2, hS, hg⟩ hE
  refine plc hE (.r 1 1 .nil) (fun a hE => ?_)
  refine pld ?_
  refine hK1 _ _ ?_
  refine wp_seq_k fun K4 hK4 => ?_
  refine wp_seq_k fun K5 hK5 => ?_
  refine pl0 ?_
  refine plc hE (.r 0 1 <| .b 1 0 hb2 <| .nil) (fun a hE => ?_)
  refine pld ?_
  refine hK5 _ _ ?_
  refine wp_block ?_
  refine wp_seq_k fun K6 hK6 => ?_
  refine pl0 ?_
  refine plc hE (.r 0 2 .nil) (fun a hE => ?_)
  refine pld ?_
  refine hK6 _ _ ?_
  by_cases c7 : x0_.f0 = 1
  · rw [if_pos c7] at H
    replace hE := hE.kt 5 c7
    refine ct hE ?_
    refine wp_seq_k fun K8 hK8 => ?_
    refine pl0 ?_
    refine plc hE (.r 0 1 <| .b 1 5 hb2 <| .r 2 2 <| .nil) (fun a hE => ?_)
    by_cases c9 : x0_.f5 = 0
    · rw [if_pos c9] at H
      replace hE := hE.kt 10 c9
      refine plc hE (.r 4 1 <| .b 5 6 hb2 <| .r 6 4 <| .nil) (fun a hE => ?_)
      refine pld ?_
      refine hK8 _ _ ?_
      refine wp_ret (block_ret (then_ret ?_))
      replace hS := hS.tail
      obtain rfl := Option.some.inj H
      exact rt1 hE ⟨_, rfl, _, rfl, hS⟩
    · rw [if_neg c9] at H
      replace hE := hE.kf 10 c9
      refine plc hE (.r 4 6 .nil) (fun a hE => ?_)
      refine pld ?_
      refine hK8 _ _ ?_
      refine wp_ret (block_ret (then_ret ?_))
      replace hS := hS.tail
      obtain rfl := Option.some.inj H
      exact rt1 hE ⟨_, rfl, _, rfl, hS⟩
  · rw [if_neg c7] at H
    replace hE := hE.kf 5 c7
    refine cf hE ?_
    refine wp_seq_k fun K10 hK10 => ?_
    refine pl0 ?_
    refine plc hE (.r 0 2 .nil) (fun a hE => ?_)
    refine pld ?_
    refine hK10 _ _ ?_
    by_cases c11 : x0_.f0 = 2
    · rw [if_pos c11] at H
      replace hE := hE.kt 16 c11
      refine ct hE ?_
      refine wp_seq_k fun K12 hK12 => ?_
      refine pl0 ?_
      refine plc hE (.r 0 1 <| .b 1 2 hb2 <| .r 2 2 <| .nil) (fun a hE => ?_)
      by_cases c13 : x0_.f2 = 0
      · rw [if_pos c13] at H
        replace hE := hE.kt 21 c13
        refine plc hE (.r 4 1 <| .b 5 3 hb2 <| .r 6 3 <| .nil) (fun a hE => ?_)
        by_cases c14 : x0_.f3 = 0
        · rw [if_pos c14] at H
          replace hE := hE.kt 26 c14
          refine plc hE (.r 9 1 <| .b 10 5 hb2 <| .r 11 3 <| .nil) (fun a hE => ?_)
          by_cases c15 : x0_.f5 = 0
          · rw [if_pos c15] at H
            replace hE := hE.kt 31 c15
            refine plc hE (.r 14 1 <| .b 15 6 hb2 <| .r 16 4 <| .nil) (fun a hE => ?_)
            refine pld ?_
            refine hK12 _ _ ?_
            refine wp_ret (block_ret (then_ret ?_))
            replace hS := hS.tail
            obtain rfl := Option.some.inj H
            exact rt1 hE ⟨_, rfl, _, rfl, hS⟩
          · rw [if_neg c15] at H
            replace hE := hE.kf 31 c15
            refine plc hE (.r 14 6 .nil) (fun a hE => ?_)
            refine pld ?_
            refine hK12 _ _ ?_
            refine wp_ret (block_ret (then_ret ?_))
            replace hS := hS.tail
            obtain rfl := Option.some.inj H
            exact rt1 hE ⟨_, rfl, _, rfl, hS⟩
        · rw [if_neg c14] at H
          replace hE := hE.kf 26 c14
          refine plc hE (.r 9 11 .nil) (fun a hE => ?_)
          refine pld ?_
          refine hK12 _ _ ?_
          refine wp_ret (block_ret (then_ret ?_))
          replace hS := hS.tail
          obtain rfl := Option.some.inj H
          exact rt1 hE ⟨_, rfl, _, rfl, hS⟩
      · rw [if_neg c13] at H
        replace hE := hE.kf 21 c13
        refine plc hE (.r 4 16 .nil) (fun a hE => ?_)
        refine pld ?_
        refine hK12 _ _ ?_
        refine wp_ret (block_ret (then_ret ?_))
        replace hS := hS.tail
        obtain rfl := Option.some.inj H
        exact rt1 hE ⟨_, rfl, _, rfl, hS⟩
    · rw [if_neg c11] at H
      replace hE := hE.kf 16 c11
      refine cf hE ?_
      refine wp_seq_k fun K16 hK16 => ?_
      refine pl0 ?_
      refine plc hE (.r 0 2 .nil) (fun a hE => ?_)
      refine pld ?_
      refine hK16 _ _ ?_
      by_cases c17 : x0_.f0 = 10
      · rw [if_pos c17] at H
        replace hE := hE.kt 37 c17
        refine ct hE ?_
        refine wp_seq_k fun K18 hK18 => ?_
        refine pl0 ?_
        refine plc hE (.r 0 1 <| .b 1 1 hb2 <| .r 2 2 <| .nil) (fun a hE => ?_)
        by_cases c19 : x0_.f1 = 0
        · rw [if_pos c19] at H
          replace hE := hE.kt 42 c19
          refine plc hE (.r 4 1 <| .b 5 2 hb2 <| .r 6 3 <| .nil) (fun a hE => ?_)
          by_cases c20 : x0_.f2 = 0
          · rw [if_pos c20] at H
            replace hE := hE.kt 47 c20
            refine plc hE (.r 9 1 <| .b 10 3 hb2 <| .r 11 3 <| .nil) (fun a hE => ?_)
            by_cases c21 : x0_.f3 = 0
            · rw [if_pos c21] at H
              replace hE := hE.kt 52 c21
              refine plc hE (.r 14 1 <| .b 15 6 hb2 <| .r 16 4 <| .nil) (fun a hE => ?_)
              refine pld ?_
              refine hK18 _ _ ?_
              refine wp_ret (block_ret (then_ret ?_))
              replace hS := hS.tail
              obtain rfl := Option.some.inj H
              exact rt1 hE ⟨_, rfl, _, rfl, hS⟩
            · rw [if_neg c21] at H
              replace hE := hE.kf 52 c21
              refine plc hE (.r 14 6 .nil) (fun a hE => ?_)
              refine pld ?_
              refine hK18 _ _ ?_
              refine wp_ret (block_ret (then_ret ?_))
              replace hS := hS.tail
              obtain rfl := Option.some.inj H
              exact rt1 hE ⟨_, rfl, _, rfl, hS⟩
          · rw [if_neg c20] at H
            replace hE := hE.kf 47 c20
            refine plc hE (.r 9 11 .nil) (fun a hE => ?_)
            refine pld ?_
            refine hK18 _ _ ?_
            refine wp_ret (block_ret (then_ret ?_))
            replace hS := hS.tail
            obtain rfl := Option.some.inj H
            exact rt1 hE ⟨_, rfl, _, rfl, hS⟩
        · rw [if_neg c19] at H
          replace hE := hE.kf 42 c19
          refine plc hE (.r 4 16 .nil) (fun a hE => ?_)
          refine pld ?_
          refine hK18 _ _ ?_
          refine wp_ret (block_ret (then_ret ?_))
          replace hS := hS.tail
          obtain rfl := Option.some.inj H
          exact rt1 hE ⟨_, rfl, _, rfl, hS⟩
      · rw [if_neg c17] at H
        replace hE := hE.kf 37 c17
        refine cf hE ?_
        refine wp_seq_k fun K22 hK22 => ?_
        refine pl0 ?_
        refine plc hE (.r 0 2 .nil) (fun a hE => ?_)
        refine pld ?_
        refine hK22 _ _ ?_
        by_cases c23 : x0_.f0 = 8
        · rw [if_pos c23] at H
          replace hE := hE.kt 58 c23
          refine ct hE ?_
          refine wp_seq_k fun K24 hK24 => ?_
          refine pl0 ?_
          refine plc hE (.r 0 1 <| .b 1 1 hb2 <| .r 2 2 <| .nil) (fun a hE => ?_)
          by_cases c25 : x0_.f1 = 0
          · rw [if_pos c25] at H
            replace hE := hE.kt 63 c25
            refine plc hE (.r 4 1 <| .b 5 2 hb2 <| .r 6 3 <| .nil) (fun a hE => ?_)
            by_cases c26 : x0_.f2 = 0
            · rw [if_pos c26] at H
              replace hE := hE.kt 68 c26
              refine plc hE (.r 9 1 <| .b 10 3 hb2 <| .r 11 3 <| .nil) (fun a hE => ?_)
              by_cases c27 : x0_.f3 = 0
              · rw [if_pos c27] at H
                replace hE := hE.kt 73 c27
                refine plc hE (.r 14 1 <| .b 15 4 hb2 <| .r 16 3 <| .nil) (fun a hE => ?_)
                refine pld ?_
                refine hK24 _ _ ?_
                refine wp_ret (block_ret (then_ret ?_))
                replace hS := hS.tail
                obtain rfl := Option.some.inj H
                exact rt1 hE ⟨_, rfl, _, rfl, hS⟩
              · rw [if_neg c27] at H
                replace hE := hE.kf 73 c27
                refine plc hE (.r 14 5 .nil) (fun a hE => ?_)
                refine pld ?_
                refine hK24 _ _ ?_
                refine wp_ret (block_ret (then_ret ?_))
                replace hS := hS.tail
                obtain rfl := Option.some.inj H
                exact rt1 hE ⟨_, rfl, _, rfl, hS⟩
            · rw [if_neg c26] at H
              replace hE := hE.kf 68 c26
              refine plc hE (.r 9 10 .nil) (fun a hE => ?_)
              refine pld ?_
              refine hK24 _ _ ?_
              refine wp_ret (block_ret (then_ret ?_))
              replace hS := hS.tail
              obtain rfl := Option.some.inj H
              exact rt1 hE ⟨_, rfl, _, rfl, hS⟩
          · rw [if_neg c25] at H
            replace hE := hE.kf 63 c25
            refine plc hE (.r 4 15 .nil) (fun a hE => ?_)
            refine pld ?_
            refine hK24 _ _ ?_
            refine wp_ret (block_ret (then_ret ?_))
            replace hS := hS.tail
            obtain rfl := Option.some.inj H
            exact rt1 hE ⟨_, rfl, _, rfl, hS⟩
        · rw [if_neg c23] at H
          replace hE := hE.kf 58 c23
          refine cf hE ?_
          refine wp_skip ?_
          refine block_n ?_
          refine hK4 _ _ ?_
          refine wp_seq_k fun K28 hK28 => ?_
          refine pl0 ?_
          refine plc hE (.r 0 1 <| .b 1 2 hb2 <| .r 2 2 <| .nil) (fun a hE => ?_)
          by_cases c29 : x0_.f2 = 0
          · rw [if_pos c29] at H
            replace hE := hE.kt 81 c29
            refine plc hE (.r 4 1 <| .b 5 3 hb2 <| .r 6 3 <| .nil) (fun a hE => ?_)
            by_cases c30 : x0_.f3 = 0
            · rw [if_pos c30] at H
              replace hE := hE.kt 86 c30
              refine plc hE (.r 9 1 <| .b 10 4 hb2 <| .r 11 3 <| .nil) (fun a hE => ?_)
              by_cases c31 : x0_.f4 = 0
              · rw [if_pos c31] at H
                replace hE := hE.kt 91 c31
                refine plc hE (.r 14 1 <| .b 15 5 hb2 <| .r 16 3 <| .nil) (fun a hE => ?_)
                by_cases c32 : x0_.f5 = 0
                · rw [if_pos c32] at H
                  replace hE := hE.kt 96 c32
                  refine plc hE (.r 19 1 <| .b 20 6 hb2 <| .r 21 4 <| .nil) (fun a hE => ?_)
                  by_cases c33 : (x0_.f6.length : Int) = 0
                  · rw [if_pos c33] at H
                    replace hE := hE.kt 102 c33
                    refine plc hE (.r 25 1 <| .b 26 0 hb2 <| .r 27 2 <| .nil) (fun a hE => ?_)
                    by_cases c34 : x0_.f0 = 9
                    · rw [if_pos c34] at H
                      replace hE := hE.ktn 106 c34
                      refine plc hE (.r 29 1 <| .b 30 1 hb2 <| .r 31 4 <| .nil) (fun a hE => ?_)
                      refine pld ?_
                      refine hK28 _ _ ?_
                      refine wp_ret ?_
                      replace hS := hS.tail
                      obtain rfl := Option.some.inj H
                      exact rt1 hE ⟨_, rfl, _, rfl, hS⟩
                    · rw [if_neg c34] at H
                      replace hE := hE.kfn 106 c34
                      refine plc hE (.r 29 6 .nil) (fun a hE => ?_)
                      refine pld ?_
                      refine hK28 _ _ ?_
                      refine wp_ret ?_
                      replace hS := hS.tail
                      obtain rfl := Option.some.inj H
                      exact rt1 hE ⟨_, rfl, _, rfl, hS⟩
                  · rw [if_neg c33] at H
                    replace hE := hE.kf 102 c33
                    refine plc hE (.r 25 10 .nil) (fun a hE => ?_)
                    refine pld ?_
                    refine hK28 _ _ ?_
                    refine wp_ret ?_
                    replace hS := hS.tail
                    obtain rfl := Option.some.inj H
                    exact rt1 hE ⟨_, rfl, _, rfl, hS⟩
                · rw [if_neg c32] at H
                  replace hE := hE.kf 96 c32
                  refine plc hE (.r 19 16 .nil) (fun a hE => ?_)
                  refine pld ?_
                  refine hK28 _ _ ?_
                  refine wp_ret ?_
                  replace hS := hS.tail
                  obtain rfl := Option.some.inj H
                  exact rt1 hE ⟨_, rfl, _, rfl, hS⟩
              · rw [if_neg c31] at H
                replace hE := hE.kf 91 c31
                refine plc hE (.r 14 21 .nil) (fun a hE => ?_)
                refine pld ?_
                refine hK28 _ _ ?_
                refine wp_ret ?_
                replace hS := hS.tail
                obtain rfl := Option.some.inj H
                exact rt1 hE ⟨_, rfl, _, rfl, hS⟩
            · rw [if_neg c30] at H
              replace hE := hE.kf 86 c30
              refine plc hE (.r 9 26 .nil) (fun a hE => ?_)
              refine pld ?_
              refine hK28 _ _ ?_
              refine wp_ret ?_
              replace hS := hS.tail
              obtain rfl := Option.some.inj H
              exact rt1 hE ⟨_, rfl, _, rfl, hS⟩
          · rw [if_neg c29] at H
            replace hE := hE.kf 81 c29
            refine plc hE (.r 4 31 .nil) (fun a hE => ?_)
            refine pld ?_
            refine hK28 _ _ ?_
            refine wp_ret ?_
            replace hS := hS.tail
            obtain rfl := Option.some.inj H
            exact rt1 hE ⟨_, rfl, _, rfl, hS⟩

/-! ### slices.Clone[[]windrose/api.Node,windrose/api.Node]: function 128 -/
def slices_Clone__api_Node_api_Node.f (x0_ : List T_api_Node) : Option (List T_api_Node) := if ((([] : List T_api_Node).length : Int) + (x0_.length : Int)) * 40 ≤ 140737488355328 then (some (([] : List T_api_Node) ++ x0_)) else (none)
def slices_Clone__api_Node_api_Node.Post (W F : World) (r : List T_api_Node) (v : Value) (w' : World) : Prop := ∃ (F' : World) (RA0_0 : Option Addr) (rc0_0 : Nat), v = .slice RA0_0 r.length rc0_0 ∧ St W (mine W []) F w' F' [row T_api_Node.k 104 (.slice RA0_0 r.length rc0_0) r]
set_option maxHeartbeats 4000000 in
set_option maxRecDepth 100000 in
theorem slices_Clone__api_Node_api_Node.calls (x0_ : List T_api_Node) (A0_0 : Option Addr) (c0_0 : Nat) (r : List T_api_Node) (W F : World) (hown : Sub F W) (g0_0 : Rd T_api_Node.k F A0_0 c0_0 x0_) (H : slices_Clone__api_Node_api_Node.f x0_ = some r) :
    Calls Tryz.prog 128 #[.slice A0_0 x0_.length c0_0] W fun e w' => ∃ v, e = .returned v ∧ slices_Clone__api_Node_api_Node.Post W F r v w' := by
  have hS := St.start (Own.nil hown)
  unfold slices_Clone__api_Node_api_Node.f at H
  refine enter (n := 8) rfl rfl rfl (Nat.le_of_ble_eq_true rfl) (fun a hE => ?_)
  rcases A0_0 with _ | ad1
  · have hnil := g0_0.none_nil
    replace H : (some []) = some r := by simpa [hnil] using H
    refine wp_seq_k fun K2 hK2 => ?_
    refine pl0 ?_
    refine plc hE (.r 0 1 .nil) (fun a hE => ?_)
    refine pld ?_
    refine hK2 _ _ ?_
    refine wp_seq_k fun K3 hK3 => ?_
    refine wp_seq_k fun K4 hK4 => ?_
    refine pl0 ?_
    refine plc hE (.r 0 2 .nil) (fun a hE => ?_)
    refine pld ?_
    refine hK4 _ _ ?_
    refine ct hE ?_
    refine wp_seq_k fun K5 hK5 => ?_
    refine pl0 ?_
    refine plc hE (.r 0 1 .nil) (fun a hE => ?_)
    refine pld ?_
    refine hK5 _ _ ?_
    refine wp_ret (then_ret ?_)
    replace hS := hS.nilrow T_api_Node.k 104
    obtain rfl := Option.some.inj H
    exact rt1 hE ⟨_, rfl, _, _, _, rfl, hS⟩
  · skip
    refine wp_seq_k fun K7 hK7 => ?_
    refine pl0 ?_
    refine plc hE (.r 0 1 .nil) (fun a hE => ?_)
    refine pld ?_
    refine hK7 _ _ ?_
    refine wp_seq_k fun K8 hK8 => ?_
    refine wp_seq_k fun K9 hK9 => ?_
    refine pl0 ?_
    refine plc hE (.r 0 2 .nil) (fun a hE => ?_)
    refine pld ?_
    refine hK9 _ _ ?_
    refine cf hE ?_
    refine wp_skip ?_
    refine hK8 _ _ ?_
    refine wp_seq_k fun K10 hK10 => ?_
    refine pl0 ?_
    refine ple hE (.lit (d := T_api_Node.k) (e := 104) hS ([] : List T_api_Node) (.nil)) ?_
    rintro _ u11 a ⟨A12, c13, rfl, hS, hg⟩ hE
    refine plc hE (.r 1 1 .nil) (fun a hE => ?_)
    by_cases c15 : ((([] : List T_api_Node).length : Int) + (x0_.length : Int)) * 40 ≤ 140737488355328
    rotate_left
    · rw [if_neg c15] at H; cases H
    rw [if_pos c15] at H
    refine ple hE (.ap (d := T_api_Node.k) 40 hS (g0_0.src hS.own.sub) c15 c0_0) ?_
    rintro _ u18 a ⟨A16, c17, rfl, hS, hz⟩ hE
    refine plc hE (.r 3 1 .nil) (fun a hE => ?_)
    refine pld ?_
    refine hK10 _ _ ?_
    refine wp_ret ?_
    obtain rfl := Option.some.inj H
    exact rt1 hE ⟨_, rfl, _, _, _, rfl, hS⟩

/-! ### slices.Clone[[]windrose/api.Temp,windrose/api.Temp]: function 129 -/
def slices_Clone__api_Temp_api_Temp.f (x0_ : List T_api_Temp) : Option (List T_api_Temp) := if ((([] : List T_api_Temp).length : Int) + (x0_.length : Int)) * 32 ≤ 140737488355328 then (some (([] : List T_api_Temp) ++ x0_)) else (none)
def slices_Clone__api_Temp_api_Temp.Post (W F : World) (r : List T_api_Temp) (v : Value) (w' : World) : Prop := ∃ (F' : World) (RA0_0 : Option Addr) (rc0_0 : Nat), v = .slice RA0_0 r.length rc0_0 ∧ St W (mine W []) F w' F' [row T_api_Temp.k 97 (.slice RA0_0 r.length rc0_0) r]
set_option maxHeartbeats 4000000 in
set_option maxRecDepth 100000 in
theorem slices_Clone__api_Temp_api_Temp.calls (x0_ : List T_api_Temp) (A0_0 : Option Addr) (c0_0 : Nat) (r : List T_api_Temp) (W F : World) (hown : Sub F W) (g0_0 : Rd T_api_Temp.k F A0_0 c0_0 x0_) (H : slices_Clone__api_Temp_api_Temp.f x0_ = some r) :
    Calls Tryz.prog 129 #[.slice A0_0 x0_.length c0_0] W fun e w' => ∃ v, e = .returned v ∧ slices_Clone__api_Temp_api_Temp.Post W F r v w' := by
  have hS := St.start (Own.nil hown)
  unfold slices_Clone__api_Temp_api_Temp.f at H
  refine enter (n := 8) rfl rfl rfl (Nat.le_of_ble_eq_true rfl) (fun a hE => ?_)
  rcases A0_0 with _ | ad1
  · have hnil := g0_0.none_nil
    replace H : (some []) = some r := by simpa [hnil] using H
    refine wp_seq_k fun K2 hK2 => ?_
    refine pl0 ?_
    refine plc hE (.r 0 1 .nil) (fun a hE => ?_)
    refine pld ?_
    refine hK2 _ _ ?_
    refine wp_seq_k fun K3 hK3 => ?_
    refine wp_seq_k fun K4 hK4 => ?_
    refine pl0 ?_
    refine plc hE (.r 0 2 .nil) (fun a hE => ?_)
    refine pld ?_
    refine hK4 _ _ ?_
    refine ct hE ?_
    refine wp_seq_k fun K5 hK5 => ?_
    refine pl0 ?_
    refine plc hE (.r 0 1 .nil) (fun a hE => ?_)
    refine pld ?_
    refine hK5 _ _ ?_
    refine wp_ret (then_ret ?_)
    replace hS := hS.nilrow T_api_Temp.k 97
    obtain rfl := Option.some.inj H
    exact rt1 hE ⟨_, rfl, _, _, _, rfl, hS⟩
  · skip
    refine wp_seq_k fun K7 hK7 => ?_
    refine pl0 ?_
    refine plc hE (.r 0 1 .nil) (fun a hE => ?_)
    refine pld ?_
    refine hK7 _ _ ?_
    refine wp_seq_k fun K8 hK8 => ?_
    refine wp_seq_k fun K9 hK9 => ?_
    refine pl0 ?_
    refine plc hE (.r 0 2 .nil) (fun a hE => ?_)
    refine pld ?_
    refine hK9 _ _ ?_
    refine cf hE ?_
    refine wp_skip ?_
    refine hK8 _ _ ?_
    refine wp_seq_k fun K10 hK10 => ?_
    refine pl0 ?_
    refine ple hE (.lit (d := T_api_Temp.k) (e := 97) hS ([] : List T_api_Temp) (.nil)) ?_
    rintro _ u11 a ⟨A12, c13, rfl, hS, hg⟩ hE
    refine plc hE (.r 1 1 .nil) (fun a hE => ?_)
    by_cases c15 : ((([] : List T_api_Temp).length : Int) + (x0_.length : Int)) * 32 ≤ 140737488355328
    rotate_left
    · rw [if_neg c15] at H; cases H
    rw [if_pos c15] at H
    refine ple hE (.ap (d := T_api_Temp.k) 32 hS (g0_0.src hS.own.sub) c15 c0_0) ?_
    rintro _ u18 a ⟨A16, c17, rfl, hS, hz⟩ hE
    refine plc hE (.r 3 1 .nil) (fun a hE => ?_)
    refine pld ?_
    refine hK10 _ _ ?_
    refine wp_ret ?_
    obtain rfl := Option.some.inj H
    exact rt1 hE ⟨_, rfl, _, _, _, rfl, hS⟩

/-! ### slices.Clone[[]int,int]: function 112 -/
def slices_Clone__int_int.f (x0_ : List Int) : Option (List Int) := if ((([] : List Int).length : Int) + (x0_.length : Int)) * 8 ≤ 140737488355328 then (some (([] : List Int) ++ x0_)) else (none)
def slices_Clone__int_int.Post (W F : World) (r : List Int) (v : Value) (w' : World) : Prop := ∃ (F' : World) (RA0_0 : Option Addr) (rc0_0 : Nat), v = .slice RA0_0 r.length rc0_0 ∧ St W (mine W []) F w' F' [row (Kn.int .i64) 3 (.slice RA0_0 r.length rc0_0) r]
set_option maxHeartbeats 4000000 in
set_option maxRecDepth 100000 in
theorem slices_Clone__int_int.calls (x0_ : List Int) (A0_0 : Option Addr) (c0_0 : Nat) (r : List Int) (W F : World) (hown : Sub F W) (g0_0 : Rd (Kn.int .i64) F A0_0 c0_0 x0_) (H : slices_Clone__int_int.f x0_ = some r) :
    Calls Tryz.prog 112 #[.slice A0_0 x0_.length c0_0] W fun e w' => ∃ v, e = .returned v ∧ slices_Clone__int_int.Post W F r v w' := by
  have hS := St.start (Own.nil hown)
  unfold slices_Clone__int_int.f at H
  refine enter (n := 8) rfl rfl rfl (Nat.le_of_ble_eq_true rfl) (fun a hE => ?_)
  rcases A0_0 with _ | ad1
  · have hnil := g0_0.none_nil
    replace H : (some []) = some r := by simpa [hnil] using H
    refine wp_seq_k fun K2 hK2 => ?_
    refine pl0 ?_
    refine plc hE (.r 0 1 .nil) (fun a hE => ?_)
    refine pld ?_
    refine hK2 _ _ ?_
    refine wp_seq_k fun K3 hK3 => ?_
    refine wp_seq_k fun K4 hK4 => ?_
    refine pl0 ?_
    refine plc hE (.r 0 2 .nil) (fun a hE => ?_)
    refine pld ?_
    refine hK4 _ _ ?_
    refine ct hE ?_
    refine wp_seq_k fun K5 hK5 => ?_
    refine pl0 ?_
    refine plc hE (.r 0 1 .nil) (fun a hE => ?_)
    refine pld ?_
    refine hK5 _ _ ?_
    refine wp_ret (then_ret ?_)
    replace hS := hS.nilrow (Kn.int .i64) 3
    obtain rfl := Option.some.inj H
    exact rt1 hE ⟨_, rfl, _, _, _, rfl, hS⟩
  · skip
    refine wp_seq_k fun K7 hK7 => ?_
    refine pl0 ?_
    refine plc hE (.r 0 1 .nil) (fun a hE => ?_)
    refine pld ?_
    refine hK7 _ _ ?_
    refine wp_seq_k fun K8 hK8 => ?_
    refine wp_seq_k fun K9 hK9 => ?_
    refine pl0 ?_
    refine plc hE (.r 0 2 .nil) (fun a hE => ?_)
    refine pld ?_
    refine hK9 _ _ ?_
    refine cf hE ?_
    refine wp_skip ?_
    refine hK8 _ _ ?_
    refine wp_seq_k fun K10 hK10 => ?_
    refine pl0 ?_
    refine ple hE (.lit (d := (Kn.int .i64)) (e := 3) hS ([] : List Int) (.nil)) ?_
    rintro _ u11 a ⟨A12, c13, rfl, hS, hg⟩ hE
    refine plc hE (.r 1 1 .nil) (fun a hE => ?_)
    by_cases c15 : ((([] : List Int).length : Int) + (x0_.length : Int)) * 8 ≤ 140737488355328
    rotate_left
    · rw [if_neg c15] at H; cases H
    rw [if_pos c15] at H
    refine ple hE (.ap (d := (Kn.int .i64)) 8 hS (g0_0.src hS.own.sub) c15 c0_0) ?_
    rintro _ u18 a ⟨A16, c17, rfl, hS, hz⟩ hE
    refine plc hE (.r 3 1 .nil) (fun a hE => ?_)
    refine pld ?_
    refine hK10 _ _ ?_
    refine wp_ret ?_
    obtain rfl := Option.some.inj H
    exact rt1 hE ⟨_, rfl, _, _, _, rfl, hS⟩

/-! ### slices.Clone[[]windrose/api.Trail,windrose/api.Trail]: function 130 -/
def slices_Clone__api_Trail_api_Trail.f (x0_ : List T_api_Trail) : Option (List T_api_Trail) := if ((([] : List T_api_Trail).length : Int) + (x0_.length : Int)) * 32 ≤ 140737488355328 then (some (([] : List T_api_Trail) ++ x0_)) else (none)
def slices_Clone__api_Trail_api_Trail.Post (W F : World) (r : List T_api_Trail) (v : Value) (w' : World) : Prop := ∃ (F' : World) (RA0_0 : Option Addr) (rc0_0 : Nat), v = .slice RA0_0 r.length rc0_0 ∧ St W (mine W []) F w' F' [row T_api_Trail.k 49 (.slice RA0_0 r.length rc0_0) r]
set_option maxHeartbeats 4000000 in
set_option maxRecDepth 100000 in
theorem slices_Clone__api_Trail_api_Trail.calls (x0_ : List T_api_Trail) (A0_0 : Option Addr) (c0_0 : Nat) (r : List T_api_Trail) (W F : World) (hown : Sub F W) (g0_0 : Rd T_api_Trail.k F A0_0 c0_0 x0_) (H : slices_Clone__api_Trail_api_Trail.f x0_ = some r) :
    Calls Tryz.prog 130 #[.slice A0_0 x0_.length c0_0] W fun e w' => ∃ v, e = .returned v ∧ slices_Clone__api_Trail_api_Trail.Post W F r v w' := by
  have hS := St.start (Own.nil hown)
  unfold slices_Clone__api_Trail_api_Trail.f at H
  refine enter (n := 8) rfl rfl rfl (Nat.le_of_ble_eq_true rfl) (fun a hE => ?_)
  rcases A0_0 with _ | ad1
  · have hnil := g0_0.none_nil
    replace H : (some []) = some r := by simpa [hnil] using H
    refine wp_seq_k fun K2 hK2 => ?_
    refine pl0 ?_
    refine plc hE (.r 0 1 .nil) (fun a hE => ?_)
    refine pld ?_
    refine hK2 _ _ ?_
    refine wp_seq_k fun K3 hK3 => ?_
    refine wp_seq_k fun K4 hK4 => ?_
    refine pl0 ?_
    refine plc hE (.r 0 2 .nil) (fun a hE => ?_)
    refine pld ?_
    refine hK4 _ _ ?_
    refine ct hE ?_
    refine wp_seq_k fun K5 hK5 => ?_
    refine pl0 ?_
    refine plc hE (.r 0 1 .nil) (fun a hE => ?_)
    refine pld ?_
    refine hK5 _ _ ?_
    refine wp_ret (then_ret ?_)
    replace hS := hS.nilrow T_api_Trail.k 49
    obtain rfl := Option.some.inj H
    exact rt1 hE ⟨_, rfl, _, _, _, rfl, hS⟩
  · skip
    refine wp_seq_k fun K7 hK7 => ?_
    refine pl0 ?_
    refine plc hE (.r 0 1 .nil) (fun a hE => ?_)
    refine pld ?_
    refine hK7 _ _ ?_
    refine wp_seq_k fun K8 hK8 => ?_
    refine wp_seq_k fun K9 hK9 => ?_
    refine pl0 ?_
    refine plc hE (.r 0 2 .nil) (fun a hE => ?_)
    refine pld ?_
    refine hK9 _ _ ?_
    refine cf hE ?_
    refine wp_skip ?_
    refine hK8 _ _ ?_
    refine wp_seq_k fun K10 hK10 => ?_
    refine pl0 ?_
    refine ple hE (.lit (d := T_api_Trail.k) (e := 49) hS ([] : List T_api_Trail) (.nil)) ?_
    rintro _ u11 a ⟨A12, c13, rfl, hS, hg⟩ hE
    refine plc hE (.r 1 1 .nil) (fun a hE => ?_)
    by_cases c15 : ((([] : List T_api_Trail).length : Int) + (x0_.length : Int)) * 32 ≤ 140737488355328
    rotate_left
    · rw [if_neg c15] at H; cases H
    rw [if_pos c15] at H
    refine ple hE (.ap (d := T_api_Trail.k) 32 hS (g0_0.src hS.own.sub) c15 c0_0) ?_
    rintro _ u18 a ⟨A16, c17, rfl, hS, hz⟩ hE
    refine plc hE (.r 3 1 .nil) (fun a hE => ?_)
    refine pld ?_
    refine hK10 _ _ ?_
    refine wp_ret ?_
    obtain rfl := Option.some.inj H
    exact rt1 hE ⟨_, rfl, _, _, _, rfl, hS⟩

/-! ### slices.Clone[[]windrose/api.Span,windrose/api.Span]: function 175 -/
def slices_Clone__api_Span_api_Span.f (x0_ : List T_api_Span) : Option (List T_api_Span) := if ((([] : List T_api_Span).length : Int) + (x0_.length : Int)) * 32 ≤ 140737488355328 then (some (([] : List T_api_Span) ++ x0_)) else (none)
def slices_Clone__api_Span_api_Span.Post (W F : World) (r : List T_api_Span) (v : Value) (w' : World) : Prop := ∃ (F' : World) (RA0_0 : Option Addr) (rc0_0 : Nat), v = .slice RA0_0 r.length rc0_0 ∧ St W (mine W []) F w' F' [row T_api_Span.k 51 (.slice RA0_0 r.length rc0_0) r]
set_option maxHeartbeats 4000000 in
set_option maxRecDepth 100000 in
theorem slices_Clone__api_Span_api_Span.calls (x0_ : List T_api_Span) (A0_0 : Option Addr) (c0_0 : Nat) (r : List T_api_Span) (W F : World) (hown : Sub F W) (g0_0 : Rd T_api_Span.k F A0_0 c0_0 x0_) (H : slices_Clone__api_Span_api_Span.f x0_ = some r) :
    Calls Tryz.prog 175 #[.slice A0_0 x0_.length c0_0] W fun e w' => ∃ v, e = .returned v ∧ slices_Clone__api_Span_api_Span.Post W F r v w' := by
  have hS := St.start (Own.nil hown)
  unfold slices_Clone__api_Span_api_Span.f at H
  refine enter (n := 8) rfl rfl rfl (Nat.le_of_ble_eq_true rfl) (fun a hE => ?_)
  rcases A0_0 with _ | ad1
  · have hnil := g0_0.none_nil
    replace H : (some []) = some r := by simpa [hnil] using H
    refine wp_seq_k fun K2 hK2 => ?_
    refine pl0 ?_
    refine plc hE (.r 0 1 .nil) (fun a hE => ?_)
    refine pld ?_
    refine hK2 _ _ ?_
    refine wp_seq_k fun K3 hK3 => ?_
    refine wp_seq_k fun K4 hK4 => ?_
    refine pl0 ?_
    refine plc hE (.r 0 2 .nil) (fun a hE => ?_)
    refine pld ?_
    refine hK4 _ _ ?_
    refine ct hE ?_
    refine wp_seq_k fun K5 hK5 => ?_
    refine pl0 ?_
    refine plc hE (.r 0 1 .nil) (fun a hE => ?_)
    refine pld ?_
    refine hK5 _ _ ?_
    refine wp_ret (then_ret ?_)
    replace hS := hS.nilrow T_api_Span.k 51
    obtain rfl := Option.some.inj H
    exact rt1 hE ⟨_, rfl, _, _, _, rfl, hS⟩
  · skip
    refine wp_seq_k fun K7 hK7 => ?_
    refine pl0 ?_
    refine plc hE (.r 0 1 .nil) (fun a hE => ?_)
    refine pld ?_
    refine hK7 _ _ ?_
    refine wp_seq_k fun K8 hK8 => ?_
    refine wp_seq_k fun K9 hK9 => ?_
    refine pl0 ?_
    refine plc hE (.r 0 2 .nil) (fun a hE => ?_)
    refine pld ?_
    refine hK9 _ _ ?_
    refine cf hE ?_
    refine wp_skip ?_
    refine hK8 _ _ ?_
    refine wp_seq_k fun K10 hK10 => ?_
    refine pl0 ?_
    refine ple hE (.lit (d := T_api_Span.k) (e := 51) hS ([] : List T_api_Span) (.nil)) ?_
    rintro _ u11 a ⟨A12, c13, rfl, hS, hg⟩ hE
    refine plc hE (.r 1 1 .nil) (fun a hE => ?_)
    by_cases c15 : ((([] : List T_api_Span).length : Int) + (x0_.length : Int)) * 32 ≤ 140737488355328
    rotate_left
    · rw [if_neg c15] at H; cases H
    rw [if_pos c15] at H
    refine ple hE (.ap (d := T_api_Span.k) 32 hS (g0_0.src hS.own.sub) c15 c0_0) ?_
    rintro _ u18 a ⟨A16, c17, rfl, hS, hz⟩ hE
    refine plc hE (.r 3 1 .nil) (fun a hE => ?_)
    refine pld ?_
    refine hK10 _ _ ?_
    refine wp_ret ?_
    obtain rfl := Option.some.inj H
    exact rt1 hE ⟨_, rfl, _, _, _, rfl, hS⟩

/-! ### windrose/maps.spans: function 131 -/
def maps_spans.l16 : Nat → List T_api_Span → List T_api_Span → Int → Option (List T_api_Span)
  | 0, _, _, _ => none
  | k + 1, t4, l13, x14 => if x14 < (t4.length : Int) then (if 0 ≤ x14 ∧ x14 < (t4.length : Int) then ((slices_Clone__int_int.f ((nth T_api_Span.z l13 x14).f1)).bind fun t39 => (maps_spans.l16 k t4 (l13.set (x14).toNat (⟨(nth T_api_Span.z l13 x14).f0, t39⟩ : T_api_Span)) (w64 (x14 + 1)))) else (none)) else (some l13)
theorem maps_spans.l16_s (k : Nat) (t4 : List T_api_Span) (l13 : List T_api_Span) (x14 : Int) : maps_spans.l16 (k + 1) t4 l13 x14 = (if x14 < (t4.length : Int) then (if 0 ≤ x14 ∧ x14 < (t4.length : Int) then ((slices_Clone__int_int.f ((nth T_api_Span.z l13 x14).f1)).bind fun t39 => (maps_spans.l16 k t4 (l13.set (x14).toNat (⟨(nth T_api_Span.z l13 x14).f0, t39⟩ : T_api_Span)) (w64 (x14 + 1)))) else (none)) else (some l13)) := by kernel_rfl
def maps_spans.f (k : Nat) (x0_ : List T_api_Span) : Option (List T_api_Span) := (slices_Clone__api_Span_api_Span.f x0_).bind fun t4 => (maps_spans.l16 k t4 t4 0)
def maps_spans.Post (W F : World) (r : List T_api_Span) (v : Value) (w' : World) : Prop := ∃ (F' : World) (RA0_0 : Option Addr) (rc0_0 : Nat), v = .slice RA0_0 r.length rc0_0 ∧ St W (mine W []) F w' F' [row T_api_Span.k 51 (.slice RA0_0 r.length rc0_0) r]
set_option maxHeartbeats 4000000 in
set_option maxRecDepth 100000 in
theorem maps_spans.calls (k : Nat) (x0_ : List T_api_Span) (A0_0 : Option Addr) (c0_0 : Nat) (r : List T_api_Span) (W F : World) (hown : Sub F W) (g0_0 : Rd T_api_Span.k F A0_0 c0_0 x0_) (H : maps_spans.f k x0_ = some r) :
    Calls Tryz.prog 131 #[.slice A0_0 x0_.length c0_0] W fun e w' => ∃ v, e = .returned v ∧ maps_spans.Post W F r v w' := by
  have hS := St.start (Own.nil hown)
  unfold maps_spans.f at H
  refine enter (n := 23) rfl rfl rfl (Nat.le_of_ble_eq_true rfl) (fun a hE => ?_)
  refine wp_seq_k fun K1 hK1 => ?_
  refine pl0 ?_
  refine plc hE (.r 0 1 .nil) (fun a hE => ?_)
  refine pld ?_
  refine hK1 _ _ ?_
  refine wp_seq_k fun K2 hK2 => ?_
  refine pl0 ?_
  refine plc hE (.r 0 1 .nil) (fun a hE => ?_)
  obtain ⟨t4, h5, H⟩ := Option.bind_eq_some_iff.mp H
  refine ple hE (.cl en175 (slices_Clone__api_Span_api_Span.calls x0_ _ _ _ _ _ hS.own.sub g0_0 h5)) ?_
  rintro _ u3 a ⟨F6, A7, c8, rfl, hC⟩ hE
  have hs := hC.sub
  replace hS := hS.called (X := []) hC
  replace g0_0 := g0_0.mono hs
  refine plc hE (.r 2 1 .nil) (fun a hE => ?_)
  refine pld ?_
  refine hK2 _ _ ?_
  refine wp_seq_k fun K11 hK11 => ?_
  refine wp_seq_k fun K12 hK12 => ?_
  refine pl0 ?_
  refine plc hE (.r 0 3 .nil) (fun a hE => ?_)
  refine pld ?_
  refine hK12 _ _ ?_
  refine wp_block ?_
  refine wp_loop_ghost (fun kq17 a w' => ∃ (G : Nat → Value) (l13 : List T_api_Span) (x14 : Int) (F15 : World), kq17 ≤ k ∧ Env 23 G a ∧ At G [(0, .slice A7 t4.length c8), (7, .slice A7 t4.length c8), (8, .int .i64 (t4.length : Int)), (9, .int .i64 x14)] ∧ St W (mine W []) F w' F15 [row T_api_Span.k 51 (.slice A7 t4.length c8) l13] ∧  maps_spans.l16 kq17 t4 l13 x14 = some r) k ⟨_, t4, 0, F6, Nat.le_refl _, hE, .of, hS, H⟩ ?_
  rintro kq17 a u19 ⟨G, l13, x14, F15, hkq, hE, hA, hS, H⟩
  cases kq17 with
  | zero => cases (show none = some r from H)
  | succ k18 =>
    rw [maps_spans.l16_s] at H
    obtain ⟨J, hE⟩ := hE.at hA
    refine wp_seq_k fun K20 hK20 => ?_
    refine pl0 ?_
    refine plc hE (.r 0 1 .nil) (fun a hE => ?_)
    refine pld ?_
    refine hK20 _ _ ?_
    refine wp_seq_k fun K21 hK21 => ?_
    by_cases c22 : x14 < (t4.length : Int)
    · rw [if_pos c22] at H
      replace hE := hE.kt 10 c22
      refine ct hE ?_
      refine wp_skip ?_
      refine hK21 _ _ ?_
      refine wp_seq_k fun K23 hK23 => ?_
      refine wp_block ?_
      refine wp_seq_k fun K24 hK24 => ?_
      refine pl0 ?_
      by_cases c25 : 0 ≤ x14 ∧ x14 < (t4.length : Int)
      rotate_left
      · rw [if_neg c25] at H; cases H
      rw [if_pos c25] at H
      have hr26 := hS.row_at (i := 0) rfl
      have c27 : 0 ≤ x14 ∧ x14 < (l13.length : Int) := by rw [← (row_form hr26).1]; exact c25
      have hE_ := hE
      obtain ⟨b28, rfl⟩ := row_addr hr26 c27.1 c27.2
      replace hE := hE_
      have hr_ := hS.row_at (i := 0) rfl
      obtain ⟨cs30, ⟨A32, c33, rfl, g34⟩, hc31⟩ := row_el hr_ T_api_Span.z x14 c27.1 c27.2
      refine plc hE (.r 0 1 <| .x 1 c25 <| .cs 2 hc31 <| .nil) (fun a hE => ?_)
      refine ple hE (.al (t := 51) hS [.int .i64 0, .slice none 0 0]) ?_
      rintro _ u36 a ⟨b35, rfl, hb35, hS, hg⟩ hE
      refine plc hE (.r 4 1 .nil) (fun a hE => ?_)
      refine ple hE (.sto hS [.int .i64 ((nth T_api_Span.z l13 x14).f0), .slice A32 (((nth T_api_Span.z l13 x14).f1).length) c33]) ?_
      rintro _ u37 a ⟨rfl, hb35, hS, hz⟩ hE
      refine pld ?_
      refine hK24 _ _ ?_
      refine pl0 ?_
      refine plc hE (.r 0 3 <| .b 3 1 hb35 <| .nil) (fun a hE => ?_)
      obtain ⟨t39, h40, H⟩ := Option.bind_eq_some_iff.mp H
      refine ple hE (.cl en112 (slices_Clone__int_int.calls ((nth T_api_Span.z l13 x14).f1) _ _ _ _ _ hS.own.sub g34 h40)) ?_
      rintro _ u38 a ⟨F41, A42, c43, rfl, hC⟩ hE
      have hs := hC.sub
      replace hS := hS.called (X := []) hC
      replace g34 := g34.mono hs
      have hr46 := hS.row_at (i := 2) rfl
      have c47 : 0 ≤ x14 ∧ x14 < (l13.length : Int) := by rw [← (row_form hr46).1]; exact c25
      have hr_ := hS.row_at (i := 2) rfl
      obtain ⟨cs49, ⟨A51, c52, rfl, g53⟩, hc50⟩ := row_el hr_ T_api_Span.z x14 c47.1 c47.2
      refine plc hE (.x 5 c25 <| .r 6 1 <| .nil) (fun a hE => ?_)
      obtain ⟨F55, hs, g56, hS⟩ := hS.give
      replace g34 := g34.mono hs
      replace hS := hS.front 1 rfl
      obtain ⟨cs60, ⟨A57, c58, rfl, g59⟩, hc61⟩ := row_el (hS.row_at (i := 0) rfl) T_api_Span.z x14 c47.1 c47.2
      refine ple hE (.set (d := T_api_Span.k) (n := t4.length) (i := x14) (⟨(nth T_api_Span.z l13 x14).f0, t39⟩ : T_api_Span) 1 (ea1 _ _ _) hS c47 [.int .i64 ((nth T_api_Span.z l13 x14).f0), .slice A57 (((nth T_api_Span.z l13 x14).f1).length) c58] hc61 [.int .i64 ((nth T_api_Span.z l13 x14).f0), .slice A42 t39.length c43] ⟨_, _, rfl, g56⟩) ?_
      rintro _ u54 a ⟨rfl, hS, hz⟩ hE
      refine pld ?_
      refine block_n ?_
      refine hK23 _ _ ?_
      refine pl0 ?_
      refine plc hE (.r 0 2 .nil) (fun a hE => ?_)
      refine pld ?_
      replace hS := hS.front 1 rfl
      replace hS := hS.tail
      exact then_n ⟨k18, by omega, _, (l13.set (x14).toNat (⟨(nth T_api_Span.z l13 x14).f0, t39⟩ : T_api_Span)), (w64 (x14 + 1)), F55, by omega, hE, .of, hS, H⟩
    · rw [if_neg c22] at H
      replace hE := hE.kf 10 c22
      refine cf hE ?_
      refine wp_exit ?_
      refine hK11 _ _ ?_
      refine wp_seq_k fun K62 hK62 => ?_
      refine pl0 ?_
      refine plc hE (.r 0 2 .nil) (fun a hE => ?_)
      refine pld ?_
      refine hK62 _ _ ?_
      refine wp_ret ?_
      have hn63 := (row_form (hS.row_at (i := 0) rfl)).1
      replace hE := hE.set (d := 2) (v := .slice A7 l13.length c8) (Eq.trans (b := .slice A7 t4.length c8) (by kernel_rfl) (by rw [← hn63]))
      replace hS : St W (mine W []) F u19 F15 [row T_api_Span.k 51 (.slice A7 l13.length c8) l13] := by rw [← hn63]; exact hS
      obtain rfl := Option.some.inj H
      exact rt1 hE ⟨_, rfl, _, _, _, rfl, hS⟩

/-! ### windrose/maps.own: function 77 -/
mutual
def maps_own.l30 : Nat → T_api_Map → List T_api_Node → List T_api_Temp → List T_api_Temp → Int → Option T_api_Map
  | 0, _, _, _, _, _ => none
  | k + 1, x0_, t8, t16, l27, x28 => if x28 < (t16.length : Int) then (if 0 ≤ x28 ∧ x28 < (t16.length : Int) then ((slices_Clone__int_int.f ((nth T_api_Temp.z l27 x28).f1)).bind fun t53 => (maps_own.l30 k x0_ t8 t16 (l27.set (x28).toNat (⟨(nth T_api_Temp.z l27 x28).f0, t53⟩ : T_api_Temp)) (w64 (x28 + 1)))) else (none)) else ((slices_Clone__api_Trail_api_Trail.f x0_.f6).bind fun t78 => (maps_own.l91 k x0_ t8 l27 t78 t78 0))
def maps_own.l91 : Nat → T_api_Map → List T_api_Node → List T_api_Temp → List T_api_Trail → List T_api_Trail → Int → Option T_api_Map
  | 0, _, _, _, _, _, _ => none
  | k + 1, x0_, t8, l27, t78, l88, x89 => if x89 < (t78.length : Int) then (if 0 ≤ x89 ∧ x89 < (t78.length : Int) then ((maps_spans.f k ((nth T_api_Trail.z l88 x89).f1)).bind fun t114 => (maps_own.l91 k x0_ t8 l27 t78 (l88.set (x89).toNat (⟨(nth T_api_Trail.z l88 x89).f0, t114⟩ : T_api_Trail)) (w64 (x89 + 1)))) else (none)) else (some (⟨x0_.f0, x0_.f1, x0_.f2, x0_.f3, t8, l27, l88⟩ : T_api_Map))
end
theorem maps_own.l30_s (k : Nat) (x0_ : T_api_Map) (t8 : List T_api_Node) (t16 : List T_api_Temp) (l27 : List T_api_Temp) (x28 : Int) : maps_own.l30 (k + 1) x0_ t8 t16 l27 x28 = (if x28 < (t16.length : Int) then (if 0 ≤ x28 ∧ x28 < (t16.length : Int) then ((slices_Clone__int_int.f ((nth T_api_Temp.z l27 x28).f1)).bind fun t53 => (maps_own.l30 k x0_ t8 t16 (l27.set (x28).toNat (⟨(nth T_api_Temp.z l27 x28).f0, t53⟩ : T_api_Temp)) (w64 (x28 + 1)))) else (none)) else ((slices_Clone__api_Trail_api_Trail.f x0_.f6).bind fun t78 => (maps_own.l91 k x0_ t8 l27 t78 t78 0))) := by kernel_rfl
theorem maps_own.l91_s (k : Nat) (x0_ : T_api_Map) (t8 : List T_api_Node) (l27 : List T_api_Temp) (t78 : List T_api_Trail) (l88 : List T_api_Trail) (x89 : Int) : maps_own.l91 (k + 1) x0_ t8 l27 t78 l88 x89 = (if x89 < (t78.length : Int) then (if 0 ≤ x89 ∧ x89 < (t78.length : Int) then ((maps_spans.f k ((nth T_api_Trail.z l88 x89).f1)).bind fun t114 => (maps_own.l91 k x0_ t8 l27 t78 (l88.set (x89).toNat (⟨(nth T_api_Trail.z l88 x89).f0, t114⟩ : T_api_Trail)) (w64 (x89 + 1)))) else (none)) else (some (⟨x0_.f0, x0_.f1, x0_.f2, x0_.f3, t8, l27, l88⟩ : T_api_Map))) := by kernel_rfl
def maps_own.f (k : Nat) (x0_ : T_api_Map) : Option T_api_Map := (slices_Clone__api_Node_api_Node.f x0_.f4).bind fun t8 => ((slices_Clone__api_Temp_api_Temp.f x0_.f5).bind fun t16 => (maps_own.l30 k x0_ t8 t16 t16 0))
def maps_own.Post (W F : World) (r : T_api_Map) (v : Value) (w' : World) : Prop := ∃ (F' : World) (RA0_4 : Option Addr) (rc0_4 : Nat) (RA0_5 : Option Addr) (rc0_5 : Nat) (RA0_6 : Option Addr) (rc0_6 : Nat), v = .agg #[.int .i64 r.f0, .int .i64 r.f1, .int .i64 r.f2, .int .i64 r.f3, .slice RA0_4 r.f4.length rc0_4, .slice RA0_5 r.f5.length rc0_5, .slice RA0_6 r.f6.length rc0_6] ∧ St W (mine W []) F w' F' [row T_api_Node.k 104 (.slice RA0_4 r.f4.length rc0_4) r.f4, row T_api_Temp.k 97 (.slice RA0_5 r.f5.length rc0_5) r.f5, row T_api_Trail.k 49 (.slice RA0_6 r.f6.length rc0_6) r.f6]
set_option maxHeartbeats 4000000 in
set_option maxRecDepth 100000 in
theorem maps_own.calls (k : Nat) (x0_ : T_api_Map) (A0_4 : Option Addr) (c0_4 : Nat) (A0_5 : Option Addr) (c0_5 : Nat) (A0_6 : Option Addr) (c0_6 : Nat) (r : T_api_Map) (W F : World) (hown : Sub F W) (g0_4 : Rd T_api_Node.k F A0_4 c0_4 x0_.f4) (g0_5 : Rd T_api_Temp.k F A0_5 c0_5 x0_.f5) (g0_6 : Rd T_api_Trail.k F A0_6 c0_6 x0_.f6) (H : maps_own.f k x0_ = some r) :
    Calls Tryz.prog 77 #[.agg #[.int .i64 x0_.f0, .int .i64 x0_.f1, .int .i64 x0_.f2, .int .i64 x0_.f3, .slice A0_4 x0_.f4.length c0_4, .slice A0_5 x0_.f5.length c0_5, .slice A0_6 x0_.f6.length c0_6]] W fun e w' => ∃ v, e = .returned v ∧ maps_own.Post W F r v w' := by
  have hS := St.start (Own.nil hown)
  unfold maps_own.f at H
  refine enter (n := 54) rfl rfl rfl (Nat.le_of_ble_eq_true rfl) (fun a hE => ?_)
  refine wp_seq_k fun K1 hK1 => ?_
  refine pl0 ?_
  refine ple hE (.bx (t := 26) hS [.int .i64 x0_.f0, .int .i64 x0_.f1, .int .i64 x0_.f2, .int .i64 x0_.f3, .slice A0_4 x0_.f4.length c0_4, .slice A0_5 x0_.f5.length c0_5, .slice A0_6 x0_.f6.length c0_6]) ?_
  rintro _ u3 a ⟨b2, rfl, hb2, hS, hg⟩ hE
  refine ple hE (.al (t := 26) hS [.int .i64 0, .int .i64 0, .int .i64 0, .int .i64 0, .slice none 0 0, .slice none 0 0, .slice none 0 0]) ?_
  rintro _ u5 a ⟨b4, rfl, hb4, hS, hg⟩ hE
  refine pld ?_
  refine hK1 _ _ ?_
  refine wp_seq_k fun K6 hK6 => ?_
  refine drawn 10 ⟨[7, 9], [], fun q => False⟩ mixed rfl (by kernel_rfl) (fun hst => ?_)
  replace hS := hS.drew
  have hb2 := hS.blk_at (i := 1) rfl
  refine mny 6 hst hE (.r 0 1 <| .b 1 4 hb2 <| .r 3 1 <| .b 4 5 hb2 <| .nil) (fun a hE => ?_)
  obtain ⟨t8, h9, H⟩ := Option.bind_eq_some_iff.mp H
  refine on1 2 hE (.cl en128 (slices_Clone__api_Node_api_Node.calls x0_.f4 _ _ _ _ _ hS.own.sub g0_4 h9)) ?_
  rintro _ u7 a ⟨F10, A11, c12, rfl, hC⟩ hE
  refine ⟨.of hC.agr, ?_⟩
  have hs := hC.sub
  replace hS := hS.called (X := []) hC
  replace g0_4 := g0_4.mono hs
  replace g0_5 := g0_5.mono hs
  replace g0_6 := g0_6.mono hs
  refine mny 4 hst hE (.r 6 1 .nil) (fun a hE => ?_)
  obtain ⟨t16, h17, H⟩ := Option.bind_eq_some_iff.mp H
  refine on1 5 hE (.cl en129 (slices_Clone__api_Temp_api_Temp.calls x0_.f5 _ _ _ _ _ hS.own.sub g0_5 h17)) ?_
  rintro _ u15 a ⟨F18, A19, c20, rfl, hC⟩ hE
  refine ⟨.of hC.agr, ?_⟩
  have hs := hC.sub
  replace hS := hS.called (X := []) hC
  replace g0_4 := g0_4.mono hs
  replace g0_5 := g0_5.mono hs
  replace g0_6 := g0_6.mono hs
  replace hS := hS.front 3 rfl
  refine on1 7 hE (.sto hS [.int .i64 x0_.f0, .int .i64 x0_.f1, .int .i64 x0_.f2, .int .i64 x0_.f3, .slice A11 t8.length c12, .slice A0_5 x0_.f5.length c0_5, .slice A0_6 x0_.f6.length c0_6]) ?_
  rintro _ u23 a ⟨rfl, hb2, hS, hz⟩ hE
  refine ⟨.d, ?_⟩
  refine mny 1 hst hE (.r 8 1 .nil) (fun a hE => ?_)
  refine on1 9 hE (.sto hS [.int .i64 x0_.f0, .int .i64 x0_.f1, .int .i64 x0_.f2, .int .i64 x0_.f3, .slice A11 t8.length c12, .slice A19 t16.length c20, .slice A0_6 x0_.f6.length c0_6]) ?_
  rintro _ u24 a ⟨rfl, hb2, hS, hz⟩ hE
  refine ⟨.d, ?_⟩
  refine dn ?_
  refine hK6 _ _ ?_
  refine wp_seq_k fun K25 hK25 => ?_
  refine wp_seq_k fun K26 hK26 => ?_
  refine pl0 ?_
  refine plc hE (.r 0 1 <| .b 1 5 hb2 <| .r 2 2 <| .nil) (fun a hE => ?_)
  refine pld ?_
  refine hK26 _ _ ?_
  refine wp_block ?_
  replace hS := hS.front 1 rfl
  replace hS := hS.front 2 rfl
  replace hS := hS.front 3 rfl
  replace hS := hS.front 3 rfl
  refine wp_loop_ghost (fun kq31 a w' => ∃ (G : Nat → Value) (l27 : List T_api_Temp) (x28 : Int) (F29 : World), kq31 ≤ k ∧ Env 54 G a ∧ At G [(1, .pointer (some ⟨b2, 0, none⟩)), (2, .pointer (some ⟨b4, 0, none⟩)), (16, .slice A19 t16.length c20), (17, .int .i64 (t16.length : Int)), (18, .int .i64 x28)] ∧ St W (mine W []) F w' F29 [box b2 #[.int .i64 x0_.f0, .int .i64 x0_.f1, .int .i64 x0_.f2, .int .i64 x0_.f3, .slice A11 t8.length c12, .slice A19 t16.length c20, .slice A0_6 x0_.f6.length c0_6] 26, box b4 #[.int .i64 0, .int .i64 0, .int .i64 0, .int .i64 0, .slice none 0 0, .slice none 0 0, .slice none 0 0] 26, row T_api_Node.k 104 (.slice A11 t8.length c12) t8, row T_api_Temp.k 97 (.slice A19 t16.length c20) l27] ∧ Rd T_api_Trail.k F29 A0_6 c0_6 x0_.f6 ∧  maps_own.l30 kq31 x0_ t8 t16 l27 x28 = some r) k ⟨_, t16, 0, F18, Nat.le_refl _, hE, .of, hS, g0_6, H⟩ ?_
  rintro kq31 a u33 ⟨G, l27, x28, F29, hkq, hE, hA, hS, g0_6, H⟩
  cases kq31 with
  | zero => cases (show none = some r from H)
  | succ k32 =>
    rw [maps_own.l30_s] at H
    obtain ⟨J, hE⟩ := hE.at hA
    refine wp_seq_k fun K34 hK34 => ?_
    refine pl0 ?_
    refine plc hE (.r 0 1 .nil) (fun a hE => ?_)
    refine pld ?_
    refine hK34 _ _ ?_
    refine wp_seq_k fun K35 hK35 => ?_
    by_cases c36 : x28 < (t16.length : Int)
    · rw [if_pos c36] at H
      replace hE := hE.kt 19 c36
      refine ct hE ?_
      refine wp_skip ?_
      refine hK35 _ _ ?_
      refine wp_seq_k fun K37 hK37 => ?_
      refine wp_block ?_
      refine wp_seq_k fun K38 hK38 => ?_
      refine pl0 ?_
      by_cases c39 : 0 ≤ x28 ∧ x28 < (t16.length : Int)
      rotate_left
      · rw [if_neg c39] at H; cases H
      rw [if_pos c39] at H
      have hr40 := hS.row_at (i := 3) rfl
      have c41 : 0 ≤ x28 ∧ x28 < (l27.length : Int) := by rw [← (row_form hr40).1]; exact c39
      have hE_ := hE
      obtain ⟨b42, rfl⟩ := row_addr hr40 c41.1 c41.2
      replace hE := hE_
      have hr_ := hS.row_at (i := 3) rfl
      obtain ⟨cs44, ⟨A46, c47, rfl, g48⟩, hc45⟩ := row_el hr_ T_api_Temp.z x28 c41.1 c41.2
      refine plc hE (.r 0 1 <| .x 1 c39 <| .cs 2 hc45 <| .nil) (fun a hE => ?_)
      refine ple hE (.al (t := 97) hS [.int .i64 0, .slice none 0 0]) ?_
      rintro _ u50 a ⟨b49, rfl, hb49, hS, hg⟩ hE
      refine plc hE (.r 4 1 .nil) (fun a hE => ?_)
      refine ple hE (.sto hS [.int .i64 ((nth T_api_Temp.z l27 x28).f0), .slice A46 (((nth T_api_Temp.z l27 x28).f1).length) c47]) ?_
      rintro _ u51 a ⟨rfl, hb49, hS, hz⟩ hE
      refine pld ?_
      refine hK38 _ _ ?_
      refine drawn 9 ⟨[8], [], fun q => False⟩ mixed rfl (by kernel_rfl) (fun hst => ?_)
      replace hS := hS.drew
      have hb2 := hS.blk_at (i := 1) rfl
      have hb49 := hS.blk_at (i := 0) rfl
      refine mny 4 hst hE (.r 0 1 <| .b 1 5 hb2 <| .r 2 2 <| .b 4 1 hb49 <| .nil) (fun a hE => ?_)
      obtain ⟨t53, h54, H⟩ := Option.bind_eq_some_iff.mp H
      refine on1 5 hE (.cl en112 (slices_Clone__int_int.calls ((nth T_api_Temp.z l27 x28).f1) _ _ _ _ _ hS.own.sub g48 h54)) ?_
      rintro _ u52 a ⟨F55, A56, c57, rfl, hC⟩ hE
      refine ⟨.of hC.agr, ?_⟩
      have hs := hC.sub
      replace hS := hS.called (X := []) hC
      replace g48 := g48.mono hs
      replace g0_6 := g0_6.mono hs
      have hr60 := hS.row_at (i := 5) rfl
      have c61 : 0 ≤ x28 ∧ x28 < (l27.length : Int) := by rw [← (row_form hr60).1]; exact c39
      have hr_ := hS.row_at (i := 5) rfl
      obtain ⟨cs63, ⟨A65, c66, rfl, g67⟩, hc64⟩ := row_el hr_ T_api_Temp.z x28 c61.1 c61.2
      refine mny 1 hst hE (.x 6 c39 <| .r 7 1 <| .nil) (fun a hE => ?_)
      obtain ⟨F69, hs, g70, hS⟩ := hS.give
      replace g48 := g48.mono hs
      replace g0_6 := g0_6.mono hs
      replace hS := hS.front 4 rfl
      obtain ⟨cs74, ⟨A71, c72, rfl, g73⟩, hc75⟩ := row_el (hS.row_at (i := 0) rfl) T_api_Temp.z x28 c61.1 c61.2
      refine on1 8 hE (.set (d := T_api_Temp.k) (n := t16.length) (i := x28) (⟨(nth T_api_Temp.z l27 x28).f0, t53⟩ : T_api_Temp) 1 (ea1 _ _ _) hS c61 [.int .i64 ((nth T_api_Temp.z l27 x28).f0), .slice A71 (((nth T_api_Temp.z l27 x28).f1).length) c72] hc75 [.int .i64 ((nth T_api_Temp.z l27 x28).f0), .slice A56 t53.length c57] ⟨_, _, rfl, g70⟩) ?_
      rintro _ u68 a ⟨rfl, hS, hz⟩ hE
      refine ⟨.d, ?_⟩
      refine dn ?_
      refine block_n ?_
      refine hK37 _ _ ?_
      refine pl0 ?_
      refine plc hE (.r 0 2 .nil) (fun a hE => ?_)
      refine pld ?_
      replace hS := hS.front 1 rfl
      replace hS := hS.tail
      replace hS := hS.front 3 rfl
      replace hS := hS.front 3 rfl
      replace hS := hS.front 3 rfl
      exact then_n ⟨k32, by omega, _, (l27.set (x28).toNat (⟨(nth T_api_Temp.z l27 x28).f0, t53⟩ : T_api_Temp)), (w64 (x28 + 1)), F69, by omega, hE, .of, hS, g0_6, H⟩
    · rw [if_neg c36] at H
      replace hE := hE.kf 19 c36
      refine cf hE ?_
      refine wp_exit ?_
      refine hK25 _ _ ?_
      refine wp_seq_k fun K76 hK76 => ?_
      refine pl0 ?_
      have hb2 := hS.blk_at (i := 0) rfl
      refine plc hE (.r 0 1 <| .b 1 6 hb2 <| .nil) (fun a hE => ?_)
      obtain ⟨t78, h79, H⟩ := Option.bind_eq_some_iff.mp H
      refine ple hE (.cl en130 (slices_Clone__api_Trail_api_Trail.calls x0_.f6 _ _ _ _ _ hS.own.sub g0_6 h79)) ?_
      rintro _ u77 a ⟨F80, A81, c82, rfl, hC⟩ hE
      have hs := hC.sub
      replace hS := hS.called (X := []) hC
      replace g0_6 := g0_6.mono hs
      refine plc hE (.r 3 1 .nil) (fun a hE => ?_)
      replace hS := hS.front 1 rfl
      refine ple hE (.sto hS [.int .i64 x0_.f0, .int .i64 x0_.f1, .int .i64 x0_.f2, .int .i64 x0_.f3, .slice A11 t8.length c12, .slice A19 t16.length c20, .slice A81 t78.length c82]) ?_
      rintro _ u85 a ⟨rfl, hb2, hS, hz⟩ hE
      refine pld ?_
      refine hK76 _ _ ?_
      refine wp_seq_k fun K86 hK86 => ?_
      refine wp_seq_k fun K87 hK87 => ?_
      refine pl0 ?_
      refine plc hE (.r 0 1 <| .b 1 6 hb2 <| .r 2 2 <| .nil) (fun a hE => ?_)
      refine pld ?_
      refine hK87 _ _ ?_
      refine wp_block ?_
      replace hS := hS.front 1 rfl
      replace hS := hS.front 4 rfl
      replace hS := hS.front 4 rfl
      replace hS := hS.front 4 rfl
      replace hS := hS.front 4 rfl
      refine wp_loop_ghost (fun kq92 a w' => ∃ (G : Nat → Value) (l88 : List T_api_Trail) (x89 : Int) (F90 : World), kq92 ≤ k32 ∧ Env 54 G a ∧ At G [(1, .pointer (some ⟨b2, 0, none⟩)), (2, .pointer (some ⟨b4, 0, none⟩)), (37, .slice A81 t78.length c82), (38, .int .i64 (t78.length : Int)), (39, .int .i64 x89)] ∧ St W (mine W []) F w' F90 [box b2 #[.int .i64 x0_.f0, .int .i64 x0_.f1, .int .i64 x0_.f2, .int .i64 x0_.f3, .slice A11 t8.length c12, .slice A19 t16.length c20, .slice A81 t78.length c82] 26, box b4 #[.int .i64 0, .int .i64 0, .int .i64 0, .int .i64 0, .slice none 0 0, .slice none 0 0, .slice none 0 0] 26, row T_api_Node.k 104 (.slice A11 t8.length c12) t8, row T_api_Temp.k 97 (.slice A19 t16.length c20) l27, row T_api_Trail.k 49 (.slice A81 t78.length c82) l88] ∧  maps_own.l91 kq92 x0_ t8 l27 t78 l88 x89 = some r) k32 ⟨_, t78, 0, F80, Nat.le_refl _, hE, .of, hS, H⟩ ?_
      rintro kq92 a u94 ⟨G, l88, x89, F90, hkq, hE, hA, hS, H⟩
      cases kq92 with
      | zero => cases (show none = some r from H)
      | succ k93 =>
        rw [maps_own.l91_s] at H
        obtain ⟨J, hE⟩ := hE.at hA
        refine wp_seq_k fun K95 hK95 => ?_
        refine pl0 ?_
        refine plc hE (.r 0 1 .nil) (fun a hE => ?_)
        refine pld ?_
        refine hK95 _ _ ?_
        refine wp_seq_k fun K96 hK96 => ?_
        by_cases c97 : x89 < (t78.length : Int)
        · rw [if_pos c97] at H
          replace hE := hE.kt 40 c97
          refine ct hE ?_
          refine wp_skip ?_
          refine hK96 _ _ ?_
          refine wp_seq_k fun K98 hK98 => ?_
          refine wp_block ?_
          refine wp_seq_k fun K99 hK99 => ?_
          refine pl0 ?_
          by_cases c100 : 0 ≤ x89 ∧ x89 < (t78.length : Int)
          rotate_left
          · rw [if_neg c100] at H; cases H
          rw [if_pos c100] at H
          have hr101 := hS.row_at (i := 4) rfl
          have c102 : 0 ≤ x89 ∧ x89 < (l88.length : Int) := by rw [← (row_form hr101).1]; exact c100
          have hE_ := hE
          obtain ⟨b103, rfl⟩ := row_addr hr101 c102.1 c102.2
          replace hE := hE_
          have hr_ := hS.row_at (i := 4) rfl
          obtain ⟨cs105, ⟨A107, c108, rfl, g109⟩, hc106⟩ := row_el hr_ T_api_Trail.z x89 c102.1 c102.2
          refine plc hE (.r 0 1 <| .x 1 c100 <| .cs 2 hc106 <| .nil) (fun a hE => ?_)
          refine ple hE (.al (t := 49) hS [.int .i64 0, .slice none 0 0]) ?_
          rintro _ u111 a ⟨b110, rfl, hb110, hS, hg⟩ hE
          refine plc hE (.r 4 1 .nil) (fun a hE => ?_)
          refine ple hE (.sto hS [.int .i64 ((nth T_api_Trail.z l88 x89).f0), .slice A107 (((nth T_api_Trail.z l88 x89).f1).length) c108]) ?_
          rintro _ u112 a ⟨rfl, hb110, hS, hz⟩ hE
          refine pld ?_
          refine hK99 _ _ ?_
          refine drawn 9 ⟨[8], [], fun q => False⟩ mixed rfl (by kernel_rfl) (fun hst => ?_)
          replace hS := hS.drew
          have hb2 := hS.blk_at (i := 1) rfl
          have hb110 := hS.blk_at (i := 0) rfl
          refine mny 4 hst hE (.r 0 1 <| .b 1 6 hb2 <| .r 2 2 <| .b 4 1 hb110 <| .nil) (fun a hE => ?_)
          obtain ⟨t114, h115, H⟩ := Option.bind_eq_some_iff.mp H
          refine on1 5 hE (.cl en131 (maps_spans.calls k93 ((nth T_api_Trail.z l88 x89).f1) _ _ _ _ _ hS.own.sub g109 h115)) ?_
          rintro _ u113 a ⟨F116, A117, c118, rfl, hC⟩ hE
          refine ⟨.of hC.agr, ?_⟩
          have hs := hC.sub
          replace hS := hS.called (X := []) hC
          replace g109 := g109.mono hs
          have hr121 := hS.row_at (i := 6) rfl
          have c122 : 0 ≤ x89 ∧ x89 < (l88.length : Int) := by rw [← (row_form hr121).1]; exact c100
          have hr_ := hS.row_at (i := 6) rfl
          obtain ⟨cs124, ⟨A126, c127, rfl, g128⟩, hc125⟩ := row_el hr_ T_api_Trail.z x89 c122.1 c122.2
          refine mny 1 hst hE (.x 6 c100 <| .r 7 1 <| .nil) (fun a hE => ?_)
          obtain ⟨F130, hs, g131, hS⟩ := hS.give
          replace g109 := g109.mono hs
          replace hS := hS.front 5 rfl
          obtain ⟨cs135, ⟨A132, c133, rfl, g134⟩, hc136⟩ := row_el (hS.row_at (i := 0) rfl) T_api_Trail.z x89 c122.1 c122.2
          refine on1 8 hE (.set (d := T_api_Trail.k) (n := t78.length) (i := x89) (⟨(nth T_api_Trail.z l88 x89).f0, t114⟩ : T_api_Trail) 1 (ea1 _ _ _) hS c122 [.int .i64 ((nth T_api_Trail.z l88 x89).f0), .slice A132 (((nth T_api_Trail.z l88 x89).f1).length) c133] hc136 [.int .i64 ((nth T_api_Trail.z l88 x89).f0), .slice A117 t114.length c118] ⟨_, _, rfl, g131⟩) ?_
          rintro _ u129 a ⟨rfl, hS, hz⟩ hE
          refine ⟨.d, ?_⟩
          refine dn ?_
          refine block_n ?_
          refine hK98 _ _ ?_
          refine pl0 ?_
          refine plc hE (.r 0 2 .nil) (fun a hE => ?_)
          refine pld ?_
          replace hS := hS.front 1 rfl
          replace hS := hS.tail
          replace hS := hS.front 4 rfl
          replace hS := hS.front 4 rfl
          replace hS := hS.front 4 rfl
          replace hS := hS.front 4 rfl
          exact then_n ⟨k93, by omega, _, (l88.set (x89).toNat (⟨(nth T_api_Trail.z l88 x89).f0, t114⟩ : T_api_Trail)), (w64 (x89 + 1)), F130, by omega, hE, .of, hS, H⟩
        · rw [if_neg c97] at H
          replace hE := hE.kf 40 c97
          refine cf hE ?_
          refine wp_exit ?_
          refine hK86 _ _ ?_
          refine wp_seq_k fun K137 hK137 => ?_
          refine pl0 ?_
          have hb2 := hS.blk_at (i := 0) rfl
          refine plc hE (.bn 0 0 7 hb2 .nil) (fun a hE => ?_)
          replace hS := hS.front 1 rfl
          refine ple hE (.sto hS [.int .i64 x0_.f0, .int .i64 x0_.f1, .int .i64 x0_.f2, .int .i64 x0_.f3, .slice A11 t8.length c12, .slice A19 t16.length c20, .slice A81 t78.length c82]) ?_
          rintro _ u138 a ⟨rfl, hb4, hS, hz⟩ hE
          refine pld ?_
          refine hK137 _ _ ?_
          refine wp_ret ?_
          have hn139 := (row_form (hS.row_at (i := 3) rfl)).1
          replace hS : St W (mine W []) F u138 F90 [box b4 #[.int .i64 x0_.f0, .int .i64 x0_.f1, .int .i64 x0_.f2, .int .i64 x0_.f3, .slice A11 t8.length c12, .slice A19 l27.length c20, .slice A81 t78.length c82] 26, box b2 #[.int .i64 x0_.f0, .int .i64 x0_.f1, .int .i64 x0_.f2, .int .i64 x0_.f3, .slice A11 t8.length c12, .slice A19 l27.length c20, .slice A81 t78.length c82] 26, row T_api_Node.k 104 (.slice A11 t8.length c12) t8, row T_api_Temp.k 97 (.slice A19 l27.length c20) l27, row T_api_Trail.k 49 (.slice A81 t78.length c82) l88] := by rw [← hn139]; exact hS
          have hn140 := (row_form (hS.row_at (i := 4) rfl)).1
          replace hS : St W (mine W []) F u138 F90 [box b4 #[.int .i64 x0_.f0, .int .i64 x0_.f1, .int .i64 x0_.f2, .int .i64 x0_.f3, .slice A11 t8.length c12, .slice A19 l27.length c20, .slice A81 l88.length c82] 26, box b2 #[.int .i64 x0_.f0, .int .i64 x0_.f1, .int .i64 x0_.f2, .int .i64 x0_.f3, .slice A11 t8.length c12, .slice A19 l27.length c20, .slice A81 l88.length c82] 26, row T_api_Node.k 104 (.slice A11 t8.length c12) t8, row T_api_Temp.k 97 (.slice A19 l27.length c20) l27, row T_api_Trail.k 49 (.slice A81 l88.length c82) l88] := by rw [← hn140]; exact hS
          have hb4 := hS.blk_at (i := 0) rfl
          replace hS := hS.tail
          replace hS := hS.tail
          obtain rfl := Option.some.inj H
          exact ret1 hE rfl (.cell (by kernel_rfl) (res_blk [.int .i64 x0_.f0, .int .i64 x0_.f1, .int .i64 x0_.f2, .int .i64 x0_.f3, .slice A11 t8.length c12, .slice A19 l27.length c20, .slice A81 l88.length c82] ag26 sz26 hb4 rfl) .nil) ⟨_, rfl, _, _, _, _, _, _, _, rfl, hS⟩

/-! ### cmp.isNaN[int]: function 202 -/
def cmp_isNaN_int.f (x0_ : Int) : Option Bool := some (!(x0_ == x0_))
def cmp_isNaN_int.Post (W F : World) (r : Bool) (v : Value) (w' : World) : Prop := ∃ (F' : World), v = .bool r ∧ St W (mine W []) F w' F' []
set_option maxHeartbeats 4000000 in
set_option maxRecDepth 100000 in
theorem cmp_isNaN_int.calls (x0_ : Int) (r : Bool) (W F : World) (hown : Sub F W) (H : cmp_isNaN_int.f x0_ = some r) :
    Calls Tryz.prog 202 #[.int .i64 x0_] W fun e w' => ∃ v, e = .returned v ∧ cmp_isNaN_int.Post W F r v w' := by
  have hS := St.start (Own.nil hown)
  unfold cmp_isNaN_int.f at H
  refine enter (n := 6) rfl rfl rfl (Nat.le_of_ble_eq_true rfl) (fun a hE => ?_)
  refine wp_seq_k fun K1 hK1 => ?_
  refine pl0 ?_
  refine plc hE (.r 0 1 .nil) (fun a hE => ?_)
  refine pld ?_
  refine hK1 _ _ ?_
  refine wp_seq_k fun K2 hK2 => ?_
  refine pl0 ?_
  refine plc hE (.r 0 4 .nil) (fun a hE => ?_)
  refine pld ?_
  refine hK2 _ _ ?_
  refine wp_ret ?_
  obtain rfl := Option.some.inj H
  exact rt1 hE ⟨_, rfl, _, rfl, hS⟩

/-! ### cmp.Compare[int]: function 161 -/
def cmp_Compare_int.f (x0_ : Int) (x1_ : Int) : Option Int := (cmp_isNaN_int.f x0_).bind fun t4 => ((cmp_isNaN_int.f x1_).bind fun t8 => (if t4 = true then (if t8 = true then (some 0) else (some (-1))) else (if t8 = true then (some 1) else (if x0_ < x1_ then (some (-1)) else (if x0_ > x1_ then (some 1) else (some 0))))))
def cmp_Compare_int.Post (W F : World) (r : Int) (v : Value) (w' : World) : Prop := ∃ (F' : World), v = .int .i64 r ∧ St W (mine W []) F w' F' []
set_option maxHeartbeats 4000000 in
set_option maxRecDepth 100000 in
theorem cmp_Compare_int.calls (x0_ : Int) (x1_ : Int) (r : Int) (W F : World) (hown : Sub F W) (H : cmp_Compare_int.f x0_ x1_ = some r) :
    Calls Tryz.prog 161 #[.int .i64 x0_, .int .i64 x1_] W fun e w' => ∃ v, e = .returned v ∧ cmp_Compare_int.Post W F r v w' := by
  have hS := St.start (Own.nil hown)
  unfold cmp_Compare_int.f at H
  refine enter (n := 20) rfl rfl rfl (Nat.le_of_ble_eq_true rfl) (fun a hE => ?_)
  refine wp_seq_k fun K1 hK1 => ?_
  refine pl0 ?_
  refine plc hE (.r 0 1 .nil) (fun a hE => ?_)
  refine pld ?_
  refine hK1 _ _ ?_
  refine wp_seq_k fun K2 hK2 => ?_
  refine pl0 ?_
  refine plc hE (.r 0 1 .nil) (fun a hE => ?_)
  obtain ⟨t4, h5, H⟩ := Option.bind_eq_some_iff.mp H
  refine ple hE (.cl en202 (cmp_isNaN_int.calls x0_ _ _ _ hS.own.sub h5)) ?_
  rintro _ u3 a ⟨_, rfl, hC⟩ hE
  replace hS := hS.lent hC
  refine plc hE (.r 2 1 .nil) (fun a hE => ?_)
  refine pld ?_
  refine hK2 _ _ ?_
  refine wp_seq_k fun K6 hK6 => ?_
  refine pl0 ?_
  refine plc hE (.r 0 1 .nil) (fun a hE => ?_)
  obtain ⟨t8, h9, H⟩ := Option.bind_eq_some_iff.mp H
  refine ple hE (.cl en202 (cmp_isNaN_int.calls x1_ _ _ _ hS.own.sub h9)) ?_
  rintro _ u7 a ⟨_, rfl, hC⟩ hE
  replace hS := hS.lent hC
  refine plc hE (.r 2 1 .nil) (fun a hE => ?_)
  refine pld ?_
  refine hK6 _ _ ?_
  refine wp_seq_k fun K10 hK10 => ?_
  refine wp_seq_k fun K11 hK11 => ?_
  refine pl0 ?_
  refine plc hE (.r 0 1 .nil) (fun a hE => ?_)
  refine pld ?_
  refine hK11 _ _ ?_
  by_cases c12 : t4 = true
  · rw [if_pos c12] at H
    replace hE := hE.bt 11 c12
    refine ct hE ?_
    refine wp_seq_k fun K13 hK13 => ?_
    refine wp_seq_k fun K14 hK14 => ?_
    refine pl0 ?_
    refine plc hE (.r 0 1 .nil) (fun a hE => ?_)
    refine pld ?_
    refine hK14 _ _ ?_
    by_cases c15 : t8 = true
    · rw [if_pos c15] at H
      replace hE := hE.bt 12 c15
      refine ct hE ?_
      refine wp_seq_k fun K16 hK16 => ?_
      refine pl0 ?_
      refine plc hE (.r 0 1 .nil) (fun a hE => ?_)
      refine pld ?_
      refine hK16 _ _ ?_
      refine wp_ret (then_ret (then_ret ?_))
      obtain rfl := Option.some.inj H
      exact rt1 hE ⟨_, rfl, _, rfl, hS⟩
    · rw [if_neg c15] at H
      replace hE := hE.bf 12 c15
      refine cf hE ?_
      refine wp_skip ?_
      refine hK13 _ _ ?_
      refine wp_seq_k fun K17 hK17 => ?_
      refine pl0 ?_
      refine plc hE (.r 0 1 .nil) (fun a hE => ?_)
      refine pld ?_
      refine hK17 _ _ ?_
      refine wp_ret (then_ret ?_)
      obtain rfl := Option.some.inj H
      exact rt1 hE ⟨_, rfl, _, rfl, hS⟩
  · rw [if_neg c12] at H
    replace hE := hE.bf 11 c12
    refine cf hE ?_
    refine wp_skip ?_
    refine hK10 _ _ ?_
    refine wp_seq_k fun K18 hK18 => ?_
    refine wp_seq_k fun K19 hK19 => ?_
    refine pl0 ?_
    refine plc hE (.r 0 1 .nil) (fun a hE => ?_)
    refine pld ?_
    refine hK19 _ _ ?_
    by_cases c20 : t8 = true
    · rw [if_pos c20] at H
      replace hE := hE.bt 13 c20
      refine ct hE ?_
      refine wp_seq_k fun K21 hK21 => ?_
      refine pl0 ?_
      refine plc hE (.r 0 1 .nil) (fun a hE => ?_)
      refine pld ?_
      refine hK21 _ _ ?_
      refine wp_ret (then_ret ?_)
      obtain rfl := Option.some.inj H
      exact rt1 hE ⟨_, rfl, _, rfl, hS⟩
    · rw [if_neg c20] at H
      replace hE := hE.bf 13 c20
      refine cf hE ?_
      refine wp_skip ?_
      refine hK18 _ _ ?_
      refine wp_seq_k fun K22 hK22 => ?_
      refine wp_seq_k fun K23 hK23 => ?_
      refine pl0 ?_
      refine plc hE (.r 0 3 .nil) (fun a hE => ?_)
      refine pld ?_
      refine hK23 _ _ ?_
      by_cases c24 : x0_ < x1_
      · rw [if_pos c24] at H
        replace hE := hE.kt 16 c24
        refine ct hE ?_
        refine wp_seq_k fun K25 hK25 => ?_
        refine pl0 ?_
        refine plc hE (.r 0 1 .nil) (fun a hE => ?_)
        refine pld ?_
        refine hK25 _ _ ?_
        refine wp_ret (then_ret ?_)
        obtain rfl := Option.some.inj H
        exact rt1 hE ⟨_, rfl, _, rfl, hS⟩
      · rw [if_neg c24] at H
        replace hE := hE.kf 16 c24
        refine cf hE ?_
        refine wp_skip ?_
        refine hK22 _ _ ?_
        refine wp_seq_k fun K26 hK26 => ?_
        refine wp_seq_k fun K27 hK27 => ?_
        refine pl0 ?_
        refine plc hE (.r 0 3 .nil) (fun a hE => ?_)
        refine pld ?_
        refine hK27 _ _ ?_
        by_cases c28 : x0_ > x1_
        · rw [if_pos c28] at H
          replace hE := hE.kt 19 c28
          refine ct hE ?_
          refine wp_seq_k fun K29 hK29 => ?_
          refine pl0 ?_
          refine plc hE (.r 0 1 .nil) (fun a hE => ?_)
          refine pld ?_
          refine hK29 _ _ ?_
          refine wp_ret (then_ret ?_)
          obtain rfl := Option.some.inj H
          exact rt1 hE ⟨_, rfl, _, rfl, hS⟩
        · rw [if_neg c28] at H
          replace hE := hE.kf 19 c28
          refine cf hE ?_
          refine wp_skip ?_
          refine hK26 _ _ ?_
          refine wp_seq_k fun K30 hK30 => ?_
          refine pl0 ?_
          refine plc hE (.r 0 1 .nil) (fun a hE => ?_)
          refine pld ?_
          refine hK30 _ _ ?_
          refine wp_ret ?_
          obtain rfl := Option.some.inj H
          exact rt1 hE ⟨_, rfl, _, rfl, hS⟩

/-! ### windrose/maps.at$1: function 179 -/
def maps_at_1.f (x0_ : T_api_Node) (x1_ : Int) : Option Int := (cmp_Compare_int.f x0_.f0 x1_).bind fun t6 => (some t6)
def maps_at_1.Post (W F : World) (r : Int) (v : Value) (w' : World) : Prop := ∃ (F' : World), v = .int .i64 r ∧ St W (mine W []) F w' F' []
set_option maxHeartbeats 4000000 in
set_option maxRecDepth 100000 in
theorem maps_at_1.calls (x0_ : T_api_Node) (x1_ : Int) (r : Int) (W F : World) (hown : Sub F W) (H : maps_at_1.f x0_ x1_ = some r) :
    Calls Tryz.prog 179 #[.agg #[.int .i64 x0_.f0, .int .i64 x0_.f1, .int .i64 x0_.f2, .int .i64 x0_.f3, .bool x0_.f4, .bool x0_.f5], .int .i64 x1_] W fun e w' => ∃ v, e = .returned v ∧ maps_at_1.Post W F r v w' := by
  have hS := St.start (Own.nil hown)
  unfold maps_at_1.f at H
  refine enter (n := 9) rfl rfl rfl (Nat.le_of_ble_eq_true rfl) (fun a hE => ?_)
  refine wp_seq_k fun K1 hK1 => ?_
  refine pl0 ?_
  refine ple hE (.bx (t := 104) hS [.int .i64 x0_.f0, .int .i64 x0_.f1, .int .i64 x0_.f2, .int .i64 x0_.f3, .bool x0_.f4, .bool x0_.f5]) ?_
  rintro _ u3 a ⟨b2, rfl, hb2, hS, hg⟩ hE
  refine plc hE (.r 1 1 .nil) (fun a hE => ?_)
  refine pld ?_
  refine hK1 _ _ ?_
  refine wp_seq_k fun K4 hK4 => ?_
  refine pl0 ?_
  refine plc hE (.r 0 1 <| .b 1 0 hb2 <| .r 2 1 <| .nil) (fun a hE => ?_)
  obtain ⟨t6, h7, H⟩ := Option.bind_eq_some_iff.mp H
  refine ple hE (.cl en161 (cmp_Compare_int.calls x0_.f0 x1_ _ _ _ hS.own.sub h7)) ?_
  rintro _ u5 a ⟨_, rfl, hC⟩ hE
  replace hS := hS.lent hC
  refine plc hE (.r 4 1 .nil) (fun a hE => ?_)
  refine pld ?_
  refine hK4 _ _ ?_
  refine wp_ret ?_
  replace hS := hS.tail
  obtain rfl := Option.some.inj H
  exact rt1 hE ⟨_, rfl, _, rfl, hS⟩

end Go.Proofs.YtpohepinmjmbkaaGreat.MN
