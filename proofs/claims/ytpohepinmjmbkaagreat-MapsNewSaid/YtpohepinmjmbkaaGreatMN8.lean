/- Functions of the program, what each computes (written by wip/s/sl.py). -/
import Derived.Test.YtpohepinmjmbkaaGreatMN7
namespace Go.Proofs.YtpohepinmjmbkaaGreat.MN
open Go Go.RowKit Go.Proofs.YtpohepinmjmbkaaGreat.Sl
set_option linter.unusedVariables false
set_option linter.unusedSimpArgs false
/-! ### windrose/windroseref08.pasts: function 69 -/
mutual
def windroseref08_pasts.l7 : Nat → T_api_Map → Int → Option Bool
  | 0, _, _ => none
  | k + 1, x0_, x6 => if x6 < (x0_.f6.length : Int) then (if 0 ≤ x6 ∧ x6 < (x0_.f6.length : Int) then (if (nth T_api_Trail.z x0_.f6 x6).f0 < 0 then (windroseref08_pasts.j31 k x0_ x6 true) else (windroseref08_pasts.j31 k x0_ x6 (decide ((nth T_api_Trail.z x0_.f6 x6).f0 > x0_.f0)))) else (none)) else (some ((x0_.f6.length : Int) == x0_.f3))
def windroseref08_pasts.j31 : Nat → T_api_Map → Int → Bool → Option Bool
  | 0, _, _, _ => none
  | k + 1, x0_, x6, y30 => if y30 = true then (some false) else (windroseref08_pasts.l40 k x0_ x6 0)
def windroseref08_pasts.l40 : Nat → T_api_Map → Int → Int → Option Bool
  | 0, _, _, _ => none
  | k + 1, x0_, x6, x39 => if x39 < (((nth T_api_Trail.z x0_.f6 x6).f1).length : Int) then (if 0 ≤ x39 ∧ x39 < (((nth T_api_Trail.z x0_.f6 x6).f1).length : Int) then (if (nth T_api_Span.z ((nth T_api_Trail.z x0_.f6 x6).f1) x39).f0 < 0 then (windroseref08_pasts.j66 k x0_ x6 x39 true) else (if (nth T_api_Span.z ((nth T_api_Trail.z x0_.f6 x6).f1) x39).f0 ≥ (nth T_api_Trail.z x0_.f6 x6).f0 then (windroseref08_pasts.j66 k x0_ x6 x39 true) else (if (((nth T_api_Span.z ((nth T_api_Trail.z x0_.f6 x6).f1) x39).f1).length : Int) < x0_.f2 then (windroseref08_pasts.j66 k x0_ x6 x39 true) else (windroseref08_pasts.j66 k x0_ x6 x39 (decide ((((nth T_api_Span.z ((nth T_api_Trail.z x0_.f6 x6).f1) x39).f1).length : Int) > x0_.f1)))))) else (none)) else (windroseref08_pasts.l7 k x0_ (w64 (x6 + 1)))
def windroseref08_pasts.j66 : Nat → T_api_Map → Int → Int → Bool → Option Bool
  | 0, _, _, _, _ => none
  | k + 1, x0_, x6, x39, y65 => if y65 = true then (some false) else (windroseref08_pasts.l76 k x0_ x6 x39 0)
def windroseref08_pasts.l76 : Nat → T_api_Map → Int → Int → Int → Option Bool
  | 0, _, _, _, _ => none
  | k + 1, x0_, x6, x39, x75 => if x75 < (((nth T_api_Span.z ((nth T_api_Trail.z x0_.f6 x6).f1) x39).f1).length : Int) then (if 0 ≤ x75 ∧ x75 < (((nth T_api_Span.z ((nth T_api_Trail.z x0_.f6 x6).f1) x39).f1).length : Int) then (if (nth 0 ((nth T_api_Span.z ((nth T_api_Trail.z x0_.f6 x6).f1) x39).f1) x75) < 1 then (windroseref08_pasts.j104 k x0_ x6 x39 x75 true) else (if (nth 0 ((nth T_api_Span.z ((nth T_api_Trail.z x0_.f6 x6).f1) x39).f1) x75) > 999 then (windroseref08_pasts.j104 k x0_ x6 x39 x75 true) else (if x75 > 0 then (if 0 ≤ (w64 (x75 - 1)) ∧ (w64 (x75 - 1)) < (((nth T_api_Span.z ((nth T_api_Trail.z x0_.f6 x6).f1) x39).f1).length : Int) then (windroseref08_pasts.j104 k x0_ x6 x39 x75 (decide ((nth 0 ((nth T_api_Span.z ((nth T_api_Trail.z x0_.f6 x6).f1) x39).f1) (w64 (x75 - 1))) ≥ (nth 0 ((nth T_api_Span.z ((nth T_api_Trail.z x0_.f6 x6).f1) x39).f1) x75)))) else (none)) else (windroseref08_pasts.j104 k x0_ x6 x39 x75 false)))) else (none)) else (windroseref08_pasts.l113 k x0_ x6 x39 0)
def windroseref08_pasts.j104 : Nat → T_api_Map → Int → Int → Int → Bool → Option Bool
  | 0, _, _, _, _, _ => none
  | k + 1, x0_, x6, x39, x75, y103 => if y103 = true then (some false) else (windroseref08_pasts.l76 k x0_ x6 x39 (w64 (x75 + 1)))
def windroseref08_pasts.l113 : Nat → T_api_Map → Int → Int → Int → Option Bool
  | 0, _, _, _, _ => none
  | k + 1, x0_, x6, x39, x112 => if x112 < x39 then (if 0 ≤ x112 ∧ x112 < (((nth T_api_Trail.z x0_.f6 x6).f1).length : Int) then (if (nth T_api_Span.z ((nth T_api_Trail.z x0_.f6 x6).f1) x112).f0 ≥ (nth T_api_Span.z ((nth T_api_Trail.z x0_.f6 x6).f1) x39).f0 then (windroseref08_pasts.j137 k x0_ x6 x39 x112 true) else ((windroseref02_Ints.f k ((nth T_api_Span.z ((nth T_api_Trail.z x0_.f6 x6).f1) x112).f1) ((nth T_api_Span.z ((nth T_api_Trail.z x0_.f6 x6).f1) x39).f1)).bind fun t134 => (windroseref08_pasts.j137 k x0_ x6 x39 x112 t134))) else (none)) else (windroseref08_pasts.l40 k x0_ x6 (w64 (x39 + 1)))
def windroseref08_pasts.j137 : Nat → T_api_Map → Int → Int → Int → Bool → Option Bool
  | 0, _, _, _, _, _ => none
  | k + 1, x0_, x6, x39, x112, y136 => if y136 = true then (some false) else (windroseref08_pasts.l113 k x0_ x6 x39 (w64 (x112 + 1)))
end
theorem windroseref08_pasts.l7_s (k : Nat) (x0_ : T_api_Map) (x6 : Int) : windroseref08_pasts.l7 (k + 1) x0_ x6 = (if x6 < (x0_.f6.length : Int) then (if 0 ≤ x6 ∧ x6 < (x0_.f6.length : Int) then (if (nth T_api_Trail.z x0_.f6 x6).f0 < 0 then (windroseref08_pasts.j31 k x0_ x6 true) else (windroseref08_pasts.j31 k x0_ x6 (decide ((nth T_api_Trail.z x0_.f6 x6).f0 > x0_.f0)))) else (none)) else (some ((x0_.f6.length : Int) == x0_.f3))) := by kernel_rfl
theorem windroseref08_pasts.j31_s (k : Nat) (x0_ : T_api_Map) (x6 : Int) (y30 : Bool) : windroseref08_pasts.j31 (k + 1) x0_ x6 y30 = (if y30 = true then (some false) else (windroseref08_pasts.l40 k x0_ x6 0)) := by kernel_rfl
theorem windroseref08_pasts.l40_s (k : Nat) (x0_ : T_api_Map) (x6 : Int) (x39 : Int) : windroseref08_pasts.l40 (k + 1) x0_ x6 x39 = (if x39 < (((nth T_api_Trail.z x0_.f6 x6).f1).length : Int) then (if 0 ≤ x39 ∧ x39 < (((nth T_api_Trail.z x0_.f6 x6).f1).length : Int) then (if (nth T_api_Span.z ((nth T_api_Trail.z x0_.f6 x6).f1) x39).f0 < 0 then (windroseref08_pasts.j66 k x0_ x6 x39 true) else (if (nth T_api_Span.z ((nth T_api_Trail.z x0_.f6 x6).f1) x39).f0 ≥ (nth T_api_Trail.z x0_.f6 x6).f0 then (windroseref08_pasts.j66 k x0_ x6 x39 true) else (if (((nth T_api_Span.z ((nth T_api_Trail.z x0_.f6 x6).f1) x39).f1).length : Int) < x0_.f2 then (windroseref08_pasts.j66 k x0_ x6 x39 true) else (windroseref08_pasts.j66 k x0_ x6 x39 (decide ((((nth T_api_Span.z ((nth T_api_Trail.z x0_.f6 x6).f1) x39).f1).length : Int) > x0_.f1)))))) else (none)) else (windroseref08_pasts.l7 k x0_ (w64 (x6 + 1)))) := by kernel_rfl
theorem windroseref08_pasts.j66_s (k : Nat) (x0_ : T_api_Map) (x6 : Int) (x39 : Int) (y65 : Bool) : windroseref08_pasts.j66 (k + 1) x0_ x6 x39 y65 = (if y65 = true then (some false) else (windroseref08_pasts.l76 k x0_ x6 x39 0)) := by kernel_rfl
theorem windroseref08_pasts.l76_s (k : Nat) (x0_ : T_api_Map) (x6 : Int) (x39 : Int) (x75 : Int) : windroseref08_pasts.l76 (k + 1) x0_ x6 x39 x75 = (if x75 < (((nth T_api_Span.z ((nth T_api_Trail.z x0_.f6 x6).f1) x39).f1).length : Int) then (if 0 ≤ x75 ∧ x75 < (((nth T_api_Span.z ((nth T_api_Trail.z x0_.f6 x6).f1) x39).f1).length : Int) then (if (nth 0 ((nth T_api_Span.z ((nth T_api_Trail.z x0_.f6 x6).f1) x39).f1) x75) < 1 then (windroseref08_pasts.j104 k x0_ x6 x39 x75 true) else (if (nth 0 ((nth T_api_Span.z ((nth T_api_Trail.z x0_.f6 x6).f1) x39).f1) x75) > 999 then (windroseref08_pasts.j104 k x0_ x6 x39 x75 true) else (if x75 > 0 then (if 0 ≤ (w64 (x75 - 1)) ∧ (w64 (x75 - 1)) < (((nth T_api_Span.z ((nth T_api_Trail.z x0_.f6 x6).f1) x39).f1).length : Int) then (windroseref08_pasts.j104 k x0_ x6 x39 x75 (decide ((nth 0 ((nth T_api_Span.z ((nth T_api_Trail.z x0_.f6 x6).f1) x39).f1) (w64 (x75 - 1))) ≥ (nth 0 ((nth T_api_Span.z ((nth T_api_Trail.z x0_.f6 x6).f1) x39).f1) x75)))) else (none)) else (windroseref08_pasts.j104 k x0_ x6 x39 x75 false)))) else (none)) else (windroseref08_pasts.l113 k x0_ x6 x39 0)) := by kernel_rfl
theorem windroseref08_pasts.j104_s (k : Nat) (x0_ : T_api_Map) (x6 : Int) (x39 : Int) (x75 : Int) (y103 : Bool) : windroseref08_pasts.j104 (k + 1) x0_ x6 x39 x75 y103 = (if y103 = true then (some false) else (windroseref08_pasts.l76 k x0_ x6 x39 (w64 (x75 + 1)))) := by kernel_rfl
theorem windroseref08_pasts.l113_s (k : Nat) (x0_ : T_api_Map) (x6 : Int) (x39 : Int) (x112 : Int) : windroseref08_pasts.l113 (k + 1) x0_ x6 x39 x112 = (if x112 < x39 then (if 0 ≤ x112 ∧ x112 < (((nth T_api_Trail.z x0_.f6 x6).f1).length : Int) then (if (nth T_api_Span.z ((nth T_api_Trail.z x0_.f6 x6).f1) x112).f0 ≥ (nth T_api_Span.z ((nth T_api_Trail.z x0_.f6 x6).f1) x39).f0 then (windroseref08_pasts.j137 k x0_ x6 x39 x112 true) else ((windroseref02_Ints.f k ((nth T_api_Span.z ((nth T_api_Trail.z x0_.f6 x6).f1) x112).f1) ((nth T_api_Span.z ((nth T_api_Trail.z x0_.f6 x6).f1) x39).f1)).bind fun t134 => (windroseref08_pasts.j137 k x0_ x6 x39 x112 t134))) else (none)) else (windroseref08_pasts.l40 k x0_ x6 (w64 (x39 + 1)))) := by kernel_rfl
theorem windroseref08_pasts.j137_s (k : Nat) (x0_ : T_api_Map) (x6 : Int) (x39 : Int) (x112 : Int) (y136 : Bool) : windroseref08_pasts.j137 (k + 1) x0_ x6 x39 x112 y136 = (if y136 = true then (some false) else (windroseref08_pasts.l113 k x0_ x6 x39 (w64 (x112 + 1)))) := by kernel_rfl
def windroseref08_pasts.f (k : Nat) (x0_ : T_api_Map) : Option Bool := windroseref08_pasts.l7 k x0_ 0
def windroseref08_pasts.Post (W F : World) (r : Bool) (v : Value) (w' : World) : Prop := ∃ (F' : World), v = .bool r ∧ St W (mine W []) F w' F' []
set_option maxHeartbeats 4000000 in
set_option maxRecDepth 100000 in
theorem windroseref08_pasts.calls (k : Nat) (x0_ : T_api_Map) (A0_4 : Option Addr) (c0_4 : Nat) (A0_5 : Option Addr) (c0_5 : Nat) (A0_6 : Option Addr) (c0_6 : Nat) (r : Bool) (W F : World) (hown : Sub F W) (g0_4 : Rd T_api_Node.k F A0_4 c0_4 x0_.f4) (g0_5 : Rd T_api_Temp.k F A0_5 c0_5 x0_.f5) (g0_6 : Rd T_api_Trail.k F A0_6 c0_6 x0_.f6) (H : windroseref08_pasts.f k x0_ = some r) :
    Calls Tryz.prog 69 #[.agg #[.int .i64 x0_.f0, .int .i64 x0_.f1, .int .i64 x0_.f2, .int .i64 x0_.f3, .slice A0_4 x0_.f4.length c0_4, .slice A0_5 x0_.f5.length c0_5, .slice A0_6 x0_.f6.length c0_6]] W fun e w' => ∃ v, e = .returned v ∧ windroseref08_pasts.Post W F r v w' := by
  have hS := St.start (Own.nil hown)
  unfold windroseref08_pasts.f at H
  refine enter (n := 139) rfl rfl rfl (Nat.le_of_ble_eq_true rfl) (fun a hE => ?_)
  refine wp_seq_k fun K1 hK1 => ?_
  refine pl0 ?_
  refine ple hE (.bx (t := 26) hS [.int .i64 x0_.f0, .int .i64 x0_.f1, .int .i64 x0_.f2, .int .i64 x0_.f3, .slice A0_4 x0_.f4.length c0_4, .slice A0_5 x0_.f5.length c0_5, .slice A0_6 x0_.f6.length c0_6]) ?_
  rintro _ u3 a ⟨b2, rfl, hb2, hS, hg⟩ hE
  refine plc hE (.r 1 1 .nil) (fun a hE => ?_)
  refine pld ?_
  refine hK1 _ _ ?_
  refine wp_seq_k fun K4 hK4 => ?_
  refine wp_seq_k fun K5 hK5 => ?_
  refine pl0 ?_
  refine plc hE (.r 0 1 .nil) (fun a hE => ?_)
  refine pld ?_
  refine hK5 _ _ ?_
  refine wp_block ?_
  refine wp_loop_ghost (fun kq8 a w' => ∃ (G : Nat → Value) (x6 : Int), kq8 ≤ k ∧ Env 139 G a ∧ At G [(1, .pointer (some ⟨b2, 0, none⟩)), (3, .int .i64 x6)] ∧ St W (mine W []) F w' F [box b2 #[.int .i64 x0_.f0, .int .i64 x0_.f1, .int .i64 x0_.f2, .int .i64 x0_.f3, .slice A0_4 x0_.f4.length c0_4, .slice A0_5 x0_.f5.length c0_5, .slice A0_6 x0_.f6.length c0_6] 26] ∧  windroseref08_pasts.l7 kq8 x0_ x6 = some r) k ⟨_, 0, Nat.le_refl _, hE, .of, hS, H⟩ ?_
  rintro kq8 a u10 ⟨G, x6, hkq, hE, hA, hS, H⟩
  cases kq8 with
  | zero => cases (show none = some r from H)
  | succ k9 =>
    rw [windroseref08_pasts.l7_s] at H
    obtain ⟨J, hE⟩ := hE.at hA
    refine wp_seq_k fun K11 hK11 => ?_
    refine wp_seq_k fun K12 hK12 => ?_
    refine pl0 ?_
    have hb2 := hS.blk_at (i := 0) rfl
    refine plc hE (.r 0 2 <| .b 2 6 hb2 <| .r 3 2 <| .nil) (fun a hE => ?_)
    refine pld ?_
    refine hK12 _ _ ?_
    by_cases c13 : x6 < (x0_.f6.length : Int)
    · rw [if_pos c13] at H
      replace hE := hE.kt 13 c13
      refine ct hE ?_
      refine wp_skip ?_
      refine hK11 _ _ ?_
      refine wp_seq_k fun K14 hK14 => ?_
      refine wp_block ?_
      refine wp_seq_k fun K15 hK15 => ?_
      refine pl0 ?_
      by_cases c16 : 0 ≤ x6 ∧ x6 < (x0_.f6.length : Int)
      rotate_left
      · rw [if_neg c16] at H; cases H
      rw [if_pos c16] at H
      have hE_ := hE
      obtain ⟨ad17, rfl⟩ := g0_6.addr c16.1 c16.2
      replace hE := hE_
      obtain ⟨cs19, ⟨A21, c22, rfl, g23⟩, hc20⟩ := g0_6.el T_api_Trail.z x6 c16.1 c16.2
      refine plc hE (.r 0 1 <| .b 1 6 hb2 <| .r 2 1 <| .x 3 c16 <| .cs 4 (hS.fcs hc20) <| .nil) (fun a hE => ?_)
      refine ple hE (.al (t := 49) hS [.int .i64 0, .slice none 0 0]) ?_
      rintro _ u25 a ⟨b24, rfl, hb24, hS, hg⟩ hE
      refine ple hE (.sto hS [.int .i64 ((nth T_api_Trail.z x0_.f6 x6).f0), .slice A21 (((nth T_api_Trail.z x0_.f6 x6).f1).length) c22]) ?_
      rintro _ u26 a ⟨rfl, hb24, hS, hz⟩ hE
      refine pld ?_
      refine hK15 _ _ ?_
      refine wp_seq_k fun K27 hK27 => ?_
      refine wp_seq_k fun K28 hK28 => ?_
      have J34 : ∀ kq32, kq32 ≤ k9 → ∀ (G : Nat → Value) (y30 : Bool) (a : Act) (w' : World), Env 139 G a → At G [(1, .pointer (some ⟨b2, 0, none⟩)), (3, .int .i64 x6), (4, .pointer (some ⟨b24, 0, none⟩)), (30, .bool y30)] → St W (mine W []) F w' F [box b24 #[.int .i64 ((nth T_api_Trail.z x0_.f6 x6).f0), .slice A21 (((nth T_api_Trail.z x0_.f6 x6).f1).length) c22] 49, box b2 #[.int .i64 x0_.f0, .int .i64 x0_.f1, .int .i64 x0_.f2, .int .i64 x0_.f3, .slice A0_4 x0_.f4.length c0_4, .slice A0_5 x0_.f5.length c0_5, .slice (some ad17) x0_.f6.length c0_6] 26] → windroseref08_pasts.j31 kq32 x0_ x6 y30 = some r → K28 a w' := by
        intro kq32 hkq G y30 a u35 hE hA hS H
        cases kq32 with
        | zero => cases (show none = some r from H)
        | succ k33 =>
          rw [windroseref08_pasts.j31_s] at H
          obtain ⟨J, hE⟩ := hE.at hA
          refine hK28 _ _ ?_
          by_cases c36 : y30 = true
          · rw [if_pos c36] at H
            replace hE := hE.bt 30 c36
            refine ct hE ?_
            refine wp_seq_k fun K37 hK37 => ?_
            refine pl0 ?_
            refine plc hE (.r 0 1 .nil) (fun a hE => ?_)
            refine pld ?_
            refine hK37 _ _ ?_
            refine wp_ret (then_ret (block_ret (then_ret (then_ret (block_ret (then_ret ?_))))))
            replace hS := hS.tail
            replace hS := hS.tail
            obtain rfl := Option.some.inj H
            exact rt1 hE ⟨_, rfl, _, rfl, hS⟩
          · rw [if_neg c36] at H
            replace hE := hE.bf 30 c36
            refine cf hE ?_
            refine wp_skip ?_
            refine hK27 _ _ ?_
            refine wp_seq_k fun K38 hK38 => ?_
            refine pl0 ?_
            refine plc hE (.r 0 1 .nil) (fun a hE => ?_)
            refine pld ?_
            refine hK38 _ _ ?_
            refine wp_block ?_
            refine wp_loop_ghost (fun kq41 a w' => ∃ (G : Nat → Value) (x39 : Int), kq41 ≤ k33 ∧ Env 139 G a ∧ At G [(1, .pointer (some ⟨b2, 0, none⟩)), (3, .int .i64 x6), (4, .pointer (some ⟨b24, 0, none⟩)), (5, .int .i64 x39)] ∧ St W (mine W []) F w' F [box b24 #[.int .i64 ((nth T_api_Trail.z x0_.f6 x6).f0), .slice A21 (((nth T_api_Trail.z x0_.f6 x6).f1).length) c22] 49, box b2 #[.int .i64 x0_.f0, .int .i64 x0_.f1, .int .i64 x0_.f2, .int .i64 x0_.f3, .slice A0_4 x0_.f4.length c0_4, .slice A0_5 x0_.f5.length c0_5, .slice (some ad17) x0_.f6.length c0_6] 26] ∧  windroseref08_pasts.l40 kq41 x0_ x6 x39 = some r) k33 ⟨_, 0, Nat.le_refl _, hE, .of, hS, H⟩ ?_
            rintro kq41 a u43 ⟨G, x39, hkq, hE, hA, hS, H⟩
            cases kq41 with
            | zero => cases (show none = some r from H)
            | succ k42 =>
              rw [windroseref08_pasts.l40_s] at H
              obtain ⟨J, hE⟩ := hE.at hA
              refine wp_seq_k fun K44 hK44 => ?_
              refine wp_seq_k fun K45 hK45 => ?_
              refine pl0 ?_
              have hb24 := hS.blk_at (i := 0) rfl
              refine plc hE (.r 0 2 <| .b 2 1 hb24 <| .r 3 2 <| .nil) (fun a hE => ?_)
              refine pld ?_
              refine hK45 _ _ ?_
              by_cases c46 : x39 < (((nth T_api_Trail.z x0_.f6 x6).f1).length : Int)
              · rw [if_pos c46] at H
                replace hE := hE.kt 35 c46
                refine ct hE ?_
                refine wp_skip ?_
                refine hK44 _ _ ?_
                refine wp_seq_k fun K47 hK47 => ?_
                refine wp_block ?_
                refine wp_seq_k fun K48 hK48 => ?_
                refine pl0 ?_
                by_cases c49 : 0 ≤ x39 ∧ x39 < (((nth T_api_Trail.z x0_.f6 x6).f1).length : Int)
                rotate_left
                · rw [if_neg c49] at H; cases H
                rw [if_pos c49] at H
                have hE_ := hE
                obtain ⟨ad50, rfl⟩ := g23.addr c49.1 c49.2
                replace hE := hE_
                obtain ⟨cs52, ⟨A54, c55, rfl, g56⟩, hc53⟩ := g23.el T_api_Span.z x39 c49.1 c49.2
                refine plc hE (.r 0 1 <| .b 1 1 hb24 <| .r 2 1 <| .x 3 c49 <| .cs 4 (hS.fcs hc53) <| .nil) (fun a hE => ?_)
                refine ple hE (.al (t := 51) hS [.int .i64 0, .slice none 0 0]) ?_
                rintro _ u58 a ⟨b57, rfl, hb57, hS, hg⟩ hE
                refine ple hE (.sto hS [.int .i64 ((nth T_api_Span.z ((nth T_api_Trail.z x0_.f6 x6).f1) x39).f0), .slice A54 (((nth T_api_Span.z ((nth T_api_Trail.z x0_.f6 x6).f1) x39).f1).length) c55]) ?_
                rintro _ u59 a ⟨rfl, hb57, hS, hz⟩ hE
                refine pld ?_
                refine hK48 _ _ ?_
                refine wp_seq_k fun K60 hK60 => ?_
                refine wp_seq_k fun K61 hK61 => ?_
                have J69 : ∀ kq67, kq67 ≤ k42 → ∀ (G : Nat → Value) (y65 : Bool) (a : Act) (w' : World), Env 139 G a → At G [(1, .pointer (some ⟨b2, 0, none⟩)), (3, .int .i64 x6), (4, .pointer (some ⟨b24, 0, none⟩)), (5, .int .i64 x39), (6, .pointer (some ⟨b57, 0, none⟩)), (68, .bool y65)] → St W (mine W []) F w' F [box b57 #[.int .i64 ((nth T_api_Span.z ((nth T_api_Trail.z x0_.f6 x6).f1) x39).f0), .slice A54 (((nth T_api_Span.z ((nth T_api_Trail.z x0_.f6 x6).f1) x39).f1).length) c55] 51, box b24 #[.int .i64 ((nth T_api_Trail.z x0_.f6 x6).f0), .slice (some ad50) (((nth T_api_Trail.z x0_.f6 x6).f1).length) c22] 49, box b2 #[.int .i64 x0_.f0, .int .i64 x0_.f1, .int .i64 x0_.f2, .int .i64 x0_.f3, .slice A0_4 x0_.f4.length c0_4, .slice A0_5 x0_.f5.length c0_5, .slice (some ad17) x0_.f6.length c0_6] 26] → windroseref08_pasts.j66 kq67 x0_ x6 x39 y65 = some r → K61 a w' := by
                  intro kq67 hkq G y65 a u70 hE hA hS H
                  cases kq67 with
                  | zero => cases (show none = some r from H)
                  | succ k68 =>
                    rw [windroseref08_pasts.j66_s] at H
                    obtain ⟨J, hE⟩ := hE.at hA
                    refine hK61 _ _ ?_
                    by_cases c71 : y65 = true
                    · rw [if_pos c71] at H
                      replace hE := hE.bt 68 c71
                      refine ct hE ?_
                      refine wp_seq_k fun K72 hK72 => ?_
                      refine pl0 ?_
                      refine plc hE (.r 0 1 .nil) (fun a hE => ?_)
                      refine pld ?_
                      refine hK72 _ _ ?_
                      refine wp_ret (then_ret (block_ret (then_ret (then_ret (block_ret (block_ret (then_ret (then_ret (block_ret (then_ret ?_))))))))))
                      replace hS := hS.tail
                      replace hS := hS.tail
                      replace hS := hS.tail
                      obtain rfl := Option.some.inj H
                      exact rt1 hE ⟨_, rfl, _, rfl, hS⟩
                    · rw [if_neg c71] at H
                      replace hE := hE.bf 68 c71
                      refine cf hE ?_
                      refine wp_skip ?_
                      refine hK60 _ _ ?_
                      refine wp_seq_k fun K73 hK73 => ?_
                      refine wp_seq_k fun K74 hK74 => ?_
                      refine pl0 ?_
                      refine plc hE (.r 0 1 .nil) (fun a hE => ?_)
                      refine pld ?_
                      refine hK74 _ _ ?_
                      refine wp_block ?_
                      refine wp_loop_ghost (fun kq77 a w' => ∃ (G : Nat → Value) (x75 : Int), kq77 ≤ k68 ∧ Env 139 G a ∧ At G [(1, .pointer (some ⟨b2, 0, none⟩)), (3, .int .i64 x6), (4, .pointer (some ⟨b24, 0, none⟩)), (5, .int .i64 x39), (6, .pointer (some ⟨b57, 0, none⟩)), (7, .int .i64 x75)] ∧ St W (mine W []) F w' F [box b57 #[.int .i64 ((nth T_api_Span.z ((nth T_api_Trail.z x0_.f6 x6).f1) x39).f0), .slice A54 (((nth T_api_Span.z ((nth T_api_Trail.z x0_.f6 x6).f1) x39).f1).length) c55] 51, box b24 #[.int .i64 ((nth T_api_Trail.z x0_.f6 x6).f0), .slice (some ad50) (((nth T_api_Trail.z x0_.f6 x6).f1).length) c22] 49, box b2 #[.int .i64 x0_.f0, .int .i64 x0_.f1, .int .i64 x0_.f2, .int .i64 x0_.f3, .slice A0_4 x0_.f4.length c0_4, .slice A0_5 x0_.f5.length c0_5, .slice (some ad17) x0_.f6.length c0_6] 26] ∧  windroseref08_pasts.l76 kq77 x0_ x6 x39 x75 = some r) k68 ⟨_, 0, Nat.le_refl _, hE, .of, hS, H⟩ ?_
                      rintro kq77 a u79 ⟨G, x75, hkq, hE, hA, hS, H⟩
                      cases kq77 with
                      | zero => cases (show none = some r from H)
                      | succ k78 =>
                        rw [windroseref08_pasts.l76_s] at H
                        obtain ⟨J, hE⟩ := hE.at hA
                        refine wp_seq_k fun K80 hK80 => ?_
                        refine wp_seq_k fun K81 hK81 => ?_
                        refine pl0 ?_
                        have hb57 := hS.blk_at (i := 0) rfl
                        refine plc hE (.r 0 2 <| .b 2 1 hb57 <| .r 3 2 <| .nil) (fun a hE => ?_)
                        refine pld ?_
                        refine hK81 _ _ ?_
                        by_cases c82 : x75 < (((nth T_api_Span.z ((nth T_api_Trail.z x0_.f6 x6).f1) x39).f1).length : Int)
                        · rw [if_pos c82] at H
                          replace hE := hE.kt 73 c82
                          refine ct hE ?_
                          refine wp_skip ?_
                          refine hK80 _ _ ?_
                          refine wp_seq_k fun K83 hK83 => ?_
                          refine wp_block ?_
                          refine wp_seq_k fun K84 hK84 => ?_
                          have J107 : ∀ kq105, kq105 ≤ k78 → ∀ (G : Nat → Value) (y103 : Bool) (a : Act) (w' : World), Env 139 G a → At G [(1, .pointer (some ⟨b2, 0, none⟩)), (3, .int .i64 x6), (4, .pointer (some ⟨b24, 0, none⟩)), (5, .int .i64 x39), (6, .pointer (some ⟨b57, 0, none⟩)), (7, .int .i64 x75), (107, .bool y103)] → St W (mine W []) F w' F [box b57 #[.int .i64 ((nth T_api_Span.z ((nth T_api_Trail.z x0_.f6 x6).f1) x39).f0), .slice A54 (((nth T_api_Span.z ((nth T_api_Trail.z x0_.f6 x6).f1) x39).f1).length) c55] 51, box b24 #[.int .i64 ((nth T_api_Trail.z x0_.f6 x6).f0), .slice (some ad50) (((nth T_api_Trail.z x0_.f6 x6).f1).length) c22] 49, box b2 #[.int .i64 x0_.f0, .int .i64 x0_.f1, .int .i64 x0_.f2, .int .i64 x0_.f3, .slice A0_4 x0_.f4.length c0_4, .slice A0_5 x0_.f5.length c0_5, .slice (some ad17) x0_.f6.length c0_6] 26] → windroseref08_pasts.j104 kq105 x0_ x6 x39 x75 y103 = some r → K84 a w' := by
                            intro kq105 hkq G y103 a u108 hE hA hS H
                            cases kq105 with
                            | zero => cases (show none = some r from H)
                            | succ k106 =>
                              rw [windroseref08_pasts.j104_s] at H
                              obtain ⟨J, hE⟩ := hE.at hA
                              refine hK84 _ _ ?_
                              by_cases c109 : y103 = true
                              · rw [if_pos c109] at H
                                replace hE := hE.bt 107 c109
                                refine ct hE ?_
                                refine wp_seq_k fun K110 hK110 => ?_
                                refine pl0 ?_
                                refine plc hE (.r 0 1 .nil) (fun a hE => ?_)
                                refine pld ?_
                                refine hK110 _ _ ?_
                                refine wp_ret (block_ret (then_ret (then_ret (block_ret (then_ret (block_ret (then_ret (then_ret (block_ret (block_ret (then_ret (then_ret (block_ret (then_ret ?_))))))))))))))
                                replace hS := hS.tail
                                replace hS := hS.tail
                                replace hS := hS.tail
                                obtain rfl := Option.some.inj H
                                exact rt1 hE ⟨_, rfl, _, rfl, hS⟩
                              · rw [if_neg c109] at H
                                replace hE := hE.bf 107 c109
                                refine cf hE ?_
                                refine wp_skip ?_
                                refine block_n ?_
                                refine hK83 _ _ ?_
                                refine pl0 ?_
                                refine plc hE (.r 0 3 .nil) (fun a hE => ?_)
                                refine pld ?_
                                exact then_n ⟨k106, by omega, _, (w64 (x75 + 1)), by omega, hE, .of, hS, H⟩
                          refine drawn 32 ⟨[], [], fun q => False⟩ mixed rfl (by kernel_rfl) (fun hst => ?_)
                          replace hS := hS.drew
                          have hb57 := hS.blk_at (i := 0) rfl
                          by_cases c85 : 0 ≤ x75 ∧ x75 < (((nth T_api_Span.z ((nth T_api_Trail.z x0_.f6 x6).f1) x39).f1).length : Int)
                          rotate_left
                          · rw [if_neg c85] at H; cases H
                          rw [if_pos c85] at H
                          have hE_ := hE
                          obtain ⟨ad86, rfl⟩ := g56.addr c85.1 c85.2
                          replace hE := hE_
                          obtain ⟨cs88, rfl, hc89⟩ := g56.el 0 x75 c85.1 c85.2
                          refine mny 25 hst hE (.r 0 1 <| .b 1 1 hb57 <| .r 2 1 <| .x 3 c85 <| .c 4 (hS.fc hc89 0) <| .r 5 2 <| .nil) (fun a hE => ?_)
                          by_cases c90 : (nth 0 ((nth T_api_Span.z ((nth T_api_Trail.z x0_.f6 x6).f1) x39).f1) x75) < 1
                          · rw [if_pos c90] at H
                            replace hE := hE.kt 82 c90
                            refine mny 0 hst hE (.r 7 25 .nil) (fun a hE => ?_)
                            refine dn ?_
                            exact J107 _ (by omega) _ true _ _ hE .of hS H
                          · rw [if_neg c90] at H
                            replace hE := hE.kf 82 c90
                            refine mny 17 hst hE (.r 7 1 <| .b 8 1 hb57 <| .r 9 1 <| .x 10 c85 <| .c 11 (hS.fc hc89 0) <| .r 12 3 <| .nil) (fun a hE => ?_)
                            by_cases c94 : (nth 0 ((nth T_api_Span.z ((nth T_api_Trail.z x0_.f6 x6).f1) x39).f1) x75) > 999
                            · rw [if_pos c94] at H
                              replace hE := hE.kt 90 c94
                              refine mny 0 hst hE (.r 15 17 .nil) (fun a hE => ?_)
                              refine dn ?_
                              exact J107 _ (by omega) _ true _ _ hE .of hS H
                            · rw [if_neg c94] at H
                              replace hE := hE.kf 90 c94
                              refine mny 14 hst hE (.r 15 3 .nil) (fun a hE => ?_)
                              by_cases c95 : x75 > 0
                              · rw [if_pos c95] at H
                                replace hE := hE.kt 93 c95
                                by_cases c96 : 0 ≤ (w64 (x75 - 1)) ∧ (w64 (x75 - 1)) < (((nth T_api_Span.z ((nth T_api_Trail.z x0_.f6 x6).f1) x39).f1).length : Int)
                                rotate_left
                                · rw [if_neg c96] at H; cases H
                                rw [if_pos c96] at H
                                obtain ⟨cs98, rfl, hc99⟩ := g56.el 0 (w64 (x75 - 1)) c96.1 c96.2
                                refine mny 0 hst hE (.r 18 1 <| .b 19 1 hb57 <| .r 20 2 <| .x 22 c96 <| .c 23 (hS.fc hc99 0) <| .r 24 1 <| .b 25 1 hb57 <| .r 26 1 <| .x 27 c85 <| .c 28 (hS.fc hc89 0) <| .r 29 3 <| .nil) (fun a hE => ?_)
                                refine dn ?_
                                exact J107 _ (by omega) _ (decide ((nth 0 ((nth T_api_Span.z ((nth T_api_Trail.z x0_.f6 x6).f1) x39).f1) (w64 (x75 - 1))) ≥ (nth 0 ((nth T_api_Span.z ((nth T_api_Trail.z x0_.f6 x6).f1) x39).f1) x75))) _ _ hE .of hS H
                              · rw [if_neg c95] at H
                                replace hE := hE.kf 93 c95
                                refine mny 0 hst hE (.r 18 14 .nil) (fun a hE => ?_)
                                refine dn ?_
                                exact J107 _ (by omega) _ false _ _ hE .of hS H
                        · rw [if_neg c82] at H
                          replace hE := hE.kf 73 c82
                          refine cf hE ?_
                          refine wp_exit ?_
                          refine hK73 _ _ ?_
                          refine wp_seq_k fun K111 hK111 => ?_
                          refine pl0 ?_
                          refine plc hE (.r 0 1 .nil) (fun a hE => ?_)
                          refine pld ?_
                          refine hK111 _ _ ?_
                          refine wp_block ?_
                          refine wp_loop_ghost (fun kq114 a w' => ∃ (G : Nat → Value) (x112 : Int), kq114 ≤ k78 ∧ Env 139 G a ∧ At G [(1, .pointer (some ⟨b2, 0, none⟩)), (3, .int .i64 x6), (4, .pointer (some ⟨b24, 0, none⟩)), (5, .int .i64 x39), (6, .pointer (some ⟨b57, 0, none⟩)), (8, .int .i64 x112)] ∧ St W (mine W []) F w' F [box b57 #[.int .i64 ((nth T_api_Span.z ((nth T_api_Trail.z x0_.f6 x6).f1) x39).f0), .slice A54 (((nth T_api_Span.z ((nth T_api_Trail.z x0_.f6 x6).f1) x39).f1).length) c55] 51, box b24 #[.int .i64 ((nth T_api_Trail.z x0_.f6 x6).f0), .slice (some ad50) (((nth T_api_Trail.z x0_.f6 x6).f1).length) c22] 49, box b2 #[.int .i64 x0_.f0, .int .i64 x0_.f1, .int .i64 x0_.f2, .int .i64 x0_.f3, .slice A0_4 x0_.f4.length c0_4, .slice A0_5 x0_.f5.length c0_5, .slice (some ad17) x0_.f6.length c0_6] 26] ∧  windroseref08_pasts.l113 kq114 x0_ x6 x39 x112 = some r) k78 ⟨_, 0, Nat.le_refl _, hE, .of, hS, H⟩ ?_
                          rintro kq114 a u116 ⟨G, x112, hkq, hE, hA, hS, H⟩
                          cases kq114 with
                          | zero => cases (show none = some r from H)
                          | succ k115 =>
                            rw [windroseref08_pasts.l113_s] at H
                            obtain ⟨J, hE⟩ := hE.at hA
                            refine wp_seq_k fun K117 hK117 => ?_
                            refine wp_seq_k fun K118 hK118 => ?_
                            refine pl0 ?_
                            refine plc hE (.r 0 3 .nil) (fun a hE => ?_)
                            refine pld ?_
                            refine hK118 _ _ ?_
                            by_cases c119 : x112 < x39
                            · rw [if_pos c119] at H
                              replace hE := hE.kt 110 c119
                              refine ct hE ?_
                              refine wp_skip ?_
                              refine hK117 _ _ ?_
                              refine wp_seq_k fun K120 hK120 => ?_
                              refine wp_block ?_
                              refine wp_seq_k fun K121 hK121 => ?_
                              have J140 : ∀ kq138, kq138 ≤ k115 → ∀ (G : Nat → Value) (y136 : Bool) (a : Act) (w' : World), Env 139 G a → At G [(1, .pointer (some ⟨b2, 0, none⟩)), (3, .int .i64 x6), (4, .pointer (some ⟨b24, 0, none⟩)), (5, .int .i64 x39), (6, .pointer (some ⟨b57, 0, none⟩)), (8, .int .i64 x112), (132, .bool y136)] → St W (mine W []) F w' F [box b57 #[.int .i64 ((nth T_api_Span.z ((nth T_api_Trail.z x0_.f6 x6).f1) x39).f0), .slice A54 (((nth T_api_Span.z ((nth T_api_Trail.z x0_.f6 x6).f1) x39).f1).length) c55] 51, box b24 #[.int .i64 ((nth T_api_Trail.z x0_.f6 x6).f0), .slice (some ad50) (((nth T_api_Trail.z x0_.f6 x6).f1).length) c22] 49, box b2 #[.int .i64 x0_.f0, .int .i64 x0_.f1, .int .i64 x0_.f2, .int .i64 x0_.f3, .slice A0_4 x0_.f4.length c0_4, .slice A0_5 x0_.f5.length c0_5, .slice (some ad17) x0_.f6.length c0_6] 26] → windroseref08_pasts.j137 kq138 x0_ x6 x39 x112 y136 = some r → K121 a w' := by
                                intro kq138 hkq G y136 a u141 hE hA hS H
                                cases kq138 with
                                | zero => cases (show none = some r from H)
                                | succ k139 =>
                                  rw [windroseref08_pasts.j137_s] at H
                                  obtain ⟨J, hE⟩ := hE.at hA
                                  refine hK121 _ _ ?_
                                  by_cases c142 : y136 = true
                                  · rw [if_pos c142] at H
                                    replace hE := hE.bt 132 c142
                                    refine ct hE ?_
                                    refine wp_seq_k fun K143 hK143 => ?_
                                    refine pl0 ?_
                                    refine plc hE (.r 0 1 .nil) (fun a hE => ?_)
                                    refine pld ?_
                                    refine hK143 _ _ ?_
                                    refine wp_ret (block_ret (then_ret (then_ret (block_ret (block_ret (then_ret (then_ret (block_ret (block_ret (then_ret (then_ret (block_ret (then_ret ?_)))))))))))))
                                    replace hS := hS.tail
                                    replace hS := hS.tail
                                    replace hS := hS.tail
                                    obtain rfl := Option.some.inj H
                                    exact rt1 hE ⟨_, rfl, _, rfl, hS⟩
                                  · rw [if_neg c142] at H
                                    replace hE := hE.bf 132 c142
                                    refine cf hE ?_
                                    refine wp_skip ?_
                                    refine block_n ?_
                                    refine hK120 _ _ ?_
                                    refine pl0 ?_
                                    refine plc hE (.r 0 3 .nil) (fun a hE => ?_)
                                    refine pld ?_
                                    exact then_n ⟨k139, by omega, _, (w64 (x112 + 1)), by omega, hE, .of, hS, H⟩
                              refine drawn 20 ⟨[], [], fun q => False⟩ mixed rfl (by kernel_rfl) (fun hst => ?_)
                              replace hS := hS.drew
                              have hb24 := hS.blk_at (i := 1) rfl
                              by_cases c122 : 0 ≤ x112 ∧ x112 < (((nth T_api_Trail.z x0_.f6 x6).f1).length : Int)
                              rotate_left
                              · rw [if_neg c122] at H; cases H
                              rw [if_pos c122] at H
                              obtain ⟨cs124, ⟨A126, c127, rfl, g128⟩, hc125⟩ := g23.el T_api_Span.z x112 c122.1 c122.2
                              have hb57 := hS.blk_at (i := 0) rfl
                              refine mny 10 hst hE (.r 0 1 <| .b 1 1 hb24 <| .r 2 1 <| .x 3 c122 <| .r 4 1 <| .c 5 (hS.fc hc125 0) <| .r 6 1 <| .b 7 0 hb57 <| .r 8 2 <| .nil) (fun a hE => ?_)
                              by_cases c129 : (nth T_api_Span.z ((nth T_api_Trail.z x0_.f6 x6).f1) x112).f0 ≥ (nth T_api_Span.z ((nth T_api_Trail.z x0_.f6 x6).f1) x39).f0
                              · rw [if_pos c129] at H
                                replace hE := hE.kt 122 c129
                                refine mny 0 hst hE (.r 10 10 .nil) (fun a hE => ?_)
                                refine dn ?_
                                exact J140 _ (by omega) _ true _ _ hE .of hS H
                              · rw [if_neg c129] at H
                                replace hE := hE.kf 122 c129
                                refine mny 2 hst hE (.r 10 1 <| .b 11 1 hb24 <| .r 12 1 <| .x 13 c122 <| .r 14 1 <| .c 15 (hS.fc hc125 1) <| .r 16 1 <| .b 17 1 hb57 <| .nil) (fun a hE => ?_)
                                obtain ⟨t134, h135, H⟩ := Option.bind_eq_some_iff.mp H
                                refine on1 18 hE (.cl en21 (windroseref02_Ints.calls k115 ((nth T_api_Span.z ((nth T_api_Trail.z x0_.f6 x6).f1) x112).f1) ((nth T_api_Span.z ((nth T_api_Trail.z x0_.f6 x6).f1) x39).f1) _ _ _ _ _ _ _ hS.own.sub g128 g56 h135)) ?_
                                rintro _ u133 a ⟨_, rfl, hC⟩ hE
                                refine ⟨.of hC.agr, ?_⟩
                                replace hS := hS.lent hC
                                refine mny 0 hst hE (.r 19 1 .nil) (fun a hE => ?_)
                                refine dn ?_
                                exact J140 _ (by omega) _ t134 _ _ hE .of hS H
                            · rw [if_neg c119] at H
                              replace hE := hE.kf 110 c119
                              refine cf hE ?_
                              refine wp_exit ?_
                              refine hK47 _ _ ?_
                              refine pl0 ?_
                              refine plc hE (.r 0 3 .nil) (fun a hE => ?_)
                              refine pld ?_
                              replace hS := hS.tail
                              exact then_n ⟨k115, by omega, _, (w64 (x39 + 1)), by omega, hE, .of, hS, H⟩
                refine pl0 ?_
                refine plc hE (.r 0 1 <| .b 1 0 hb57 <| .r 2 2 <| .nil) (fun a hE => ?_)
                by_cases c62 : (nth T_api_Span.z ((nth T_api_Trail.z x0_.f6 x6).f1) x39).f0 < 0
                · rw [if_pos c62] at H
                  replace hE := hE.kt 46 c62
                  refine plc hE (.r 4 22 .nil) (fun a hE => ?_)
                  refine pld ?_
                  exact J69 _ (by omega) _ true _ _ hE .of hS H
                · rw [if_neg c62] at H
                  replace hE := hE.kf 46 c62
                  have hb24 := hS.blk_at (i := 1) rfl
                  refine plc hE (.r 4 1 <| .b 5 0 hb57 <| .r 6 1 <| .b 7 0 hb24 <| .r 8 3 <| .nil) (fun a hE => ?_)
                  by_cases c63 : (nth T_api_Span.z ((nth T_api_Trail.z x0_.f6 x6).f1) x39).f0 ≥ (nth T_api_Trail.z x0_.f6 x6).f0
                  · rw [if_pos c63] at H
                    replace hE := hE.kt 53 c63
                    refine plc hE (.r 11 15 .nil) (fun a hE => ?_)
                    refine pld ?_
                    exact J69 _ (by omega) _ true _ _ hE .of hS H
                  · rw [if_neg c63] at H
                    replace hE := hE.kf 53 c63
                    have hb2 := hS.blk_at (i := 2) rfl
                    refine plc hE (.r 11 1 <| .b 12 1 hb57 <| .r 13 2 <| .b 15 2 hb2 <| .r 16 3 <| .nil) (fun a hE => ?_)
                    by_cases c64 : (((nth T_api_Span.z ((nth T_api_Trail.z x0_.f6 x6).f1) x39).f1).length : Int) < x0_.f2
                    · rw [if_pos c64] at H
                      replace hE := hE.kt 61 c64
                      refine plc hE (.r 19 7 .nil) (fun a hE => ?_)
                      refine pld ?_
                      exact J69 _ (by omega) _ true _ _ hE .of hS H
                    · rw [if_neg c64] at H
                      replace hE := hE.kf 61 c64
                      refine plc hE (.r 19 1 <| .b 20 1 hb57 <| .r 21 2 <| .b 23 1 hb2 <| .r 24 2 <| .nil) (fun a hE => ?_)
                      refine pld ?_
                      exact J69 _ (by omega) _ (decide ((((nth T_api_Span.z ((nth T_api_Trail.z x0_.f6 x6).f1) x39).f1).length : Int) > x0_.f1)) _ _ hE .of hS H
              · rw [if_neg c46] at H
                replace hE := hE.kf 35 c46
                refine cf hE ?_
                refine wp_exit ?_
                refine hK14 _ _ ?_
                refine pl0 ?_
                refine plc hE (.r 0 3 .nil) (fun a hE => ?_)
                refine pld ?_
                replace hS := hS.tail
                exact then_n ⟨k42, by omega, _, (w64 (x6 + 1)), by omega, hE, .of, hS, H⟩
      refine pl0 ?_
      refine plc hE (.r 0 1 <| .b 1 0 hb24 <| .r 2 2 <| .nil) (fun a hE => ?_)
      by_cases c29 : (nth T_api_Trail.z x0_.f6 x6).f0 < 0
      · rw [if_pos c29] at H
        replace hE := hE.kt 24 c29
        refine plc hE (.r 4 6 .nil) (fun a hE => ?_)
        refine pld ?_
        exact J34 _ (by omega) _ true _ _ hE .of hS H
      · rw [if_neg c29] at H
        replace hE := hE.kf 24 c29
        have hb2 := hS.blk_at (i := 1) rfl
        refine plc hE (.r 4 1 <| .b 5 0 hb24 <| .r 6 1 <| .b 7 0 hb2 <| .r 8 2 <| .nil) (fun a hE => ?_)
        refine pld ?_
        exact J34 _ (by omega) _ (decide ((nth T_api_Trail.z x0_.f6 x6).f0 > x0_.f0)) _ _ hE .of hS H
    · rw [if_neg c13] at H
      replace hE := hE.kf 13 c13
      refine cf hE ?_
      refine wp_exit ?_
      refine hK4 _ _ ?_
      refine wp_seq_k fun K144 hK144 => ?_
      refine pl0 ?_
      refine plc hE (.r 0 1 <| .b 1 6 hb2 <| .r 2 2 <| .b 4 3 hb2 <| .r 5 2 <| .nil) (fun a hE => ?_)
      refine pld ?_
      refine hK144 _ _ ?_
      refine wp_ret ?_
      replace hS := hS.tail
      obtain rfl := Option.some.inj H
      exact rt1 hE ⟨_, rfl, _, rfl, hS⟩

/-! ### windrose/windroseref08.May: function 19 -/
mutual
def windroseref08_May.j18 : Nat → T_api_Map → Bool → Option Bool
  | 0, _, _ => none
  | k + 1, x0_, y17 => if y17 = true then (some false) else (windroseref08_May.l28 k x0_ 0)
def windroseref08_May.l28 : Nat → T_api_Map → Int → Option Bool
  | 0, _, _ => none
  | k + 1, x0_, x27 => if x27 < (x0_.f5.length : Int) then (if 0 ≤ x27 ∧ x27 < (x0_.f5.length : Int) then (if (nth T_api_Temp.z x0_.f5 x27).f0 < 0 then (windroseref08_May.j71 k x0_ x27 true) else (if (nth T_api_Temp.z x0_.f5 x27).f0 ≥ x0_.f3 then (windroseref08_May.j71 k x0_ x27 true) else (if x27 > 0 then (if 0 ≤ (w64 (x27 - 1)) ∧ (w64 (x27 - 1)) < (x0_.f5.length : Int) then (if (nth T_api_Temp.z x0_.f5 (w64 (x27 - 1))).f0 ≥ (nth T_api_Temp.z x0_.f5 x27).f0 then (windroseref08_May.j71 k x0_ x27 true) else (if (((nth T_api_Temp.z x0_.f5 x27).f1).length : Int) < 1 then (windroseref08_May.j71 k x0_ x27 true) else (if (((nth T_api_Temp.z x0_.f5 x27).f1).length : Int) > x0_.f1 then (windroseref08_May.j71 k x0_ x27 true) else ((windroseref06_Apart.f k x0_.f4 ((nth T_api_Temp.z x0_.f5 x27).f1)).bind fun t63 => (windroseref08_May.j71 k x0_ x27 (!t63)))))) else (none)) else (if (((nth T_api_Temp.z x0_.f5 x27).f1).length : Int) < 1 then (windroseref08_May.j71 k x0_ x27 true) else (if (((nth T_api_Temp.z x0_.f5 x27).f1).length : Int) > x0_.f1 then (windroseref08_May.j71 k x0_ x27 true) else ((windroseref06_Apart.f k x0_.f4 ((nth T_api_Temp.z x0_.f5 x27).f1)).bind fun t68 => (windroseref08_May.j71 k x0_ x27 (!t68)))))))) else (none)) else ((windroseref08_pasts.f k x0_).bind fun t80 => (some t80))
def windroseref08_May.j71 : Nat → T_api_Map → Int → Bool → Option Bool
  | 0, _, _, _ => none
  | k + 1, x0_, x27, y70 => if y70 = true then (some false) else (windroseref08_May.l28 k x0_ (w64 (x27 + 1)))
end
theorem windroseref08_May.j18_s (k : Nat) (x0_ : T_api_Map) (y17 : Bool) : windroseref08_May.j18 (k + 1) x0_ y17 = (if y17 = true then (some false) else (windroseref08_May.l28 k x0_ 0)) := by kernel_rfl
theorem windroseref08_May.l28_s (k : Nat) (x0_ : T_api_Map) (x27 : Int) : windroseref08_May.l28 (k + 1) x0_ x27 = (if x27 < (x0_.f5.length : Int) then (if 0 ≤ x27 ∧ x27 < (x0_.f5.length : Int) then (if (nth T_api_Temp.z x0_.f5 x27).f0 < 0 then (windroseref08_May.j71 k x0_ x27 true) else (if (nth T_api_Temp.z x0_.f5 x27).f0 ≥ x0_.f3 then (windroseref08_May.j71 k x0_ x27 true) else (if x27 > 0 then (if 0 ≤ (w64 (x27 - 1)) ∧ (w64 (x27 - 1)) < (x0_.f5.length : Int) then (if (nth T_api_Temp.z x0_.f5 (w64 (x27 - 1))).f0 ≥ (nth T_api_Temp.z x0_.f5 x27).f0 then (windroseref08_May.j71 k x0_ x27 true) else (if (((nth T_api_Temp.z x0_.f5 x27).f1).length : Int) < 1 then (windroseref08_May.j71 k x0_ x27 true) else (if (((nth T_api_Temp.z x0_.f5 x27).f1).length : Int) > x0_.f1 then (windroseref08_May.j71 k x0_ x27 true) else ((windroseref06_Apart.f k x0_.f4 ((nth T_api_Temp.z x0_.f5 x27).f1)).bind fun t63 => (windroseref08_May.j71 k x0_ x27 (!t63)))))) else (none)) else (if (((nth T_api_Temp.z x0_.f5 x27).f1).length : Int) < 1 then (windroseref08_May.j71 k x0_ x27 true) else (if (((nth T_api_Temp.z x0_.f5 x27).f1).length : Int) > x0_.f1 then (windroseref08_May.j71 k x0_ x27 true) else ((windroseref06_Apart.f k x0_.f4 ((nth T_api_Temp.z x0_.f5 x27).f1)).bind fun t68 => (windroseref08_May.j71 k x0_ x27 (!t68)))))))) else (none)) else ((windroseref08_pasts.f k x0_).bind fun t80 => (some t80))) := by kernel_rfl
theorem windroseref08_May.j71_s (k : Nat) (x0_ : T_api_Map) (x27 : Int) (y70 : Bool) : windroseref08_May.j71 (k + 1) x0_ x27 y70 = (if y70 = true then (some false) else (windroseref08_May.l28 k x0_ (w64 (x27 + 1)))) := by kernel_rfl
def windroseref08_May.f (k : Nat) (x0_ : T_api_Map) : Option Bool := if x0_.f0 < 0 then (windroseref08_May.j18 k x0_ true) else (if x0_.f0 ≥ 2147483648 then (windroseref08_May.j18 k x0_ true) else (if x0_.f1 < 1 then (windroseref08_May.j18 k x0_ true) else (if x0_.f1 > 3 then (windroseref08_May.j18 k x0_ true) else (if x0_.f2 < 1 then (windroseref08_May.j18 k x0_ true) else (if x0_.f2 > x0_.f1 then (windroseref08_May.j18 k x0_ true) else (if x0_.f3 < 1 then (windroseref08_May.j18 k x0_ true) else (if x0_.f3 > 8 then (windroseref08_May.j18 k x0_ true) else ((windroseref06_May.f k x0_.f4).bind fun t15 => (windroseref08_May.j18 k x0_ (!t15))))))))))
def windroseref08_May.Post (W F : World) (r : Bool) (v : Value) (w' : World) : Prop := ∃ (F' : World), v = .bool r ∧ St W (mine W []) F w' F' []
set_option maxHeartbeats 4000000 in
set_option maxRecDepth 100000 in
theorem windroseref08_May.calls (k : Nat) (x0_ : T_api_Map) (A0_4 : Option Addr) (c0_4 : Nat) (A0_5 : Option Addr) (c0_5 : Nat) (A0_6 : Option Addr) (c0_6 : Nat) (r : Bool) (W F : World) (hown : Sub F W) (g0_4 : Rd T_api_Node.k F A0_4 c0_4 x0_.f4) (g0_5 : Rd T_api_Temp.k F A0_5 c0_5 x0_.f5) (g0_6 : Rd T_api_Trail.k F A0_6 c0_6 x0_.f6) (H : windroseref08_May.f k x0_ = some r) :
    Calls Tryz.prog 19 #[.agg #[.int .i64 x0_.f0, .int .i64 x0_.f1, .int .i64 x0_.f2, .int .i64 x0_.f3, .slice A0_4 x0_.f4.length c0_4, .slice A0_5 x0_.f5.length c0_5, .slice A0_6 x0_.f6.length c0_6]] W fun e w' => ∃ v, e = .returned v ∧ windroseref08_May.Post W F r v w' := by
  have hS := St.start (Own.nil hown)
  unfold windroseref08_May.f at H
  refine enter (n := 113) rfl rfl rfl (Nat.le_of_ble_eq_true rfl) (fun a hE => ?_)
  refine wp_seq_k fun K1 hK1 => ?_
  refine pl0 ?_
  refine ple hE (.bx (t := 26) hS [.int .i64 x0_.f0, .int .i64 x0_.f1, .int .i64 x0_.f2, .int .i64 x0_.f3, .slice A0_4 x0_.f4.length c0_4, .slice A0_5 x0_.f5.length c0_5, .slice A0_6 x0_.f6.length c0_6]) ?_
  rintro _ u3 a ⟨b2, rfl, hb2, hS, hg⟩ hE
  refine plc hE (.r 1 1 .nil) (fun a hE => ?_)
  refine pld ?_
  refine hK1 _ _ ?_
  refine wp_seq_k fun K4 hK4 => ?_
  refine wp_seq_k fun K5 hK5 => ?_
  have J21 : ∀ kq19, kq19 ≤ k → ∀ (G : Nat → Value) (y17 : Bool) (a : Act) (w' : World), Env 113 G a → At G [(1, .pointer (some ⟨b2, 0, none⟩)), (50, .bool y17)] → St W (mine W []) F w' F [box b2 #[.int .i64 x0_.f0, .int .i64 x0_.f1, .int .i64 x0_.f2, .int .i64 x0_.f3, .slice A0_4 x0_.f4.length c0_4, .slice A0_5 x0_.f5.length c0_5, .slice A0_6 x0_.f6.length c0_6] 26] → windroseref08_May.j18 kq19 x0_ y17 = some r → K5 a w' := by
    intro kq19 hkq G y17 a u22 hE hA hS H
    cases kq19 with
    | zero => cases (show none = some r from H)
    | succ k20 =>
      rw [windroseref08_May.j18_s] at H
      obtain ⟨J, hE⟩ := hE.at hA
      refine hK5 _ _ ?_
      by_cases c23 : y17 = true
      · rw [if_pos c23] at H
        replace hE := hE.bt 50 c23
        refine ct hE ?_
        refine wp_seq_k fun K24 hK24 => ?_
        refine pl0 ?_
        refine plc hE (.r 0 1 .nil) (fun a hE => ?_)
        refine pld ?_
        refine hK24 _ _ ?_
        refine wp_ret (then_ret ?_)
        replace hS := hS.tail
        obtain rfl := Option.some.inj H
        exact rt1 hE ⟨_, rfl, _, rfl, hS⟩
      · rw [if_neg c23] at H
        replace hE := hE.bf 50 c23
        refine cf hE ?_
        refine wp_skip ?_
        refine hK4 _ _ ?_
        refine wp_seq_k fun K25 hK25 => ?_
        refine wp_seq_k fun K26 hK26 => ?_
        refine pl0 ?_
        refine plc hE (.r 0 1 .nil) (fun a hE => ?_)
        refine pld ?_
        refine hK26 _ _ ?_
        refine wp_block ?_
        refine wp_loop_ghost (fun kq29 a w' => ∃ (G : Nat → Value) (x27 : Int), kq29 ≤ k20 ∧ Env 113 G a ∧ At G [(1, .pointer (some ⟨b2, 0, none⟩)), (3, .int .i64 x27)] ∧ St W (mine W []) F w' F [box b2 #[.int .i64 x0_.f0, .int .i64 x0_.f1, .int .i64 x0_.f2, .int .i64 x0_.f3, .slice A0_4 x0_.f4.length c0_4, .slice A0_5 x0_.f5.length c0_5, .slice A0_6 x0_.f6.length c0_6] 26] ∧  windroseref08_May.l28 kq29 x0_ x27 = some r) k20 ⟨_, 0, Nat.le_refl _, hE, .of, hS, H⟩ ?_
        rintro kq29 a u31 ⟨G, x27, hkq, hE, hA, hS, H⟩
        cases kq29 with
        | zero => cases (show none = some r from H)
        | succ k30 =>
          rw [windroseref08_May.l28_s] at H
          obtain ⟨J, hE⟩ := hE.at hA
          refine wp_seq_k fun K32 hK32 => ?_
          refine wp_seq_k fun K33 hK33 => ?_
          refine pl0 ?_
          have hb2 := hS.blk_at (i := 0) rfl
          refine plc hE (.r 0 2 <| .b 2 5 hb2 <| .r 3 2 <| .nil) (fun a hE => ?_)
          refine pld ?_
          refine hK33 _ _ ?_
          by_cases c34 : x27 < (x0_.f5.length : Int)
          · rw [if_pos c34] at H
            replace hE := hE.kt 55 c34
            refine ct hE ?_
            refine wp_skip ?_
            refine hK32 _ _ ?_
            refine wp_seq_k fun K35 hK35 => ?_
            refine wp_block ?_
            refine wp_seq_k fun K36 hK36 => ?_
            refine pl0 ?_
            by_cases c37 : 0 ≤ x27 ∧ x27 < (x0_.f5.length : Int)
            rotate_left
            · rw [if_neg c37] at H; cases H
            rw [if_pos c37] at H
            have hE_ := hE
            obtain ⟨ad38, rfl⟩ := g0_5.addr c37.1 c37.2
            replace hE := hE_
            obtain ⟨cs40, ⟨A42, c43, rfl, g44⟩, hc41⟩ := g0_5.el T_api_Temp.z x27 c37.1 c37.2
            refine plc hE (.r 0 1 <| .b 1 5 hb2 <| .r 2 1 <| .x 3 c37 <| .cs 4 (hS.fcs hc41) <| .nil) (fun a hE => ?_)
            refine ple hE (.al (t := 97) hS [.int .i64 0, .slice none 0 0]) ?_
            rintro _ u46 a ⟨b45, rfl, hb45, hS, hg⟩ hE
            refine ple hE (.sto hS [.int .i64 ((nth T_api_Temp.z x0_.f5 x27).f0), .slice A42 (((nth T_api_Temp.z x0_.f5 x27).f1).length) c43]) ?_
            rintro _ u47 a ⟨rfl, hb45, hS, hz⟩ hE
            refine pld ?_
            refine hK36 _ _ ?_
            refine wp_seq_k fun K48 hK48 => ?_
            have J74 : ∀ kq72, kq72 ≤ k30 → ∀ (G : Nat → Value) (y70 : Bool) (a : Act) (w' : World), Env 113 G a → At G [(1, .pointer (some ⟨b2, 0, none⟩)), (3, .int .i64 x27), (110, .bool y70)] → St W (mine W []) F w' F [box b45 #[.int .i64 ((nth T_api_Temp.z x0_.f5 x27).f0), .slice A42 (((nth T_api_Temp.z x0_.f5 x27).f1).length) c43] 97, box b2 #[.int .i64 x0_.f0, .int .i64 x0_.f1, .int .i64 x0_.f2, .int .i64 x0_.f3, .slice A0_4 x0_.f4.length c0_4, .slice (some ad38) x0_.f5.length c0_5, .slice A0_6 x0_.f6.length c0_6] 26] → windroseref08_May.j71 kq72 x0_ x27 y70 = some r → K48 a w' := by
              intro kq72 hkq G y70 a u75 hE hA hS H
              cases kq72 with
              | zero => cases (show none = some r from H)
              | succ k73 =>
                rw [windroseref08_May.j71_s] at H
                obtain ⟨J, hE⟩ := hE.at hA
                refine hK48 _ _ ?_
                by_cases c76 : y70 = true
                · rw [if_pos c76] at H
                  replace hE := hE.bt 110 c76
                  refine ct hE ?_
                  refine wp_seq_k fun K77 hK77 => ?_
                  refine pl0 ?_
                  refine plc hE (.r 0 1 .nil) (fun a hE => ?_)
                  refine pld ?_
                  refine hK77 _ _ ?_
                  refine wp_ret (block_ret (then_ret (then_ret (block_ret (then_ret ?_)))))
                  replace hS := hS.tail
                  replace hS := hS.tail
                  obtain rfl := Option.some.inj H
                  exact rt1 hE ⟨_, rfl, _, rfl, hS⟩
                · rw [if_neg c76] at H
                  replace hE := hE.bf 110 c76
                  refine cf hE ?_
                  refine wp_skip ?_
                  refine block_n ?_
                  refine hK35 _ _ ?_
                  refine pl0 ?_
                  refine plc hE (.r 0 3 .nil) (fun a hE => ?_)
                  refine pld ?_
                  replace hS := hS.tail
                  exact then_n ⟨k73, by omega, _, (w64 (x27 + 1)), by omega, hE, .of, hS, H⟩
            refine drawn 48 ⟨[], [], fun q => False⟩ mixed rfl (by kernel_rfl) (fun hst => ?_)
            replace hS := hS.drew
            have hb45 := hS.blk_at (i := 0) rfl
            refine mny 44 hst hE (.r 0 1 <| .b 1 0 hb45 <| .r 2 2 <| .nil) (fun a hE => ?_)
            by_cases c49 : (nth T_api_Temp.z x0_.f5 x27).f0 < 0
            · rw [if_pos c49] at H
              replace hE := hE.kt 66 c49
              refine mny 0 hst hE (.r 4 44 .nil) (fun a hE => ?_)
              refine dn ?_
              exact J74 _ (by omega) _ true _ _ hE .of hS H
            · rw [if_neg c49] at H
              replace hE := hE.kf 66 c49
              have hb2 := hS.blk_at (i := 1) rfl
              refine mny 37 hst hE (.r 4 1 <| .b 5 0 hb45 <| .r 6 1 <| .b 7 3 hb2 <| .r 8 3 <| .nil) (fun a hE => ?_)
              by_cases c50 : (nth T_api_Temp.z x0_.f5 x27).f0 ≥ x0_.f3
              · rw [if_pos c50] at H
                replace hE := hE.kt 73 c50
                refine mny 0 hst hE (.r 11 37 .nil) (fun a hE => ?_)
                refine dn ?_
                exact J74 _ (by omega) _ true _ _ hE .of hS H
              · rw [if_neg c50] at H
                replace hE := hE.kf 73 c50
                refine mny 34 hst hE (.r 11 3 .nil) (fun a hE => ?_)
                by_cases c51 : x27 > 0
                · rw [if_pos c51] at H
                  replace hE := hE.kt 76 c51
                  by_cases c52 : 0 ≤ (w64 (x27 - 1)) ∧ (w64 (x27 - 1)) < (x0_.f5.length : Int)
                  rotate_left
                  · rw [if_neg c52] at H; cases H
                  rw [if_pos c52] at H
                  obtain ⟨cs54, ⟨A56, c57, rfl, g58⟩, hc55⟩ := g0_5.el T_api_Temp.z (w64 (x27 - 1)) c52.1 c52.2
                  refine mny 21 hst hE (.r 14 1 <| .b 15 5 hb2 <| .r 16 2 <| .x 18 c52 <| .r 19 1 <| .c 20 (hS.fc hc55 0) <| .r 21 1 <| .b 22 0 hb45 <| .r 23 4 <| .nil) (fun a hE => ?_)
                  by_cases c59 : (nth T_api_Temp.z x0_.f5 (w64 (x27 - 1))).f0 ≥ (nth T_api_Temp.z x0_.f5 x27).f0
                  · rw [if_pos c59] at H
                    replace hE := hE.kt 89 c59
                    refine mny 0 hst hE (.r 27 21 .nil) (fun a hE => ?_)
                    refine dn ?_
                    exact J74 _ (by omega) _ true _ _ hE .of hS H
                  · rw [if_neg c59] at H
                    replace hE := hE.kf 89 c59
                    refine mny 15 hst hE (.r 27 1 <| .b 28 1 hb45 <| .r 29 4 <| .nil) (fun a hE => ?_)
                    by_cases c60 : (((nth T_api_Temp.z x0_.f5 x27).f1).length : Int) < 1
                    · rw [if_pos c60] at H
                      replace hE := hE.kt 95 c60
                      refine mny 0 hst hE (.r 33 15 .nil) (fun a hE => ?_)
                      refine dn ?_
                      exact J74 _ (by omega) _ true _ _ hE .of hS H
                    · rw [if_neg c60] at H
                      replace hE := hE.kf 95 c60
                      refine mny 7 hst hE (.r 33 1 <| .b 34 1 hb45 <| .r 35 2 <| .b 37 1 hb2 <| .r 38 3 <| .nil) (fun a hE => ?_)
                      by_cases c61 : (((nth T_api_Temp.z x0_.f5 x27).f1).length : Int) > x0_.f1
                      · rw [if_pos c61] at H
                        replace hE := hE.kt 103 c61
                        refine mny 0 hst hE (.r 41 7 .nil) (fun a hE => ?_)
                        refine dn ?_
                        exact J74 _ (by omega) _ true _ _ hE .of hS H
                      · rw [if_neg c61] at H
                        replace hE := hE.kf 103 c61
                        refine mny 3 hst hE (.r 41 1 <| .b 42 4 hb2 <| .r 43 1 <| .b 44 1 hb45 <| .nil) (fun a hE => ?_)
                        obtain ⟨t63, h64, H⟩ := Option.bind_eq_some_iff.mp H
                        refine on1 45 hE (.cl en68 (windroseref06_Apart.calls k30 x0_.f4 ((nth T_api_Temp.z x0_.f5 x27).f1) _ _ _ _ _ _ _ hS.own.sub g0_4 g44 h64)) ?_
                        rintro _ u62 a ⟨_, rfl, hC⟩ hE
                        refine ⟨.of hC.agr, ?_⟩
                        replace hS := hS.lent hC
                        refine mny 0 hst hE (.r 46 2 .nil) (fun a hE => ?_)
                        refine dn ?_
                        exact J74 _ (by omega) _ (!t63) _ _ hE .of hS H
                · rw [if_neg c51] at H
                  replace hE := hE.kf 76 c51
                  refine mny 15 hst hE (.r 14 14 <| .b 28 1 hb45 <| .r 29 4 <| .nil) (fun a hE => ?_)
                  by_cases c65 : (((nth T_api_Temp.z x0_.f5 x27).f1).length : Int) < 1
                  · rw [if_pos c65] at H
                    replace hE := hE.kt 95 c65
                    refine mny 0 hst hE (.r 33 15 .nil) (fun a hE => ?_)
                    refine dn ?_
                    exact J74 _ (by omega) _ true _ _ hE .of hS H
                  · rw [if_neg c65] at H
                    replace hE := hE.kf 95 c65
                    refine mny 7 hst hE (.r 33 1 <| .b 34 1 hb45 <| .r 35 2 <| .b 37 1 hb2 <| .r 38 3 <| .nil) (fun a hE => ?_)
                    by_cases c66 : (((nth T_api_Temp.z x0_.f5 x27).f1).length : Int) > x0_.f1
                    · rw [if_pos c66] at H
                      replace hE := hE.kt 103 c66
                      refine mny 0 hst hE (.r 41 7 .nil) (fun a hE => ?_)
                      refine dn ?_
                      exact J74 _ (by omega) _ true _ _ hE .of hS H
                    · rw [if_neg c66] at H
                      replace hE := hE.kf 103 c66
                      refine mny 3 hst hE (.r 41 1 <| .b 42 4 hb2 <| .r 43 1 <| .b 44 1 hb45 <| .nil) (fun a hE => ?_)
                      obtain ⟨t68, h69, H⟩ := Option.bind_eq_some_iff.mp H
                      refine on1 45 hE (.cl en68 (windroseref06_Apart.calls k30 x0_.f4 ((nth T_api_Temp.z x0_.f5 x27).f1) _ _ _ _ _ _ _ hS.own.sub g0_4 g44 h69)) ?_
                      rintro _ u67 a ⟨_, rfl, hC⟩ hE
                      refine ⟨.of hC.agr, ?_⟩
                      replace hS := hS.lent hC
                      refine mny 0 hst hE (.r 46 2 .nil) (fun a hE => ?_)
                      refine dn ?_
                      exact J74 _ (by omega) _ (!t68) _ _ hE .of hS H
          · rw [if_neg c34] at H
            replace hE := hE.kf 55 c34
            refine cf hE ?_
            refine wp_exit ?_
            refine hK25 _ _ ?_
            refine wp_seq_k fun K78 hK78 => ?_
            refine pl0 ?_
            refine plc hE (.bn 0 0 7 hb2 .nil) (fun a hE => ?_)
            obtain ⟨t80, h81, H⟩ := Option.bind_eq_some_iff.mp H
            refine ple hE (.cl en69 (windroseref08_pasts.calls k30 x0_ _ _ _ _ _ _ _ _ _ hS.own.sub g0_4 g0_5 g0_6 h81)) ?_
            rintro _ u79 a ⟨_, rfl, hC⟩ hE
            replace hS := hS.lent hC
            refine plc hE (.r 2 1 .nil) (fun a hE => ?_)
            refine pld ?_
            refine hK78 _ _ ?_
            refine wp_ret ?_
            replace hS := hS.tail
            obtain rfl := Option.some.inj H
            exact rt1 hE ⟨_, rfl, _, rfl, hS⟩
  refine pl0 ?_
  refine plc hE (.r 0 1 <| .b 1 0 hb2 <| .r 2 2 <| .nil) (fun a hE => ?_)
  by_cases c6 : x0_.f0 < 0
  · rw [if_pos c6] at H
    replace hE := hE.kt 8 c6
    refine plc hE (.r 4 42 .nil) (fun a hE => ?_)
    refine pld ?_
    exact J21 _ (by omega) _ true _ _ hE .of hS H
  · rw [if_neg c6] at H
    replace hE := hE.kf 8 c6
    refine plc hE (.r 4 1 <| .b 5 0 hb2 <| .r 6 3 <| .nil) (fun a hE => ?_)
    by_cases c7 : x0_.f0 ≥ 2147483648
    · rw [if_pos c7] at H
      replace hE := hE.kt 13 c7
      refine plc hE (.r 9 37 .nil) (fun a hE => ?_)
      refine pld ?_
      exact J21 _ (by omega) _ true _ _ hE .of hS H
    · rw [if_neg c7] at H
      replace hE := hE.kf 13 c7
      refine plc hE (.r 9 1 <| .b 10 1 hb2 <| .r 11 3 <| .nil) (fun a hE => ?_)
      by_cases c8 : x0_.f1 < 1
      · rw [if_pos c8] at H
        replace hE := hE.kt 18 c8
        refine plc hE (.r 14 32 .nil) (fun a hE => ?_)
        refine pld ?_
        exact J21 _ (by omega) _ true _ _ hE .of hS H
      · rw [if_neg c8] at H
        replace hE := hE.kf 18 c8
        refine plc hE (.r 14 1 <| .b 15 1 hb2 <| .r 16 3 <| .nil) (fun a hE => ?_)
        by_cases c9 : x0_.f1 > 3
        · rw [if_pos c9] at H
          replace hE := hE.kt 23 c9
          refine plc hE (.r 19 27 .nil) (fun a hE => ?_)
          refine pld ?_
          exact J21 _ (by omega) _ true _ _ hE .of hS H
        · rw [if_neg c9] at H
          replace hE := hE.kf 23 c9
          refine plc hE (.r 19 1 <| .b 20 2 hb2 <| .r 21 3 <| .nil) (fun a hE => ?_)
          by_cases c10 : x0_.f2 < 1
          · rw [if_pos c10] at H
            replace hE := hE.kt 28 c10
            refine plc hE (.r 24 22 .nil) (fun a hE => ?_)
            refine pld ?_
            exact J21 _ (by omega) _ true _ _ hE .of hS H
          · rw [if_neg c10] at H
            replace hE := hE.kf 28 c10
            refine plc hE (.r 24 1 <| .b 25 2 hb2 <| .r 26 1 <| .b 27 1 hb2 <| .r 28 3 <| .nil) (fun a hE => ?_)
            by_cases c11 : x0_.f2 > x0_.f1
            · rw [if_pos c11] at H
              replace hE := hE.kt 35 c11
              refine plc hE (.r 31 15 .nil) (fun a hE => ?_)
              refine pld ?_
              exact J21 _ (by omega) _ true _ _ hE .of hS H
            · rw [if_neg c11] at H
              replace hE := hE.kf 35 c11
              refine plc hE (.r 31 1 <| .b 32 3 hb2 <| .r 33 3 <| .nil) (fun a hE => ?_)
              by_cases c12 : x0_.f3 < 1
              · rw [if_pos c12] at H
                replace hE := hE.kt 40 c12
                refine plc hE (.r 36 10 .nil) (fun a hE => ?_)
                refine pld ?_
                exact J21 _ (by omega) _ true _ _ hE .of hS H
              · rw [if_neg c12] at H
                replace hE := hE.kf 40 c12
                refine plc hE (.r 36 1 <| .b 37 3 hb2 <| .r 38 3 <| .nil) (fun a hE => ?_)
                by_cases c13 : x0_.f3 > 8
                · rw [if_pos c13] at H
                  replace hE := hE.kt 45 c13
                  refine plc hE (.r 41 5 .nil) (fun a hE => ?_)
                  refine pld ?_
                  exact J21 _ (by omega) _ true _ _ hE .of hS H
                · rw [if_neg c13] at H
                  replace hE := hE.kf 45 c13
                  refine plc hE (.r 41 1 <| .b 42 4 hb2 <| .nil) (fun a hE => ?_)
                  obtain ⟨t15, h16, H⟩ := Option.bind_eq_some_iff.mp H
                  refine ple hE (.cl en67 (windroseref06_May.calls k x0_.f4 _ _ _ _ _ hS.own.sub g0_4 h16)) ?_
                  rintro _ u14 a ⟨_, rfl, hC⟩ hE
                  replace hS := hS.lent hC
                  refine plc hE (.r 44 2 .nil) (fun a hE => ?_)
                  refine pld ?_
                  exact J21 _ (by omega) _ (!t15) _ _ hE .of hS H

/-! ### windrose/windroselaw08.MapsNew: function 3 -/
def windroselaw08_MapsNew.j28 : Nat → Int → Int → Int → T_api_Map × Int → Bool → Option Bool
  | 0, _, _, _, _, _ => none
  | k + 1, x0_, x1_, x2_, t4, y27 => if y27 = true then (if t4.2 = 1 then ((windroseref08_Same.f k t4.1 (⟨0, 0, 0, 0, [], [], []⟩ : T_api_Map)).bind fun t37 => (if t37 = true then ((windroselaw08_awake.f k).bind fun t41 => (some t41)) else (some false))) else (some false)) else ((windroseref08_New.f x0_ x1_ x2_).bind fun t45 => ((windroseref08_May.f k t45).bind fun t63 => (if t63 = true then (if t4.2 = 0 then ((windroseref08_Same.f k t4.1 t45).bind fun t68 => (if t68 = true then ((windroselaw08_awake.f k).bind fun t72 => (some t72)) else (some false))) else (some false)) else (some false))))
theorem windroselaw08_MapsNew.j28_s (k : Nat) (x0_ : Int) (x1_ : Int) (x2_ : Int) (t4 : T_api_Map × Int) (y27 : Bool) : windroselaw08_MapsNew.j28 (k + 1) x0_ x1_ x2_ t4 y27 = (if y27 = true then (if t4.2 = 1 then ((windroseref08_Same.f k t4.1 (⟨0, 0, 0, 0, [], [], []⟩ : T_api_Map)).bind fun t37 => (if t37 = true then ((windroselaw08_awake.f k).bind fun t41 => (some t41)) else (some false))) else (some false)) else ((windroseref08_New.f x0_ x1_ x2_).bind fun t45 => ((windroseref08_May.f k t45).bind fun t63 => (if t63 = true then (if t4.2 = 0 then ((windroseref08_Same.f k t4.1 t45).bind fun t68 => (if t68 = true then ((windroselaw08_awake.f k).bind fun t72 => (some t72)) else (some false))) else (some false)) else (some false))))) := by kernel_rfl
def windroselaw08_MapsNew.f (k : Nat) (x0_ : Int) (x1_ : Int) (x2_ : Int) : Option Bool := (maps_New.f k x0_ x1_ x2_).bind fun t4 => (if x0_ < 1 then (windroselaw08_MapsNew.j28 k x0_ x1_ x2_ t4 true) else (if x0_ > 3 then (windroselaw08_MapsNew.j28 k x0_ x1_ x2_ t4 true) else (if x1_ < 1 then (windroselaw08_MapsNew.j28 k x0_ x1_ x2_ t4 true) else (if x1_ > x0_ then (windroselaw08_MapsNew.j28 k x0_ x1_ x2_ t4 true) else (if x2_ < 1 then (windroselaw08_MapsNew.j28 k x0_ x1_ x2_ t4 true) else (windroselaw08_MapsNew.j28 k x0_ x1_ x2_ t4 (decide (x2_ > 8))))))))
def windroselaw08_MapsNew.Post (W F : World) (r : Bool) (v : Value) (w' : World) : Prop := ∃ (F' : World), v = .bool r ∧ St W (mine W []) F w' F' []
set_option maxHeartbeats 4000000 in
set_option maxRecDepth 100000 in
theorem windroselaw08_MapsNew.calls (k : Nat) (x0_ : Int) (x1_ : Int) (x2_ : Int) (r : Bool) (W F : World) (hown : Sub F W) (H : windroselaw08_MapsNew.f k x0_ x1_ x2_ = some r) :
    Calls Tryz.prog 3 #[.int .i64 x0_, .int .i64 x1_, .int .i64 x2_] W fun e w' => ∃ v, e = .returned v ∧ windroselaw08_MapsNew.Post W F r v w' := by
  have hS := St.start (Own.nil hown)
  unfold windroselaw08_MapsNew.f at H
  refine enter (n := 68) rfl rfl rfl (Nat.le_of_ble_eq_true rfl) (fun a hE => ?_)
  refine wp_seq_k fun K1 hK1 => ?_
  refine pl0 ?_
  refine plc hE (.r 0 1 .nil) (fun a hE => ?_)
  refine pld ?_
  refine hK1 _ _ ?_
  refine wp_seq_k fun K2 hK2 => ?_
  refine pl0 ?_
  refine plc hE (.r 0 3 .nil) (fun a hE => ?_)
  obtain ⟨t4, h5, H⟩ := Option.bind_eq_some_iff.mp H
  refine ple hE (.cl en15 (maps_New.calls k x0_ x1_ x2_ _ _ _ hS.own.sub h5)) ?_
  rintro _ u3 a ⟨F6, A7, c8, A10, c11, A13, c14, rfl, hC, g9, g12⟩ hE
  have hs := hC.sub
  replace hS := hS.called (X := []) hC
  refine plc hE (.r 4 3 .nil) (fun a hE => ?_)
  refine ple hE (.al (t := 26) hS [.int .i64 0, .int .i64 0, .int .i64 0, .int .i64 0, .slice none 0 0, .slice none 0 0, .slice none 0 0]) ?_
  rintro _ u18 a ⟨b17, rfl, hb17, hS, hg⟩ hE
  refine ple hE (.sto hS [.int .i64 t4.1.f0, .int .i64 t4.1.f1, .int .i64 t4.1.f2, .int .i64 t4.1.f3, .slice A7 t4.1.f4.length c8, .slice A10 t4.1.f5.length c11, .slice A13 t4.1.f6.length c14]) ?_
  rintro _ u19 a ⟨rfl, hb17, hS, hz⟩ hE
  refine plc hE (.r 9 1 .nil) (fun a hE => ?_)
  refine pld ?_
  refine hK2 _ _ ?_
  refine wp_seq_k fun K20 hK20 => ?_
  refine wp_seq_k fun K21 hK21 => ?_
  have J31 : ∀ kq29, kq29 ≤ k → ∀ (G : Nat → Value) (y27 : Bool) (a : Act) (w' : World), Env 68 G a → At G [(0, .int .i64 x0_), (1, .int .i64 x1_), (2, .int .i64 x2_), (7, .pointer (some ⟨b17, 0, none⟩)), (8, .int .i64 t4.2), (39, .bool y27)] → St W (mine W []) F w' F6 [box b17 #[.int .i64 t4.1.f0, .int .i64 t4.1.f1, .int .i64 t4.1.f2, .int .i64 t4.1.f3, .slice A7 t4.1.f4.length c8, .slice A10 t4.1.f5.length c11, .slice A13 t4.1.f6.length c14] 26, row T_api_Trail.k 49 (.slice A13 t4.1.f6.length c14) t4.1.f6] → windroselaw08_MapsNew.j28 kq29 x0_ x1_ x2_ t4 y27 = some r → K21 a w' := by
    intro kq29 hkq G y27 a u32 hE hA hS H
    cases kq29 with
    | zero => cases (show none = some r from H)
    | succ k30 =>
      rw [windroselaw08_MapsNew.j28_s] at H
      obtain ⟨J, hE⟩ := hE.at hA
      refine hK21 _ _ ?_
      by_cases c33 : y27 = true
      · rw [if_pos c33] at H
        replace hE := hE.bt 39 c33
        refine ct hE ?_
        refine wp_seq_k fun K34 hK34 => ?_
        refine pl0 ?_
        refine plc hE (.r 0 3 .nil) (fun a hE => ?_)
        by_cases c35 : t4.2 = 1
        · rw [if_pos c35] at H
          replace hE := hE.kt 42 c35
          have hb17 := hS.blk_at (i := 0) rfl
          refine plc hE (.bn 3 0 7 hb17 <| .r 4 1 <| .nil) (fun a hE => ?_)
          obtain ⟨t37, h38, H⟩ := Option.bind_eq_some_iff.mp H
          refine ple hE (.cl en16 (windroseref08_Same.calls k30 t4.1 (⟨0, 0, 0, 0, [], [], []⟩ : T_api_Map) _ _ _ _ _ _ _ _ _ _ _ _ _ _ _ (Sub.refl _) (g9.mono hS.own.sub) (g12.mono hS.own.sub) (hS.rd_at (i := 1) rfl) (Rd.nil _ _) (Rd.nil _ _) (Rd.nil _ _) h38)) ?_
          rintro _ u36 a ⟨_, rfl, hC⟩ hE
          replace hS := hS.lent hC
          refine plc hE (.r 6 2 .nil) (fun a hE => ?_)
          by_cases c39 : t37 = true
          · rw [if_pos c39] at H
            replace hE := hE.bt 47 c39
            obtain ⟨t41, h42, H⟩ := Option.bind_eq_some_iff.mp H
            refine ple hE (.cl en17 (windroselaw08_awake.calls k30 _ _ _ hS.own.sub h42)) ?_
            rintro _ u40 a ⟨_, rfl, hC⟩ hE
            replace hS := hS.lent hC
            refine plc hE (.r 9 2 .nil) (fun a hE => ?_)
            refine pld ?_
            refine hK34 _ _ ?_
            refine wp_ret (then_ret ?_)
            replace hS := hS.tail
            replace hS := hS.tail
            obtain rfl := Option.some.inj H
            exact rt1 hE ⟨_, rfl, _, rfl, hS⟩
          · rw [if_neg c39] at H
            replace hE := hE.bf 47 c39
            refine plc hE (.r 8 3 .nil) (fun a hE => ?_)
            refine pld ?_
            refine hK34 _ _ ?_
            refine wp_ret (then_ret ?_)
            replace hS := hS.tail
            replace hS := hS.tail
            obtain rfl := Option.some.inj H
            exact rt1 hE ⟨_, rfl, _, rfl, hS⟩
        · rw [if_neg c35] at H
          replace hE := hE.kf 42 c35
          refine plc hE (.r 3 8 .nil) (fun a hE => ?_)
          refine pld ?_
          refine hK34 _ _ ?_
          refine wp_ret (then_ret ?_)
          replace hS := hS.tail
          replace hS := hS.tail
          obtain rfl := Option.some.inj H
          exact rt1 hE ⟨_, rfl, _, rfl, hS⟩
      · rw [if_neg c33] at H
        replace hE := hE.bf 39 c33
        refine cf hE ?_
        refine wp_skip ?_
        refine hK20 _ _ ?_
        refine wp_seq_k fun K43 hK43 => ?_
        refine pl0 ?_
        refine plc hE (.r 0 3 .nil) (fun a hE => ?_)
        obtain ⟨t45, h46, H⟩ := Option.bind_eq_some_iff.mp H
        refine ple hE (.cl en18 (windroseref08_New.calls x0_ x1_ x2_ _ _ _ hS.own.sub h46)) ?_
        rintro _ u44 a ⟨F47, A48, c49, A51, c52, A54, c55, rfl, hC, g50, g53⟩ hE
        have hs := hC.sub
        replace hS := hS.called (X := []) hC
        replace g9 := g9.mono hs
        replace g12 := g12.mono hs
        refine ple hE (.al (t := 26) hS [.int .i64 0, .int .i64 0, .int .i64 0, .int .i64 0, .slice none 0 0, .slice none 0 0, .slice none 0 0]) ?_
        rintro _ u59 a ⟨b58, rfl, hb58, hS, hg⟩ hE
        refine ple hE (.sto hS [.int .i64 t45.f0, .int .i64 t45.f1, .int .i64 t45.f2, .int .i64 t45.f3, .slice A48 t45.f4.length c49, .slice A51 t45.f5.length c52, .slice A54 t45.f6.length c55]) ?_
        rintro _ u60 a ⟨rfl, hb58, hS, hz⟩ hE
        refine pld ?_
        refine hK43 _ _ ?_
        refine wp_seq_k fun K61 hK61 => ?_
        refine pl0 ?_
        refine plc hE (.bn 0 0 7 hb58 .nil) (fun a hE => ?_)
        obtain ⟨t63, h64, H⟩ := Option.bind_eq_some_iff.mp H
        refine ple hE (.cl en19 (windroseref08_May.calls k30 t45 _ _ _ _ _ _ _ _ _ (Sub.refl _) (g50.mono hS.own.sub) (g53.mono hS.own.sub) (hS.rd_at (i := 1) rfl) h64)) ?_
        rintro _ u62 a ⟨_, rfl, hC⟩ hE
        replace hS := hS.lent hC
        refine plc hE (.r 2 1 .nil) (fun a hE => ?_)
        by_cases c65 : t63 = true
        · rw [if_pos c65] at H
          replace hE := hE.bt 56 c65
          refine plc hE (.r 3 4 .nil) (fun a hE => ?_)
          by_cases c66 : t4.2 = 0
          · rw [if_pos c66] at H
            replace hE := hE.kt 60 c66
            have hb17 := hS.blk_at (i := 2) rfl
            have hb58 := hS.blk_at (i := 0) rfl
            refine plc hE (.bn 7 0 7 hb17 <| .bn 8 0 7 hb58 <| .nil) (fun a hE => ?_)
            obtain ⟨t68, h69, H⟩ := Option.bind_eq_some_iff.mp H
            refine ple hE (.cl en16 (windroseref08_Same.calls k30 t4.1 t45 _ _ _ _ _ _ _ _ _ _ _ _ _ _ _ (Sub.refl _) (g9.mono hS.own.sub) (g12.mono hS.own.sub) (hS.rd_at (i := 3) rfl) (g50.mono hS.own.sub) (g53.mono hS.own.sub) (hS.rd_at (i := 1) rfl) h69)) ?_
            rintro _ u67 a ⟨_, rfl, hC⟩ hE
            replace hS := hS.lent hC
            refine plc hE (.r 10 2 .nil) (fun a hE => ?_)
            by_cases c70 : t68 = true
            · rw [if_pos c70] at H
              replace hE := hE.bt 65 c70
              obtain ⟨t72, h73, H⟩ := Option.bind_eq_some_iff.mp H
              refine ple hE (.cl en17 (windroselaw08_awake.calls k30 _ _ _ hS.own.sub h73)) ?_
              rintro _ u71 a ⟨_, rfl, hC⟩ hE
              replace hS := hS.lent hC
              refine plc hE (.r 13 2 .nil) (fun a hE => ?_)
              refine pld ?_
              refine hK61 _ _ ?_
              refine wp_ret ?_
              replace hS := hS.tail
              replace hS := hS.tail
              replace hS := hS.tail
              replace hS := hS.tail
              obtain rfl := Option.some.inj H
              exact rt1 hE ⟨_, rfl, _, rfl, hS⟩
            · rw [if_neg c70] at H
              replace hE := hE.bf 65 c70
              refine plc hE (.r 12 3 .nil) (fun a hE => ?_)
              refine pld ?_
              refine hK61 _ _ ?_
              refine wp_ret ?_
              replace hS := hS.tail
              replace hS := hS.tail
              replace hS := hS.tail
              replace hS := hS.tail
              obtain rfl := Option.some.inj H
              exact rt1 hE ⟨_, rfl, _, rfl, hS⟩
          · rw [if_neg c66] at H
            replace hE := hE.kf 60 c66
            refine plc hE (.r 7 8 .nil) (fun a hE => ?_)
            refine pld ?_
            refine hK61 _ _ ?_
            refine wp_ret ?_
            replace hS := hS.tail
            replace hS := hS.tail
            replace hS := hS.tail
            replace hS := hS.tail
            obtain rfl := Option.some.inj H
            exact rt1 hE ⟨_, rfl, _, rfl, hS⟩
        · rw [if_neg c65] at H
          replace hE := hE.bf 56 c65
          refine plc hE (.r 3 12 .nil) (fun a hE => ?_)
          refine pld ?_
          refine hK61 _ _ ?_
          refine wp_ret ?_
          replace hS := hS.tail
          replace hS := hS.tail
          replace hS := hS.tail
          replace hS := hS.tail
          obtain rfl := Option.some.inj H
          exact rt1 hE ⟨_, rfl, _, rfl, hS⟩
  refine pl0 ?_
  refine plc hE (.r 0 3 .nil) (fun a hE => ?_)
  by_cases c22 : x0_ < 1
  · rw [if_pos c22] at H
    replace hE := hE.kt 19 c22
    refine plc hE (.r 3 20 .nil) (fun a hE => ?_)
    refine pld ?_
    exact J31 _ (by omega) _ true _ _ hE .of hS H
  · rw [if_neg c22] at H
    replace hE := hE.kf 19 c22
    refine plc hE (.r 3 4 .nil) (fun a hE => ?_)
    by_cases c23 : x0_ > 3
    · rw [if_pos c23] at H
      replace hE := hE.kt 23 c23
      refine plc hE (.r 7 16 .nil) (fun a hE => ?_)
      refine pld ?_
      exact J31 _ (by omega) _ true _ _ hE .of hS H
    · rw [if_neg c23] at H
      replace hE := hE.kf 23 c23
      refine plc hE (.r 7 4 .nil) (fun a hE => ?_)
      by_cases c24 : x1_ < 1
      · rw [if_pos c24] at H
        replace hE := hE.kt 27 c24
        refine plc hE (.r 11 12 .nil) (fun a hE => ?_)
        refine pld ?_
        exact J31 _ (by omega) _ true _ _ hE .of hS H
      · rw [if_neg c24] at H
        replace hE := hE.kf 27 c24
        refine plc hE (.r 11 5 .nil) (fun a hE => ?_)
        by_cases c25 : x1_ > x0_
        · rw [if_pos c25] at H
          replace hE := hE.kt 32 c25
          refine plc hE (.r 16 7 .nil) (fun a hE => ?_)
          refine pld ?_
          exact J31 _ (by omega) _ true _ _ hE .of hS H
        · rw [if_neg c25] at H
          replace hE := hE.kf 32 c25
          refine plc hE (.r 16 4 .nil) (fun a hE => ?_)
          by_cases c26 : x2_ < 1
          · rw [if_pos c26] at H
            replace hE := hE.kt 36 c26
            refine plc hE (.r 20 3 .nil) (fun a hE => ?_)
            refine pld ?_
            exact J31 _ (by omega) _ true _ _ hE .of hS H
          · rw [if_neg c26] at H
            replace hE := hE.kf 36 c26
            refine plc hE (.r 20 3 .nil) (fun a hE => ?_)
            refine pld ?_
            exact J31 _ (by omega) _ (decide (x2_ > 8)) _ _ hE .of hS H

end Go.Proofs.YtpohepinmjmbkaaGreat.MN
