/- Functions of the program, what each computes (written by wip/s/sl.py). -/
import Derived.Test.YtihjknnhbgkinaaSR3
namespace Go.Proofs.Ytihjknnhbgkinaa.SR
open Go Go.RowKit Go.Proofs.Ytihjknnhbgkinaa.Sl
set_option linter.unusedVariables false
set_option linter.unusedSimpArgs false
/-! ### windrose/windroseref08.pasts: function 76 -/
mutual
def windroseref08_pasts.l7 : Nat → T_api_Map → Int → Option Bool
  | 0, _, _ => none
  | k + 1, x0_, x6 => if x6 < (x0_.f6.length : Int) then (if 0 ≤ x6 ∧ x6 < (x0_.f6.length : Int) then (if (nth T_api_Trail.z x0_.f6 x6).f0 < 0 then (windroseref08_pasts.j31 k x0_ x6 true) else (windroseref08_pasts.j31 k x0_ x6 (decide ((nth T_api_Trail.z x0_.f6 x6).f0 > x0_.f0)))) else (none)) else (some ((x0_.f6.length : Int) == x0_.f3))
def windroseref08_pasts.j31 : Nat → T_api_Map → Int → Bool → Option Bool
  | 0, _, _, _ => none
  | k + 1, x0_, x6, y30 => if y30 = true then (some false) else (windroseref08_pasts.l40 k x0_ x6 0)
def windroseref08_pasts.l40 : Nat → T_api_Map → Int → Int → Option Bool
  | 0, _, _, _ => none
  | k + 1, x0_, x6, x39 => if x39 < (((nth T_api_Trail.z x0_.f6 x6).f1).length : Int) then (if 0 ≤ x39 ∧ x39 < (((nth T_api_Trail.z x0_.f6 x6).f1).length : Int) then (if (nth T_api_Span.z ((nth T_api_Trail.z x0_.f6 x6).f1) x39).f0 < 0 then (windroseref08_pasts.j66 k x0_ x6 x39 true) else (if (nth T_api_Span.z ((nth T_api_Trail.z x0_.f6 x6).f1) x39).f0 ≥ (nth T_api_Trail.z x0_.f6 x6).f0 then (windroseref08_pasts.j66 k x0_ x6 x39 true) else (if (((nth T_api_Span.z ((nth T_api_Trail.z x0_.f6 x6).f1) x39).f1).length : Int) < x0_.f2 then (windroseref08_pasts.j66 k x0_ x6 x39 true) else (windroseref08_pasts.j66 k x0_ x6 x39 (decide ((((nth T_api_Span.z ((nth T_api_Trail.z x0_.f6 x6).f1) x39).f1).length : Int) > x0_.f1)))))) else (none)) else (windroseref08_pasts.l7 k x0_ (w64 (x6 + 1)))
def windroseref08_pasts.j66 : Nat → T_api_Map → Int → Int → Bool → Option Bool
  | 0, _, _, _, _ => none
  | k + 1, x0_, x6, x39, y65 => if y65 = true then (some false) else (windroseref08_pasts.l76 k x0_ x6 x39 0)
def windroseref08_pasts.l76 : Nat → T_api_Map → Int → Int → Int → Option Bool
  | 0, _, _, _, _ => none
  | k + 1, x0_, x6, x39, x75 => if x75 < (((nth T_api_Span.z ((nth T_api_Trail.z x0_.f6 x6).f1) x39).f1).length : Int) then (if 0 ≤ x75 ∧ x75 < (((nth T_api_Span.z ((nth T_api_Trail.z x0_.f6 x6).f1) x39).f1).length : Int) then (if (nth 0 ((nth T_api_Span.z ((nth T_api_Trail.z x0_.f6 x6).f1) x39).f1) x75) < 1 then (windroseref08_pasts.j104 k x0_ x6 x39 x75 true) else (if (nth 0 ((nth T_api_Span.z ((nth T_api_Trail.z x0_.f6 x6).f1) x39).f1) x75) > 999 then (windroseref08_pasts.j104 k x0_ x6 x39 x75 true) else (if x75 > 0 then (if 0 ≤ (w64 (x75 - 1)) ∧ (w64 (x75 - 1)) < (((nth T_api_Span.z ((nth T_api_Trail.z x0_.f6 x6).f1) x39).f1).length : Int) then (windroseref08_pasts.j104 k x0_ x6 x39 x75 (decide ((nth 0 ((nth T_api_Span.z ((nth T_api_Trail.z x0_.f6 x6).f1) x39).f1) (w64 (x75 - 1))) ≥ (nth 0 ((nth T_api_Span.z ((nth T_api_Trail.z x0_.f6 x6).f1) x39).f1) x75)))) else (none)) else (windroseref08_pasts.j104 k x0_ x6 x39 x75 false)))) else (none)) else (windroseref08_pasts.l113 k x0_ x6 x39 0)
def windroseref08_pasts.j104 : Nat → T_api_Map → Int → Int → Int → Bool → Option Bool
  | 0, _, _, _, _, _ => none
  | k + 1, x0_, x6, x39, x75, y103 => if y103 = true then (some false) else (windroseref08_pasts.l76 k x0_ x6 x39 (w64 (x75 + 1)))
def windroseref08_pasts.l113 : Nat → T_api_Map → Int → Int → Int → Option Bool
  | 0, _, _, _, _ => none
  | k + 1, x0_, x6, x39, x112 => if x112 < x39 then (if 0 ≤ x112 ∧ x112 < (((nth T_api_Trail.z x0_.f6 x6).f1).length : Int) then (if (nth T_api_Span.z ((nth T_api_Trail.z x0_.f6 x6).f1) x112).f0 ≥ (nth T_api_Span.z ((nth T_api_Trail.z x0_.f6 x6).f1) x39).f0 then (windroseref08_pasts.j137 k x0_ x6 x39 x112 true) else ((windroseref02_Ints.f k ((nth T_api_Span.z ((nth T_api_Trail.z x0_.f6 x6).f1) x112).f1) ((nth T_api_Span.z ((nth T_api_Trail.z x0_.f6 x6).f1) x39).f1)).bind fun t134 => (windroseref08_pasts.j137 k x0_ x6 x39 x112 t134))) else (none)) else (windroseref08_pasts.l40 k x0_ x6 (w64 (x39 + 1)))
def windroseref08_pasts.j137 : Nat → T_api_Map → Int → Int → Int → Bool → Option Bool
  | 0, _, _, _, _, _ => none
  | k + 1, x0_, x6, x39, x112, y136 => if y136 = true then (some false) else (windroseref08_pasts.l113 k x0_ x6 x39 (w64 (x112 + 1)))
end
theorem windroseref08_pasts.l7_s (k : Nat) (x0_ : T_api_Map) (x6 : Int) : windroseref08_pasts.l7 (k + 1) x0_ x6 = (if x6 < (x0_.f6.length : Int) then (if 0 ≤ x6 ∧ x6 < (x0_.f6.length : Int) then (if (nth T_api_Trail.z x0_.f6 x6).f0 < 0 then (windroseref08_pasts.j31 k x0_ x6 true) else (windroseref08_pasts.j31 k x0_ x6 (decide ((nth T_api_Trail.z x0_.f6 x6).f0 > x0_.f0)))) else (none)) else (some ((x0_.f6.length : Int) == x0_.f3))) := by kernel_rfl
theorem windroseref08_pasts.j31_s (k : Nat) (x0_ : T_api_Map) (x6 : Int) (y30 : Bool) : windroseref08_pasts.j31 (k + 1) x0_ x6 y30 = (if y30 = true then (some false) else (windroseref08_pasts.l40 k x0_ x6 0)) := by kernel_rfl
theorem windroseref08_pasts.l40_s (k : Nat) (x0_ : T_api_Map) (x6 : Int) (x39 : Int) : windroseref08_pasts.l40 (k + 1) x0_ x6 x39 = (if x39 < (((nth T_api_Trail.z x0_.f6 x6).f1).length : Int) then (if 0 ≤ x39 ∧ x39 < (((nth T_api_Trail.z x0_.f6 x6).f1).length : Int) then (if (nth T_api_Span.z ((nth T_api_Trail.z x0_.f6 x6).f1) x39).f0 < 0 then (windroseref08_pasts.j66 k x0_ x6 x39 true) else (if (nth T_api_Span.z ((nth T_api_Trail.z x0_.f6 x6).f1) x39).f0 ≥ (nth T_api_Trail.z x0_.f6 x6).f0 then (windroseref08_pasts.j66 k x0_ x6 x39 true) else (if (((nth T_api_Span.z ((nth T_api_Trail.z x0_.f6 x6).f1) x39).f1).length : Int) < x0_.f2 then (windroseref08_pasts.j66 k x0_ x6 x39 true) else (windroseref08_pasts.j66 k x0_ x6 x39 (decide ((((nth T_api_Span.z ((nth T_api_Trail.z x0_.f6 x6).f1) x39).f1).length : Int) > x0_.f1)))))) else (none)) else (windroseref08_pasts.l7 k x0_ (w64 (x6 + 1)))) := by kernel_rfl
theorem windroseref08_pasts.j66_s (k : Nat) (x0_ : T_api_Map) (x6 : Int) (x39 : Int) (y65 : Bool) : windroseref08_pasts.j66 (k + 1) x0_ x6 x39 y65 = (if y65 = true then (some false) else (windroseref08_pasts.l76 k x0_ x6 x39 0)) := by kernel_rfl
theorem windroseref08_pasts.l76_s (k : Nat) (x0_ : T_api_Map) (x6 : Int) (x39 : Int) (x75 : Int) : windroseref08_pasts.l76 (k + 1) x0_ x6 x39 x75 = (if x75 < (((nth T_api_Span.z ((nth T_api_Trail.z x0_.f6 x6).f1) x39).f1).length : Int) then (if 0 ≤ x75 ∧ x75 < (((nth T_api_Span.z ((nth T_api_Trail.z x0_.f6 x6).f1) x39).f1).length : Int) then (if (nth 0 ((nth T_api_Span.z ((nth T_api_Trail.z x0_.f6 x6).f1) x39).f1) x75) < 1 then (windroseref08_pasts.j104 k x0_ x6 x39 x75 true) else (if (nth 0 ((nth T_api_Span.z ((nth T_api_Trail.z x0_.f6 x6).f1) x39).f1) x75) > 999 then (windroseref08_pasts.j104 k x0_ x6 x39 x75 true) else (if x75 > 0 then (if 0 ≤ (w64 (x75 - 1)) ∧ (w64 (x75 - 1)) < (((nth T_api_Span.z ((nth T_api_Trail.z x0_.f6 x6).f1) x39).f1).length : Int) then (windroseref08_pasts.j104 k x0_ x6 x39 x75 (decide ((nth 0 ((nth T_api_Span.z ((nth T_api_Trail.z x0_.f6 x6).f1) x39).f1) (w64 (x75 - 1))) ≥ (nth 0 ((nth T_api_Span.z ((nth T_api_Trail.z x0_.f6 x6).f1) x39).f1) x75)))) else (none)) else (windroseref08_pasts.j104 k x0_ x6 x39 x75 false)))) else (none)) else (windroseref08_pasts.l113 k x0_ x6 x39 0)) := by kernel_rfl
theorem windroseref08_pasts.j104_s (k : Nat) (x0_ : T_api_Map) (x6 : Int) (x39 : Int) (x75 : Int) (y103 : Bool) : windroseref08_pasts.j104 (k + 1) x0_ x6 x39 x75 y103 = (if y103 = true then (some false) else (windroseref08_pasts.l76 k x0_ x6 x39 (w64 (x75 + 1)))) := by kernel_rfl
theorem windroseref08_pasts.l113_s (k : Nat) (x0_ : T_api_Map) (x6 : Int) (x39 : Int) (x112 : Int) : windroseref08_pasts.l113 (k + 1) x0_ x6 x39 x112 = (if x112 < x39 then (if 0 ≤ x112 ∧ x112 < (((nth T_api_Trail.z x0_.f6 x6).f1).length : Int) then (if (nth T_api_Span.z ((nth T_api_Trail.z x0_.f6 x6).f1) x112).f0 ≥ (nth T_api_Span.z ((nth T_api_Trail.z x0_.f6 x6).f1) x39).f0 then (windroseref08_pasts.j137 k x0_ x6 x39 x112 true) else ((windroseref02_Ints.f k ((nth T_api_Span.z ((nth T_api_Trail.z x0_.f6 x6).f1) x112).f1) ((nth T_api_Span.z ((nth T_api_Trail.z x0_.f6 x6).f1) x39).f1)).bind fun t134 => (windroseref08_pasts.j137 k x0_ x6 x39 x112 t134))) else (none)) else (windroseref08_pasts.l40 k x0_ x6 (w64 (x39 + 1)))) := by kernel_rfl
theorem windroseref08_pasts.j137_s (k : Nat) (x0_ : T_api_Map) (x6 : Int) (x39 : Int) (x112 : Int) (y136 : Bool) : windroseref08_pasts.j137 (k + 1) x0_ x6 x39 x112 y136 = (if y136 = true then (some false) else (windroseref08_pasts.l113 k x0_ x6 x39 (w64 (x112 + 1)))) := by kernel_rfl
def windroseref08_pasts.f (k : Nat) (x0_ : T_api_Map) : Option Bool := windroseref08_pasts.l7 k x0_ 0
def windroseref08_pasts.Post (W F : World) (r : Bool) (v : Value) (w' : World) : Prop := ∃ (F' : World), v = .bool r ∧ St W (mine W []) F w' F' []
set_option maxHeartbeats 4000000 in
set_option maxRecDepth 100000 in
theorem windroseref08_pasts.calls (k : Nat) (x0_ : T_api_Map) (A0_4 : Option Addr) (c0_4 : Nat) (A0_5 : Option Addr) (c0_5 : Nat) (A0_6 : Option Addr) (c0_6 : Nat) (r : Bool) (W F : World) (hown : Sub F W) (g0_4 : Rd T_api_Node.k F A0_4 c0_4 x0_.f4) (g0_5 : Rd T_api_Temp.k F A0_5 c0_5 x0_.f5) (g0_6 : Rd T_api_Trail.k F A0_6 c0_6 x0_.f6) (H : windroseref08_pasts.f k x0_ = some r) :
    Calls Try.prog 76 #[.agg #[.int .i64 x0_.f0, .int .i64 x0_.f1, .int .i64 x0_.f2, .int .i64 x0_.f3, .slice A0_4 x0_.f4.length c0_4, .slice A0_5 x0_.f5.length c0_5, .slice A0_6 x0_.f6.length c0_6]] W fun e w' => ∃ v, e = .returned v ∧ windroseref08_pasts.Post W F r v w' := by
  have hS := St.start (Own.nil hown)
  unfold windroseref08_pasts.f at H
  refine enter (n := 139) rfl rfl rfl (Nat.le_of_ble_eq_true rfl) (fun a hE => ?_)
  refine wp_seq_k fun K1 hK1 => ?_
  refine pl0 ?_
  refine ple hE (.bx (t := 78) hS [.int .i64 x0_.f0, .int .i64 x0_.f1, .int .i64 x0_.f2, .int .i64 x0_.f3, .slice A0_4 x0_.f4.length c0_4, .slice A0_5 x0_.f5.length c0_5, .slice A0_6 x0_.f6.length c0_6]) ?_
  rintro _ u3 a ⟨b2, rfl, hb2, hS, hg⟩ hE
  refine plc hE (.r 1 1 .nil) (fun a hE => ?_)
  refine pld ?_
  refine hK1 _ _ ?_
  refine wp_seq_k fun K4 hK4 => ?_
  refine wp_seq_k fun K5 hK5 => ?_
  refine pl0 ?_
  refine plc hE (.r 0 1 .nil) (fun a hE => ?_)
  refine pld ?_
  refine hK5 _ _ ?_
  refine wp_block ?_
  refine wp_loop_ghost (fun kq8 a w' => ∃ (G : Nat → Value) (x6 : Int), kq8 ≤ k ∧ Env 139 G a ∧ At G [(1, .pointer (some ⟨b2, 0, none⟩)), (3, .int .i64 x6)] ∧ St W (mine W []) F w' F [box b2 #[.int .i64 x0_.f0, .int .i64 x0_.f1, .int .i64 x0_.f2, .int .i64 x0_.f3, .slice A0_4 x0_.f4.length c0_4, .slice A0_5 x0_.f5.length c0_5, .slice A0_6 x0_.f6.length c0_6] 78] ∧  windroseref08_pasts.l7 kq8 x0_ x6 = some r) k ⟨_, 0, Nat.le_refl _, hE, .of, hS, H⟩ ?_
  rintro kq8 a u10 ⟨G, x6, hkq, hE, hA, hS, H⟩
  cases kq8 with
  | zero => cases (show none = some r from H)
  | succ k9 =>
    rw [windroseref08_pasts.l7_s] at H
    obtain ⟨J, hE⟩ := hE.at hA
    refine wp_seq_k fun K11 hK11 => ?_
    refine wp_seq_k fun K12 hK12 => ?_
    refine pl0 ?_
    have hb2 := hS.blk_at (i := 0) rfl
    refine plc hE (.r 0 2 <| .b 2 6 hb2 <| .r 3 2 <| .nil) (fun a hE => ?_)
    refine pld ?_
    refine hK12 _ _ ?_
    by_cases c13 : x6 < (x0_.f6.length : Int)
    · rw [if_pos c13] at H
      replace hE := hE.kt 13 c13
      refine ct hE ?_
      refine wp_skip ?_
      refine hK11 _ _ ?_
      refine wp_seq_k fun K14 hK14 => ?_
      refine wp_block ?_
      refine wp_seq_k fun K15 hK15 => ?_
      refine pl0 ?_
      by_cases c16 : 0 ≤ x6 ∧ x6 < (x0_.f6.length : Int)
      rotate_left
      · rw [if_neg c16] at H; cases H
      rw [if_pos c16] at H
      have hE_ := hE
      obtain ⟨ad17, rfl⟩ := g0_6.addr c16.1 c16.2
      replace hE := hE_
      obtain ⟨cs19, ⟨A21, c22, rfl, g23⟩, hc20⟩ := g0_6.el T_api_Trail.z x6 c16.1 c16.2
      refine plc hE (.r 0 1 <| .b 1 6 hb2 <| .r 2 1 <| .x 3 c16 <| .cs 4 (hS.fcs hc20) <| .nil) (fun a hE => ?_)
      refine ple hE (.al (t := 133) hS [.int .i64 0, .slice none 0 0]) ?_
      rintro _ u25 a ⟨b24, rfl, hb24, hS, hg⟩ hE
      refine ple hE (.sto hS [.int .i64 ((nth T_api_Trail.z x0_.f6 x6).f0), .slice A21 (((nth T_api_Trail.z x0_.f6 x6).f1).length) c22]) ?_
      rintro _ u26 a ⟨rfl, hb24, hS, hz⟩ hE
      refine pld ?_
      refine hK15 _ _ ?_
      refine wp_seq_k fun K27 hK27 => ?_
      refine wp_seq_k fun K28 hK28 => ?_
      have J34 : ∀ kq32, kq32 ≤ k9 → ∀ (G : Nat → Value) (y30 : Bool) (a : Act) (w' : World), Env 139 G a → At G [(1, .pointer (some ⟨b2, 0, none⟩)), (3, .int .i64 x6), (4, .pointer (some ⟨b24, 0, none⟩)), (30, .bool y30)] → St W (mine W []) F w' F [box b24 #[.int .i64 ((nth T_api_Trail.z x0_.f6 x6).f0), .slice A21 (((nth T_api_Trail.z x0_.f6 x6).f1).length) c22] 133, box b2 #[.int .i64 x0_.f0, .int .i64 x0_.f1, .int .i64 x0_.f2, .int .i64 x0_.f3, .slice A0_4 x0_.f4.length c0_4, .slice A0_5 x0_.f5.length c0_5, .slice (some ad17) x0_.f6.length c0_6] 78] → windroseref08_pasts.j31 kq32 x0_ x6 y30 = some r → K28 a w' := by
        intro kq32 hkq G y30 a u35 hE hA hS H
        cases kq32 with
        | zero => cases (show none = some r from H)
        | succ k33 =>
          rw [windroseref08_pasts.j31_s] at H
          obtain ⟨J, hE⟩ := hE.at hA
          refine hK28 _ _ ?_
          by_cases c36 : y30 = true
          · rw [if_pos c36] at H
            replace hE := hE.bt 30 c36
            refine ct hE ?_
            refine wp_seq_k fun K37 hK37 => ?_
            refine pl0 ?_
            refine plc hE (.r 0 1 .nil) (fun a hE => ?_)
            refine pld ?_
            refine hK37 _ _ ?_
            refine wp_ret (then_ret (block_ret (then_ret (then_ret (block_ret (then_ret ?_))))))
            replace hS := hS.tail
            replace hS := hS.tail
            obtain rfl := Option.some.inj H
            exact rt1 hE ⟨_, rfl, _, rfl, hS⟩
          · rw [if_neg c36] at H
            replace hE := hE.bf 30 c36
            refine cf hE ?_
            refine wp_skip ?_
            refine hK27 _ _ ?_
            refine wp_seq_k fun K38 hK38 => ?_
            refine pl0 ?_
            refine plc hE (.r 0 1 .nil) (fun a hE => ?_)
            refine pld ?_
            refine hK38 _ _ ?_
            refine wp_block ?_
            refine wp_loop_ghost (fun kq41 a w' => ∃ (G : Nat → Value) (x39 : Int), kq41 ≤ k33 ∧ Env 139 G a ∧ At G [(1, .pointer (some ⟨b2, 0, none⟩)), (3, .int .i64 x6), (4, .pointer (some ⟨b24, 0, none⟩)), (5, .int .i64 x39)] ∧ St W (mine W []) F w' F [box b24 #[.int .i64 ((nth T_api_Trail.z x0_.f6 x6).f0), .slice A21 (((nth T_api_Trail.z x0_.f6 x6).f1).length) c22] 133, box b2 #[.int .i64 x0_.f0, .int .i64 x0_.f1, .int .i64 x0_.f2, .int .i64 x0_.f3, .slice A0_4 x0_.f4.length c0_4, .slice A0_5 x0_.f5.length c0_5, .slice (some ad17) x0_.f6.length c0_6] 78] ∧  windroseref08_pasts.l40 kq41 x0_ x6 x39 = some r) k33 ⟨_, 0, Nat.le_refl _, hE, .of, hS, H⟩ ?_
            rintro kq41 a u43 ⟨G, x39, hkq, hE, hA, hS, H⟩
            cases kq41 with
            | zero => cases (show none = some r from H)
            | succ k42 =>
              rw [windroseref08_pasts.l40_s] at H
              obtain ⟨J, hE⟩ := hE.at hA
              refine wp_seq_k fun K44 hK44 => ?_
              refine wp_seq_k fun K45 hK45 => ?_
              refine pl0 ?_
              have hb24 := hS.blk_at (i := 0) rfl
              refine plc hE (.r 0 2 <| .b 2 1 hb24 <| .r 3 2 <| .nil) (fun a hE => ?_)
              refine pld ?_
              refine hK45 _ _ ?_
              by_cases c46 : x39 < (((nth T_api_Trail.z x0_.f6 x6).f1).length : Int)
              · rw [if_pos c46] at H
                replace hE := hE.kt 35 c46
                refine ct hE ?_
                refine wp_skip ?_
                refine hK44 _ _ ?_
                refine wp_seq_k fun K47 hK47 => ?_
                refine wp_block ?_
                refine wp_seq_k fun K48 hK48 => ?_
                refine pl0 ?_
                by_cases c49 : 0 ≤ x39 ∧ x39 < (((nth T_api_Trail.z x0_.f6 x6).f1).length : Int)
                rotate_left
                · rw [if_neg c49] at H; cases H
                rw [if_pos c49] at H
                have hE_ := hE
                obtain ⟨ad50, rfl⟩ := g23.addr c49.1 c49.2
                replace hE := hE_
                obtain ⟨cs52, ⟨A54, c55, rfl, g56⟩, hc53⟩ := g23.el T_api_Span.z x39 c49.1 c49.2
                refine plc hE (.r 0 1 <| .b 1 1 hb24 <| .r 2 1 <| .x 3 c49 <| .cs 4 (hS.fcs hc53) <| .nil) (fun a hE => ?_)
                refine ple hE (.al (t := 140) hS [.int .i64 0, .slice none 0 0]) ?_
                rintro _ u58 a ⟨b57, rfl, hb57, hS, hg⟩ hE
                refine ple hE (.sto hS [.int .i64 ((nth T_api_Span.z ((nth T_api_Trail.z x0_.f6 x6).f1) x39).f0), .slice A54 (((nth T_api_Span.z ((nth T_api_Trail.z x0_.f6 x6).f1) x39).f1).length) c55]) ?_
                rintro _ u59 a ⟨rfl, hb57, hS, hz⟩ hE
                refine pld ?_
                refine hK48 _ _ ?_
                refine wp_seq_k fun K60 hK60 => ?_
                refine wp_seq_k fun K61 hK61 => ?_
                have J69 : ∀ kq67, kq67 ≤ k42 → ∀ (G : Nat → Value) (y65 : Bool) (a : Act) (w' : World), Env 139 G a → At G [(1, .pointer (some ⟨b2, 0, none⟩)), (3, .int .i64 x6), (4, .pointer (some ⟨b24, 0, none⟩)), (5, .int .i64 x39), (6, .pointer (some ⟨b57, 0, none⟩)), (68, .bool y65)] → St W (mine W []) F w' F [box b57 #[.int .i64 ((nth T_api_Span.z ((nth T_api_Trail.z x0_.f6 x6).f1) x39).f0), .slice A54 (((nth T_api_Span.z ((nth T_api_Trail.z x0_.f6 x6).f1) x39).f1).length) c55] 140, box b24 #[.int .i64 ((nth T_api_Trail.z x0_.f6 x6).f0), .slice (some ad50) (((nth T_api_Trail.z x0_.f6 x6).f1).length) c22] 133, box b2 #[.int .i64 x0_.f0, .int .i64 x0_.f1, .int .i64 x0_.f2, .int .i64 x0_.f3, .slice A0_4 x0_.f4.length c0_4, .slice A0_5 x0_.f5.length c0_5, .slice (some ad17) x0_.f6.length c0_6] 78] → windroseref08_pasts.j66 kq67 x0_ x6 x39 y65 = some r → K61 a w' := by
                  intro kq67 hkq G y65 a u70 hE hA hS H
                  cases kq67 with
                  | zero => cases (show none = some r from H)
                  | succ k68 =>
                    rw [windroseref08_pasts.j66_s] at H
                    obtain ⟨J, hE⟩ := hE.at hA
                    refine hK61 _ _ ?_
                    by_cases c71 : y65 = true
                    · rw [if_pos c71] at H
                      replace hE := hE.bt 68 c71
                      refine ct hE ?_
                      refine wp_seq_k fun K72 hK72 => ?_
                      refine pl0 ?_
                      refine plc hE (.r 0 1 .nil) (fun a hE => ?_)
                      refine pld ?_
                      refine hK72 _ _ ?_
                      refine wp_ret (then_ret (block_ret (then_ret (then_ret (block_ret (block_ret (then_ret (then_ret (block_ret (then_ret ?_))))))))))
                      replace hS := hS.tail
                      replace hS := hS.tail
                      replace hS := hS.tail
                      obtain rfl := Option.some.inj H
                      exact rt1 hE ⟨_, rfl, _, rfl, hS⟩
                    · rw [if_neg c71] at H
                      replace hE := hE.bf 68 c71
                      refine cf hE ?_
                      refine wp_skip ?_
                      refine hK60 _ _ ?_
                      refine wp_seq_k fun K73 hK73 => ?_
                      refine wp_seq_k fun K74 hK74 => ?_
                      refine pl0 ?_
                      refine plc hE (.r 0 1 .nil) (fun a hE => ?_)
                      refine pld ?_
                      refine hK74 _ _ ?_
                      refine wp_block ?_
                      refine wp_loop_ghost (fun kq77 a w' => ∃ (G : Nat → Value) (x75 : Int), kq77 ≤ k68 ∧ Env 139 G a ∧ At G [(1, .pointer (some ⟨b2, 0, none⟩)), (3, .int .i64 x6), (4, .pointer (some ⟨b24, 0, none⟩)), (5, .int .i64 x39), (6, .pointer (some ⟨b57, 0, none⟩)), (7, .int .i64 x75)] ∧ St W (mine W []) F w' F [box b57 #[.int .i64 ((nth T_api_Span.z ((nth T_api_Trail.z x0_.f6 x6).f1) x39).f0), .slice A54 (((nth T_api_Span.z ((nth T_api_Trail.z x0_.f6 x6).f1) x39).f1).length) c55] 140, box b24 #[.int .i64 ((nth T_api_Trail.z x0_.f6 x6).f0), .slice (some ad50) (((nth T_api_Trail.z x0_.f6 x6).f1).length) c22] 133, box b2 #[.int .i64 x0_.f0, .int .i64 x0_.f1, .int .i64 x0_.f2, .int .i64 x0_.f3, .slice A0_4 x0_.f4.length c0_4, .slice A0_5 x0_.f5.length c0_5, .slice (some ad17) x0_.f6.length c0_6] 78] ∧  windroseref08_pasts.l76 kq77 x0_ x6 x39 x75 = some r) k68 ⟨_, 0, Nat.le_refl _, hE, .of, hS, H⟩ ?_
                      rintro kq77 a u79 ⟨G, x75, hkq, hE, hA, hS, H⟩
                      cases kq77 with
                      | zero => cases (show none = some r from H)
                      | succ k78 =>
                        rw [windroseref08_pasts.l76_s] at H
                        obtain ⟨J, hE⟩ := hE.at hA
                        refine wp_seq_k fun K80 hK80 => ?_
                        refine wp_seq_k fun K81 hK81 => ?_
                        refine pl0 ?_
                        have hb57 := hS.blk_at (i := 0) rfl
                        refine plc hE (.r 0 2 <| .b 2 1 hb57 <| .r 3 2 <| .nil) (fun a hE => ?_)
                        refine pld ?_
                        refine hK81 _ _ ?_
                        by_cases c82 : x75 < (((nth T_api_Span.z ((nth T_api_Trail.z x0_.f6 x6).f1) x39).f1).length : Int)
                        · rw [if_pos c82] at H
                          replace hE := hE.kt 73 c82
                          refine ct hE ?_
                          refine wp_skip ?_
                          refine hK80 _ _ ?_
                          refine wp_seq_k fun K83 hK83 => ?_
                          refine wp_block ?_
                          refine wp_seq_k fun K84 hK84 => ?_
                          have J107 : ∀ kq105, kq105 ≤ k78 → ∀ (G : Nat → Value) (y103 : Bool) (a : Act) (w' : World), Env 139 G a → At G [(1, .pointer (some ⟨b2, 0, none⟩)), (3, .int .i64 x6), (4, .pointer (some ⟨b24, 0, none⟩)), (5, .int .i64 x39), (6, .pointer (some ⟨b57, 0, none⟩)), (7, .int .i64 x75), (107, .bool y103)] → St W (mine W []) F w' F [box b57 #[.int .i64 ((nth T_api_Span.z ((nth T_api_Trail.z x0_.f6 x6).f1) x39).f0), .slice A54 (((nth T_api_Span.z ((nth T_api_Trail.z x0_.f6 x6).f1) x39).f1).length) c55] 140, box b24 #[.int .i64 ((nth T_api_Trail.z x0_.f6 x6).f0), .slice (some ad50) (((nth T_api_Trail.z x0_.f6 x6).f1).length) c22] 133, box b2 #[.int .i64 x0_.f0, .int .i64 x0_.f1, .int .i64 x0_.f2, .int .i64 x0_.f3, .slice A0_4 x0_.f4.length c0_4, .slice A0_5 x0_.f5.length c0_5, .slice (some ad17) x0_.f6.length c0_6] 78] → windroseref08_pasts.j104 kq105 x0_ x6 x39 x75 y103 = some r → K84 a w' := by
                            intro kq105 hkq G y103 a u108 hE hA hS H
                            cases kq105 with
                            | zero => cases (show none = some r from H)
                            | succ k106 =>
                              rw [windroseref08_pasts.j104_s] at H
                              obtain ⟨J, hE⟩ := hE.at hA
                              refine hK84 _ _ ?_
                              by_cases c109 : y103 = true
                              · rw [if_pos c109] at H
                                replace hE := hE.bt 107 c109
                                refine ct hE ?_
                                refine wp_seq_k fun K110 hK110 => ?_
                                refine pl0 ?_
                                refine plc hE (.r 0 1 .nil) (fun a hE => ?_)
                                refine pld ?_
                                refine hK110 _ _ ?_
                                refine wp_ret (block_ret (then_ret (then_ret (block_ret (then_ret (block_ret (then_ret (then_ret (block_ret (block_ret (then_ret (then_ret (block_ret (then_ret ?_))))))))))))))
                                replace hS := hS.tail
                                replace hS := hS.tail
                                replace hS := hS.tail
                                obtain rfl := Option.some.inj H
                                exact rt1 hE ⟨_, rfl, _, rfl, hS⟩
                              · rw [if_neg c109] at H
                                replace hE := hE.bf 107 c109
                                refine cf hE ?_
                                refine wp_skip ?_
                                refine hK83 _ _ ?_
                                refine pl0 ?_
                                refine plc hE (.r 0 3 .nil) (fun a hE => ?_)
                                refine pld ?_
                                exact then_n ⟨k106, by omega, _, (w64 (x75 + 1)), by omega, hE, .of, hS, H⟩
                          refine drawn 32 ⟨[], [], fun q => False⟩ mixed rfl (by kernel_rfl) (fun hst => ?_)
                          replace hS := hS.drew
                          have hb57 := hS.blk_at (i := 0) rfl
                          by_cases c85 : 0 ≤ x75 ∧ x75 < (((nth T_api_Span.z ((nth T_api_Trail.z x0_.f6 x6).f1) x39).f1).length : Int)
                          rotate_left
                          · rw [if_neg c85] at H; cases H
                          rw [if_pos c85] at H
                          have hE_ := hE
                          obtain ⟨ad86, rfl⟩ := g56.addr c85.1 c85.2
                          replace hE := hE_
                          obtain ⟨cs88, rfl, hc89⟩ := g56.el 0 x75 c85.1 c85.2
                          refine mny 25 hst hE (.r 0 1 <| .b 1 1 hb57 <| .r 2 1 <| .x 3 c85 <| .c 4 (hS.fc hc89 0) <| .r 5 2 <| .nil) (fun a hE => ?_)
                          by_cases c90 : (nth 0 ((nth T_api_Span.z ((nth T_api_Trail.z x0_.f6 x6).f1) x39).f1) x75) < 1
                          · rw [if_pos c90] at H
                            replace hE := hE.kt 82 c90
                            refine mny 0 hst hE (.r 7 25 .nil) (fun a hE => ?_)
                            refine dn ?_
                            exact J107 _ (by omega) _ true _ _ hE .of hS H
                          · rw [if_neg c90] at H
                            replace hE := hE.kf 82 c90
                            refine mny 17 hst hE (.r 7 1 <| .b 8 1 hb57 <| .r 9 1 <| .x 10 c85 <| .c 11 (hS.fc hc89 0) <| .r 12 3 <| .nil) (fun a hE => ?_)
                            by_cases c94 : (nth 0 ((nth T_api_Span.z ((nth T_api_Trail.z x0_.f6 x6).f1) x39).f1) x75) > 999
                            · rw [if_pos c94] at H
                              replace hE := hE.kt 90 c94
                              refine mny 0 hst hE (.r 15 17 .nil) (fun a hE => ?_)
                              refine dn ?_
                              exact J107 _ (by omega) _ true _ _ hE .of hS H
                            · rw [if_neg c94] at H
                              replace hE := hE.kf 90 c94
                              refine mny 14 hst hE (.r 15 3 .nil) (fun a hE => ?_)
                              by_cases c95 : x75 > 0
                              · rw [if_pos c95] at H
                                replace hE := hE.kt 93 c95
                                by_cases c96 : 0 ≤ (w64 (x75 - 1)) ∧ (w64 (x75 - 1)) < (((nth T_api_Span.z ((nth T_api_Trail.z x0_.f6 x6).f1) x39).f1).length : Int)
                                rotate_left
                                · rw [if_neg c96] at H; cases H
                                rw [if_pos c96] at H
                                obtain ⟨cs98, rfl, hc99⟩ := g56.el 0 (w64 (x75 - 1)) c96.1 c96.2
                                refine mny 0 hst hE (.r 18 1 <| .b 19 1 hb57 <| .r 20 2 <| .x 22 c96 <| .c 23 (hS.fc hc99 0) <| .r 24 1 <| .b 25 1 hb57 <| .r 26 1 <| .x 27 c85 <| .c 28 (hS.fc hc89 0) <| .r 29 3 <| .nil) (fun a hE => ?_)
                                refine dn ?_
                                exact J107 _ (by omega) _ (decide ((nth 0 ((nth T_api_Span.z ((nth T_api_Trail.z x0_.f6 x6).f1) x39).f1) (w64 (x75 - 1))) ≥ (nth 0 ((nth T_api_Span.z ((nth T_api_Trail.z x0_.f6 x6).f1) x39).f1) x75))) _ _ hE .of hS H
                              · rw [if_neg c95] at H
                                replace hE := hE.kf 93 c95
                                refine mny 0 hst hE (.r 18 14 .nil) (fun a hE => ?_)
                                refine dn ?_
                                exact J107 _ (by omega) _ false _ _ hE .of hS H
                        · rw [if_neg c82] at H
                          replace hE := hE.kf 73 c82
                          refine cf hE ?_
                          refine wp_exit ?_
                          refine hK73 _ _ ?_
                          refine wp_seq_k fun K111 hK111 => ?_
                          refine pl0 ?_
                          refine plc hE (.r 0 1 .nil) (fun a hE => ?_)
                          refine pld ?_
                          refine hK111 _ _ ?_
                          refine wp_block ?_
                          refine wp_loop_ghost (fun kq114 a w' => ∃ (G : Nat → Value) (x112 : Int), kq114 ≤ k78 ∧ Env 139 G a ∧ At G [(1, .pointer (some ⟨b2, 0, none⟩)), (3, .int .i64 x6), (4, .pointer (some ⟨b24, 0, none⟩)), (5, .int .i64 x39), (6, .pointer (some ⟨b57, 0, none⟩)), (8, .int .i64 x112)] ∧ St W (mine W []) F w' F [box b57 #[.int .i64 ((nth T_api_Span.z ((nth T_api_Trail.z x0_.f6 x6).f1) x39).f0), .slice A54 (((nth T_api_Span.z ((nth T_api_Trail.z x0_.f6 x6).f1) x39).f1).length) c55] 140, box b24 #[.int .i64 ((nth T_api_Trail.z x0_.f6 x6).f0), .slice (some ad50) (((nth T_api_Trail.z x0_.f6 x6).f1).length) c22] 133, box b2 #[.int .i64 x0_.f0, .int .i64 x0_.f1, .int .i64 x0_.f2, .int .i64 x0_.f3, .slice A0_4 x0_.f4.length c0_4, .slice A0_5 x0_.f5.length c0_5, .slice (some ad17) x0_.f6.length c0_6] 78] ∧  windroseref08_pasts.l113 kq114 x0_ x6 x39 x112 = some r) k78 ⟨_, 0, Nat.le_refl _, hE, .of, hS, H⟩ ?_
                          rintro kq114 a u116 ⟨G, x112, hkq, hE, hA, hS, H⟩
                          cases kq114 with
                          | zero => cases (show none = some r from H)
                          | succ k115 =>
                            rw [windroseref08_pasts.l113_s] at H
                            obtain ⟨J, hE⟩ := hE.at hA
                            refine wp_seq_k fun K117 hK117 => ?_
                            refine wp_seq_k fun K118 hK118 => ?_
                            refine pl0 ?_
                            refine plc hE (.r 0 3 .nil) (fun a hE => ?_)
                            refine pld ?_
                            refine hK118 _ _ ?_
                            by_cases c119 : x112 < x39
                            · rw [if_pos c119] at H
                              replace hE := hE.kt 110 c119
                              refine ct hE ?_
                              refine wp_skip ?_
                              refine hK117 _ _ ?_
                              refine wp_seq_k fun K120 hK120 => ?_
                              refine wp_block ?_
                              refine wp_seq_k fun K121 hK121 => ?_
                              have J140 : ∀ kq138, kq138 ≤ k115 → ∀ (G : Nat → Value) (y136 : Bool) (a : Act) (w' : World), Env 139 G a → At G [(1, .pointer (some ⟨b2, 0, none⟩)), (3, .int .i64 x6), (4, .pointer (some ⟨b24, 0, none⟩)), (5, .int .i64 x39), (6, .pointer (some ⟨b57, 0, none⟩)), (8, .int .i64 x112), (132, .bool y136)] → St W (mine W []) F w' F [box b57 #[.int .i64 ((nth T_api_Span.z ((nth T_api_Trail.z x0_.f6 x6).f1) x39).f0), .slice A54 (((nth T_api_Span.z ((nth T_api_Trail.z x0_.f6 x6).f1) x39).f1).length) c55] 140, box b24 #[.int .i64 ((nth T_api_Trail.z x0_.f6 x6).f0), .slice (some ad50) (((nth T_api_Trail.z x0_.f6 x6).f1).length) c22] 133, box b2 #[.int .i64 x0_.f0, .int .i64 x0_.f1, .int .i64 x0_.f2, .int .i64 x0_.f3, .slice A0_4 x0_.f4.length c0_4, .slice A0_5 x0_.f5.length c0_5, .slice (some ad17) x0_.f6.length c0_6] 78] → windroseref08_pasts.j137 kq138 x0_ x6 x39 x112 y136 = some r → K121 a w' := by
                                intro kq138 hkq G y136 a u141 hE hA hS H
                                cases kq138 with
                                | zero => cases (show none = some r from H)
                                | succ k139 =>
                                  rw [windroseref08_pasts.j137_s] at H
                                  obtain ⟨J, hE⟩ := hE.at hA
                                  refine hK121 _ _ ?_
                                  by_cases c142 : y136 = true
                                  · rw [if_pos c142] at H
                                    replace hE := hE.bt 132 c142
                                    refine ct hE ?_
                                    refine wp_seq_k fun K143 hK143 => ?_
                                    refine pl0 ?_
                                    refine plc hE (.r 0 1 .nil) (fun a hE => ?_)
                                    refine pld ?_
                                    refine hK143 _ _ ?_
                                    refine wp_ret (block_ret (then_ret (then_ret (block_ret (block_ret (then_ret (then_ret (block_ret (block_ret (then_ret (then_ret (block_ret (then_ret ?_)))))))))))))
                                    replace hS := hS.tail
                                    replace hS := hS.tail
                                    replace hS := hS.tail
                                    obtain rfl := Option.some.inj H
                                    exact rt1 hE ⟨_, rfl, _, rfl, hS⟩
                                  · rw [if_neg c142] at H
                                    replace hE := hE.bf 132 c142
                                    refine cf hE ?_
                                    refine wp_skip ?_
                                    refine hK120 _ _ ?_
                                    refine pl0 ?_
                                    refine plc hE (.r 0 3 .nil) (fun a hE => ?_)
                                    refine pld ?_
                                    exact then_n ⟨k139, by omega, _, (w64 (x112 + 1)), by omega, hE, .of, hS, H⟩
                              refine drawn 20 ⟨[], [], fun q => False⟩ mixed rfl (by kernel_rfl) (fun hst => ?_)
                              replace hS := hS.drew
                              have hb24 := hS.blk_at (i := 1) rfl
                              by_cases c122 : 0 ≤ x112 ∧ x112 < (((nth T_api_Trail.z x0_.f6 x6).f1).length : Int)
                              rotate_left
                              · rw [if_neg c122] at H; cases H
                              rw [if_pos c122] at H
                              obtain ⟨cs124, ⟨A126, c127, rfl, g128⟩, hc125⟩ := g23.el T_api_Span.z x112 c122.1 c122.2
                              have hb57 := hS.blk_at (i := 0) rfl
                              refine mny 10 hst hE (.r 0 1 <| .b 1 1 hb24 <| .r 2 1 <| .x 3 c122 <| .r 4 1 <| .c 5 (hS.fc hc125 0) <| .r 6 1 <| .b 7 0 hb57 <| .r 8 2 <| .nil) (fun a hE => ?_)
                              by_cases c129 : (nth T_api_Span.z ((nth T_api_Trail.z x0_.f6 x6).f1) x112).f0 ≥ (nth T_api_Span.z ((nth T_api_Trail.z x0_.f6 x6).f1) x39).f0
                              · rw [if_pos c129] at H
                                replace hE := hE.kt 122 c129
                                refine mny 0 hst hE (.r 10 10 .nil) (fun a hE => ?_)
                                refine dn ?_
                                exact J140 _ (by omega) _ true _ _ hE .of hS H
                              · rw [if_neg c129] at H
                                replace hE := hE.kf 122 c129
                                refine mny 2 hst hE (.r 10 1 <| .b 11 1 hb24 <| .r 12 1 <| .x 13 c122 <| .r 14 1 <| .c 15 (hS.fc hc125 1) <| .r 16 1 <| .b 17 1 hb57 <| .nil) (fun a hE => ?_)
                                obtain ⟨t134, h135, H⟩ := Option.bind_eq_some_iff.mp H
                                refine on1 18 hE (.cl en44 (windroseref02_Ints.calls k115 ((nth T_api_Span.z ((nth T_api_Trail.z x0_.f6 x6).f1) x112).f1) ((nth T_api_Span.z ((nth T_api_Trail.z x0_.f6 x6).f1) x39).f1) _ _ _ _ _ _ _ hS.own.sub g128 g56 h135)) ?_
                                rintro _ u133 a ⟨_, rfl, hC⟩ hE
                                refine ⟨.of hC.agr, ?_⟩
                                replace hS := hS.lent hC
                                refine mny 0 hst hE (.r 19 1 .nil) (fun a hE => ?_)
                                refine dn ?_
                                exact J140 _ (by omega) _ t134 _ _ hE .of hS H
                            · rw [if_neg c119] at H
                              replace hE := hE.kf 110 c119
                              refine cf hE ?_
                              refine wp_exit ?_
                              refine hK47 _ _ ?_
                              refine pl0 ?_
                              refine plc hE (.r 0 3 .nil) (fun a hE => ?_)
                              refine pld ?_
                              replace hS := hS.tail
                              exact then_n ⟨k115, by omega, _, (w64 (x39 + 1)), by omega, hE, .of, hS, H⟩
                refine pl0 ?_
                refine plc hE (.r 0 1 <| .b 1 0 hb57 <| .r 2 2 <| .nil) (fun a hE => ?_)
                by_cases c62 : (nth T_api_Span.z ((nth T_api_Trail.z x0_.f6 x6).f1) x39).f0 < 0
                · rw [if_pos c62] at H
                  replace hE := hE.kt 46 c62
                  refine plc hE (.r 4 22 .nil) (fun a hE => ?_)
                  refine pld ?_
                  exact J69 _ (by omega) _ true _ _ hE .of hS H
                · rw [if_neg c62] at H
                  replace hE := hE.kf 46 c62
                  have hb24 := hS.blk_at (i := 1) rfl
                  refine plc hE (.r 4 1 <| .b 5 0 hb57 <| .r 6 1 <| .b 7 0 hb24 <| .r 8 3 <| .nil) (fun a hE => ?_)
                  by_cases c63 : (nth T_api_Span.z ((nth T_api_Trail.z x0_.f6 x6).f1) x39).f0 ≥ (nth T_api_Trail.z x0_.f6 x6).f0
                  · rw [if_pos c63] at H
                    replace hE := hE.kt 53 c63
                    refine plc hE (.r 11 15 .nil) (fun a hE => ?_)
                    refine pld ?_
                    exact J69 _ (by omega) _ true _ _ hE .of hS H
                  · rw [if_neg c63] at H
                    replace hE := hE.kf 53 c63
                    have hb2 := hS.blk_at (i := 2) rfl
                    refine plc hE (.r 11 1 <| .b 12 1 hb57 <| .r 13 2 <| .b 15 2 hb2 <| .r 16 3 <| .nil) (fun a hE => ?_)
                    by_cases c64 : (((nth T_api_Span.z ((nth T_api_Trail.z x0_.f6 x6).f1) x39).f1).length : Int) < x0_.f2
                    · rw [if_pos c64] at H
                      replace hE := hE.kt 61 c64
                      refine plc hE (.r 19 7 .nil) (fun a hE => ?_)
                      refine pld ?_
                      exact J69 _ (by omega) _ true _ _ hE .of hS H
                    · rw [if_neg c64] at H
                      replace hE := hE.kf 61 c64
                      refine plc hE (.r 19 1 <| .b 20 1 hb57 <| .r 21 2 <| .b 23 1 hb2 <| .r 24 2 <| .nil) (fun a hE => ?_)
                      refine pld ?_
                      exact J69 _ (by omega) _ (decide ((((nth T_api_Span.z ((nth T_api_Trail.z x0_.f6 x6).f1) x39).f1).length : Int) > x0_.f1)) _ _ hE .of hS H
              · rw [if_neg c46] at H
                replace hE := hE.kf 35 c46
                refine cf hE ?_
                refine wp_exit ?_
                refine hK14 _ _ ?_
                refine pl0 ?_
                refine plc hE (.r 0 3 .nil) (fun a hE => ?_)
                refine pld ?_
                replace hS := hS.tail
                exact then_n ⟨k42, by omega, _, (w64 (x6 + 1)), by omega, hE, .of, hS, H⟩
      refine pl0 ?_
      refine plc hE (.r 0 1 <| .b 1 0 hb24 <| .r 2 2 <| .nil) (fun a hE => ?_)
      by_cases c29 : (nth T_api_Trail.z x0_.f6 x6).f0 < 0
      · rw [if_pos c29] at H
        replace hE := hE.kt 24 c29
        refine plc hE (.r 4 6 .nil) (fun a hE => ?_)
        refine pld ?_
        exact J34 _ (by omega) _ true _ _ hE .of hS H
      · rw [if_neg c29] at H
        replace hE := hE.kf 24 c29
        have hb2 := hS.blk_at (i := 1) rfl
        refine plc hE (.r 4 1 <| .b 5 0 hb24 <| .r 6 1 <| .b 7 0 hb2 <| .r 8 2 <| .nil) (fun a hE => ?_)
        refine pld ?_
        exact J34 _ (by omega) _ (decide ((nth T_api_Trail.z x0_.f6 x6).f0 > x0_.f0)) _ _ hE .of hS H
    · rw [if_neg c13] at H
      replace hE := hE.kf 13 c13
      refine cf hE ?_
      refine wp_exit ?_
      refine hK4 _ _ ?_
      refine wp_seq_k fun K144 hK144 => ?_
      refine pl0 ?_
      refine plc hE (.r 0 1 <| .b 1 6 hb2 <| .r 2 2 <| .b 4 3 hb2 <| .r 5 2 <| .nil) (fun a hE => ?_)
      refine pld ?_
      refine hK144 _ _ ?_
      refine wp_ret ?_
      replace hS := hS.tail
      obtain rfl := Option.some.inj H
      exact rt1 hE ⟨_, rfl, _, rfl, hS⟩

/-! ### windrose/windroseref08.May: function 33 -/
mutual
def windroseref08_May.j18 : Nat → T_api_Map → Bool → Option Bool
  | 0, _, _ => none
  | k + 1, x0_, y17 => if y17 = true then (some false) else (windroseref08_May.l28 k x0_ 0)
def windroseref08_May.l28 : Nat → T_api_Map → Int → Option Bool
  | 0, _, _ => none
  | k + 1, x0_, x27 => if x27 < (x0_.f5.length : Int) then (if 0 ≤ x27 ∧ x27 < (x0_.f5.length : Int) then (if (nth T_api_Temp.z x0_.f5 x27).f0 < 0 then (windroseref08_May.j71 k x0_ x27 true) else (if (nth T_api_Temp.z x0_.f5 x27).f0 ≥ x0_.f3 then (windroseref08_May.j71 k x0_ x27 true) else (if x27 > 0 then (if 0 ≤ (w64 (x27 - 1)) ∧ (w64 (x27 - 1)) < (x0_.f5.length : Int) then (if (nth T_api_Temp.z x0_.f5 (w64 (x27 - 1))).f0 ≥ (nth T_api_Temp.z x0_.f5 x27).f0 then (windroseref08_May.j71 k x0_ x27 true) else (if (((nth T_api_Temp.z x0_.f5 x27).f1).length : Int) < 1 then (windroseref08_May.j71 k x0_ x27 true) else (if (((nth T_api_Temp.z x0_.f5 x27).f1).length : Int) > x0_.f1 then (windroseref08_May.j71 k x0_ x27 true) else ((windroseref06_Apart.f k x0_.f4 ((nth T_api_Temp.z x0_.f5 x27).f1)).bind fun t63 => (windroseref08_May.j71 k x0_ x27 (!t63)))))) else (none)) else (if (((nth T_api_Temp.z x0_.f5 x27).f1).length : Int) < 1 then (windroseref08_May.j71 k x0_ x27 true) else (if (((nth T_api_Temp.z x0_.f5 x27).f1).length : Int) > x0_.f1 then (windroseref08_May.j71 k x0_ x27 true) else ((windroseref06_Apart.f k x0_.f4 ((nth T_api_Temp.z x0_.f5 x27).f1)).bind fun t68 => (windroseref08_May.j71 k x0_ x27 (!t68)))))))) else (none)) else ((windroseref08_pasts.f k x0_).bind fun t80 => (some t80))
def windroseref08_May.j71 : Nat → T_api_Map → Int → Bool → Option Bool
  | 0, _, _, _ => none
  | k + 1, x0_, x27, y70 => if y70 = true then (some false) else (windroseref08_May.l28 k x0_ (w64 (x27 + 1)))
end
theorem windroseref08_May.j18_s (k : Nat) (x0_ : T_api_Map) (y17 : Bool) : windroseref08_May.j18 (k + 1) x0_ y17 = (if y17 = true then (some false) else (windroseref08_May.l28 k x0_ 0)) := by kernel_rfl
theorem windroseref08_May.l28_s (k : Nat) (x0_ : T_api_Map) (x27 : Int) : windroseref08_May.l28 (k + 1) x0_ x27 = (if x27 < (x0_.f5.length : Int) then (if 0 ≤ x27 ∧ x27 < (x0_.f5.length : Int) then (if (nth T_api_Temp.z x0_.f5 x27).f0 < 0 then (windroseref08_May.j71 k x0_ x27 true) else (if (nth T_api_Temp.z x0_.f5 x27).f0 ≥ x0_.f3 then (windroseref08_May.j71 k x0_ x27 true) else (if x27 > 0 then (if 0 ≤ (w64 (x27 - 1)) ∧ (w64 (x27 - 1)) < (x0_.f5.length : Int) then (if (nth T_api_Temp.z x0_.f5 (w64 (x27 - 1))).f0 ≥ (nth T_api_Temp.z x0_.f5 x27).f0 then (windroseref08_May.j71 k x0_ x27 true) else (if (((nth T_api_Temp.z x0_.f5 x27).f1).length : Int) < 1 then (windroseref08_May.j71 k x0_ x27 true) else (if (((nth T_api_Temp.z x0_.f5 x27).f1).length : Int) > x0_.f1 then (windroseref08_May.j71 k x0_ x27 true) else ((windroseref06_Apart.f k x0_.f4 ((nth T_api_Temp.z x0_.f5 x27).f1)).bind fun t63 => (windroseref08_May.j71 k x0_ x27 (!t63)))))) else (none)) else (if (((nth T_api_Temp.z x0_.f5 x27).f1).length : Int) < 1 then (windroseref08_May.j71 k x0_ x27 true) else (if (((nth T_api_Temp.z x0_.f5 x27).f1).length : Int) > x0_.f1 then (windroseref08_May.j71 k x0_ x27 true) else ((windroseref06_Apart.f k x0_.f4 ((nth T_api_Temp.z x0_.f5 x27).f1)).bind fun t68 => (windroseref08_May.j71 k x0_ x27 (!t68)))))))) else (none)) else ((windroseref08_pasts.f k x0_).bind fun t80 => (some t80))) := by kernel_rfl
theorem windroseref08_May.j71_s (k : Nat) (x0_ : T_api_Map) (x27 : Int) (y70 : Bool) : windroseref08_May.j71 (k + 1) x0_ x27 y70 = (if y70 = true then (some false) else (windroseref08_May.l28 k x0_ (w64 (x27 + 1)))) := by kernel_rfl
def windroseref08_May.f (k : Nat) (x0_ : T_api_Map) : Option Bool := if x0_.f0 < 0 then (windroseref08_May.j18 k x0_ true) else (if x0_.f0 ≥ 2147483648 then (windroseref08_May.j18 k x0_ true) else (if x0_.f1 < 1 then (windroseref08_May.j18 k x0_ true) else (if x0_.f1 > 3 then (windroseref08_May.j18 k x0_ true) else (if x0_.f2 < 1 then (windroseref08_May.j18 k x0_ true) else (if x0_.f2 > x0_.f1 then (windroseref08_May.j18 k x0_ true) else (if x0_.f3 < 1 then (windroseref08_May.j18 k x0_ true) else (if x0_.f3 > 8 then (windroseref08_May.j18 k x0_ true) else ((windroseref06_May.f k x0_.f4).bind fun t15 => (windroseref08_May.j18 k x0_ (!t15))))))))))
def windroseref08_May.Post (W F : World) (r : Bool) (v : Value) (w' : World) : Prop := ∃ (F' : World), v = .bool r ∧ St W (mine W []) F w' F' []
set_option maxHeartbeats 4000000 in
set_option maxRecDepth 100000 in
theorem windroseref08_May.calls (k : Nat) (x0_ : T_api_Map) (A0_4 : Option Addr) (c0_4 : Nat) (A0_5 : Option Addr) (c0_5 : Nat) (A0_6 : Option Addr) (c0_6 : Nat) (r : Bool) (W F : World) (hown : Sub F W) (g0_4 : Rd T_api_Node.k F A0_4 c0_4 x0_.f4) (g0_5 : Rd T_api_Temp.k F A0_5 c0_5 x0_.f5) (g0_6 : Rd T_api_Trail.k F A0_6 c0_6 x0_.f6) (H : windroseref08_May.f k x0_ = some r) :
    Calls Try.prog 33 #[.agg #[.int .i64 x0_.f0, .int .i64 x0_.f1, .int .i64 x0_.f2, .int .i64 x0_.f3, .slice A0_4 x0_.f4.length c0_4, .slice A0_5 x0_.f5.length c0_5, .slice A0_6 x0_.f6.length c0_6]] W fun e w' => ∃ v, e = .returned v ∧ windroseref08_May.Post W F r v w' := by
  have hS := St.start (Own.nil hown)
  unfold windroseref08_May.f at H
  refine enter (n := 113) rfl rfl rfl (Nat.le_of_ble_eq_true rfl) (fun a hE => ?_)
  refine wp_seq_k fun K1 hK1 => ?_
  refine pl0 ?_
  refine ple hE (.bx (t := 78) hS [.int .i64 x0_.f0, .int .i64 x0_.f1, .int .i64 x0_.f2, .int .i64 x0_.f3, .slice A0_4 x0_.f4.length c0_4, .slice A0_5 x0_.f5.length c0_5, .slice A0_6 x0_.f6.length c0_6]) ?_
  rintro _ u3 a ⟨b2, rfl, hb2, hS, hg⟩ hE
  refine plc hE (.r 1 1 .nil) (fun a hE => ?_)
  refine pld ?_
  refine hK1 _ _ ?_
  refine wp_seq_k fun K4 hK4 => ?_
  refine wp_seq_k fun K5 hK5 => ?_
  have J21 : ∀ kq19, kq19 ≤ k → ∀ (G : Nat → Value) (y17 : Bool) (a : Act) (w' : World), Env 113 G a → At G [(1, .pointer (some ⟨b2, 0, none⟩)), (50, .bool y17)] → St W (mine W []) F w' F [box b2 #[.int .i64 x0_.f0, .int .i64 x0_.f1, .int .i64 x0_.f2, .int .i64 x0_.f3, .slice A0_4 x0_.f4.length c0_4, .slice A0_5 x0_.f5.length c0_5, .slice A0_6 x0_.f6.length c0_6] 78] → windroseref08_May.j18 kq19 x0_ y17 = some r → K5 a w' := by
    intro kq19 hkq G y17 a u22 hE hA hS H
    cases kq19 with
    | zero => cases (show none = some r from H)
    | succ k20 =>
      rw [windroseref08_May.j18_s] at H
      obtain ⟨J, hE⟩ := hE.at hA
      refine hK5 _ _ ?_
      by_cases c23 : y17 = true
      · rw [if_pos c23] at H
        replace hE := hE.bt 50 c23
        refine ct hE ?_
        refine wp_seq_k fun K24 hK24 => ?_
        refine pl0 ?_
        refine plc hE (.r 0 1 .nil) (fun a hE => ?_)
        refine pld ?_
        refine hK24 _ _ ?_
        refine wp_ret (then_ret ?_)
        replace hS := hS.tail
        obtain rfl := Option.some.inj H
        exact rt1 hE ⟨_, rfl, _, rfl, hS⟩
      · rw [if_neg c23] at H
        replace hE := hE.bf 50 c23
        refine cf hE ?_
        refine wp_skip ?_
        refine hK4 _ _ ?_
        refine wp_seq_k fun K25 hK25 => ?_
        refine wp_seq_k fun K26 hK26 => ?_
        refine pl0 ?_
        refine plc hE (.r 0 1 .nil) (fun a hE => ?_)
        refine pld ?_
        refine hK26 _ _ ?_
        refine wp_block ?_
        refine wp_loop_ghost (fun kq29 a w' => ∃ (G : Nat → Value) (x27 : Int), kq29 ≤ k20 ∧ Env 113 G a ∧ At G [(1, .pointer (some ⟨b2, 0, none⟩)), (3, .int .i64 x27)] ∧ St W (mine W []) F w' F [box b2 #[.int .i64 x0_.f0, .int .i64 x0_.f1, .int .i64 x0_.f2, .int .i64 x0_.f3, .slice A0_4 x0_.f4.length c0_4, .slice A0_5 x0_.f5.length c0_5, .slice A0_6 x0_.f6.length c0_6] 78] ∧  windroseref08_May.l28 kq29 x0_ x27 = some r) k20 ⟨_, 0, Nat.le_refl _, hE, .of, hS, H⟩ ?_
        rintro kq29 a u31 ⟨G, x27, hkq, hE, hA, hS, H⟩
        cases kq29 with
        | zero => cases (show none = some r from H)
        | succ k30 =>
          rw [windroseref08_May.l28_s] at H
          obtain ⟨J, hE⟩ := hE.at hA
          refine wp_seq_k fun K32 hK32 => ?_
          refine wp_seq_k fun K33 hK33 => ?_
          refine pl0 ?_
          have hb2 := hS.blk_at (i := 0) rfl
          refine plc hE (.r 0 2 <| .b 2 5 hb2 <| .r 3 2 <| .nil) (fun a hE => ?_)
          refine pld ?_
          refine hK33 _ _ ?_
          by_cases c34 : x27 < (x0_.f5.length : Int)
          · rw [if_pos c34] at H
            replace hE := hE.kt 55 c34
            refine ct hE ?_
            refine wp_skip ?_
            refine hK32 _ _ ?_
            refine wp_seq_k fun K35 hK35 => ?_
            refine wp_block ?_
            refine wp_seq_k fun K36 hK36 => ?_
            refine pl0 ?_
            by_cases c37 : 0 ≤ x27 ∧ x27 < (x0_.f5.length : Int)
            rotate_left
            · rw [if_neg c37] at H; cases H
            rw [if_pos c37] at H
            have hE_ := hE
            obtain ⟨ad38, rfl⟩ := g0_5.addr c37.1 c37.2
            replace hE := hE_
            obtain ⟨cs40, ⟨A42, c43, rfl, g44⟩, hc41⟩ := g0_5.el T_api_Temp.z x27 c37.1 c37.2
            refine plc hE (.r 0 1 <| .b 1 5 hb2 <| .r 2 1 <| .x 3 c37 <| .cs 4 (hS.fcs hc41) <| .nil) (fun a hE => ?_)
            refine ple hE (.al (t := 130) hS [.int .i64 0, .slice none 0 0]) ?_
            rintro _ u46 a ⟨b45, rfl, hb45, hS, hg⟩ hE
            refine ple hE (.sto hS [.int .i64 ((nth T_api_Temp.z x0_.f5 x27).f0), .slice A42 (((nth T_api_Temp.z x0_.f5 x27).f1).length) c43]) ?_
            rintro _ u47 a ⟨rfl, hb45, hS, hz⟩ hE
            refine pld ?_
            refine hK36 _ _ ?_
            refine wp_seq_k fun K48 hK48 => ?_
            have J74 : ∀ kq72, kq72 ≤ k30 → ∀ (G : Nat → Value) (y70 : Bool) (a : Act) (w' : World), Env 113 G a → At G [(1, .pointer (some ⟨b2, 0, none⟩)), (3, .int .i64 x27), (110, .bool y70)] → St W (mine W []) F w' F [box b45 #[.int .i64 ((nth T_api_Temp.z x0_.f5 x27).f0), .slice A42 (((nth T_api_Temp.z x0_.f5 x27).f1).length) c43] 130, box b2 #[.int .i64 x0_.f0, .int .i64 x0_.f1, .int .i64 x0_.f2, .int .i64 x0_.f3, .slice A0_4 x0_.f4.length c0_4, .slice (some ad38) x0_.f5.length c0_5, .slice A0_6 x0_.f6.length c0_6] 78] → windroseref08_May.j71 kq72 x0_ x27 y70 = some r → K48 a w' := by
              intro kq72 hkq G y70 a u75 hE hA hS H
              cases kq72 with
              | zero => cases (show none = some r from H)
              | succ k73 =>
                rw [windroseref08_May.j71_s] at H
                obtain ⟨J, hE⟩ := hE.at hA
                refine hK48 _ _ ?_
                by_cases c76 : y70 = true
                · rw [if_pos c76] at H
                  replace hE := hE.bt 110 c76
                  refine ct hE ?_
                  refine wp_seq_k fun K77 hK77 => ?_
                  refine pl0 ?_
                  refine plc hE (.r 0 1 .nil) (fun a hE => ?_)
                  refine pld ?_
                  refine hK77 _ _ ?_
                  refine wp_ret (block_ret (then_ret (then_ret (block_ret (then_ret ?_)))))
                  replace hS := hS.tail
                  replace hS := hS.tail
                  obtain rfl := Option.some.inj H
                  exact rt1 hE ⟨_, rfl, _, rfl, hS⟩
                · rw [if_neg c76] at H
                  replace hE := hE.bf 110 c76
                  refine cf hE ?_
                  refine wp_skip ?_
                  refine hK35 _ _ ?_
                  refine pl0 ?_
                  refine plc hE (.r 0 3 .nil) (fun a hE => ?_)
                  refine pld ?_
                  replace hS := hS.tail
                  exact then_n ⟨k73, by omega, _, (w64 (x27 + 1)), by omega, hE, .of, hS, H⟩
            refine drawn 48 ⟨[], [], fun q => False⟩ mixed rfl (by kernel_rfl) (fun hst => ?_)
            replace hS := hS.drew
            have hb45 := hS.blk_at (i := 0) rfl
            refine mny 44 hst hE (.r 0 1 <| .b 1 0 hb45 <| .r 2 2 <| .nil) (fun a hE => ?_)
            by_cases c49 : (nth T_api_Temp.z x0_.f5 x27).f0 < 0
            · rw [if_pos c49] at H
              replace hE := hE.kt 66 c49
              refine mny 0 hst hE (.r 4 44 .nil) (fun a hE => ?_)
              refine dn ?_
              exact J74 _ (by omega) _ true _ _ hE .of hS H
            · rw [if_neg c49] at H
              replace hE := hE.kf 66 c49
              have hb2 := hS.blk_at (i := 1) rfl
              refine mny 37 hst hE (.r 4 1 <| .b 5 0 hb45 <| .r 6 1 <| .b 7 3 hb2 <| .r 8 3 <| .nil) (fun a hE => ?_)
              by_cases c50 : (nth T_api_Temp.z x0_.f5 x27).f0 ≥ x0_.f3
              · rw [if_pos c50] at H
                replace hE := hE.kt 73 c50
                refine mny 0 hst hE (.r 11 37 .nil) (fun a hE => ?_)
                refine dn ?_
                exact J74 _ (by omega) _ true _ _ hE .of hS H
              · rw [if_neg c50] at H
                replace hE := hE.kf 73 c50
                refine mny 34 hst hE (.r 11 3 .nil) (fun a hE => ?_)
                by_cases c51 : x27 > 0
                · rw [if_pos c51] at H
                  replace hE := hE.kt 76 c51
                  by_cases c52 : 0 ≤ (w64 (x27 - 1)) ∧ (w64 (x27 - 1)) < (x0_.f5.length : Int)
                  rotate_left
                  · rw [if_neg c52] at H; cases H
                  rw [if_pos c52] at H
                  obtain ⟨cs54, ⟨A56, c57, rfl, g58⟩, hc55⟩ := g0_5.el T_api_Temp.z (w64 (x27 - 1)) c52.1 c52.2
                  refine mny 21 hst hE (.r 14 1 <| .b 15 5 hb2 <| .r 16 2 <| .x 18 c52 <| .r 19 1 <| .c 20 (hS.fc hc55 0) <| .r 21 1 <| .b 22 0 hb45 <| .r 23 4 <| .nil) (fun a hE => ?_)
                  by_cases c59 : (nth T_api_Temp.z x0_.f5 (w64 (x27 - 1))).f0 ≥ (nth T_api_Temp.z x0_.f5 x27).f0
                  · rw [if_pos c59] at H
                    replace hE := hE.kt 89 c59
                    refine mny 0 hst hE (.r 27 21 .nil) (fun a hE => ?_)
                    refine dn ?_
                    exact J74 _ (by omega) _ true _ _ hE .of hS H
                  · rw [if_neg c59] at H
                    replace hE := hE.kf 89 c59
                    refine mny 15 hst hE (.r 27 1 <| .b 28 1 hb45 <| .r 29 4 <| .nil) (fun a hE => ?_)
                    by_cases c60 : (((nth T_api_Temp.z x0_.f5 x27).f1).length : Int) < 1
                    · rw [if_pos c60] at H
                      replace hE := hE.kt 95 c60
                      refine mny 0 hst hE (.r 33 15 .nil) (fun a hE => ?_)
                      refine dn ?_
                      exact J74 _ (by omega) _ true _ _ hE .of hS H
                    · rw [if_neg c60] at H
                      replace hE := hE.kf 95 c60
                      refine mny 7 hst hE (.r 33 1 <| .b 34 1 hb45 <| .r 35 2 <| .b 37 1 hb2 <| .r 38 3 <| .nil) (fun a hE => ?_)
                      by_cases c61 : (((nth T_api_Temp.z x0_.f5 x27).f1).length : Int) > x0_.f1
                      · rw [if_pos c61] at H
                        replace hE := hE.kt 103 c61
                        refine mny 0 hst hE (.r 41 7 .nil) (fun a hE => ?_)
                        refine dn ?_
                        exact J74 _ (by omega) _ true _ _ hE .of hS H
                      · rw [if_neg c61] at H
                        replace hE := hE.kf 103 c61
                        refine mny 3 hst hE (.r 41 1 <| .b 42 4 hb2 <| .r 43 1 <| .b 44 1 hb45 <| .nil) (fun a hE => ?_)
                        obtain ⟨t63, h64, H⟩ := Option.bind_eq_some_iff.mp H
                        refine on1 45 hE (.cl en50 (windroseref06_Apart.calls k30 x0_.f4 ((nth T_api_Temp.z x0_.f5 x27).f1) _ _ _ _ _ _ _ hS.own.sub g0_4 g44 h64)) ?_
                        rintro _ u62 a ⟨_, rfl, hC⟩ hE
                        refine ⟨.of hC.agr, ?_⟩
                        replace hS := hS.lent hC
                        refine mny 0 hst hE (.r 46 2 .nil) (fun a hE => ?_)
                        refine dn ?_
                        exact J74 _ (by omega) _ (!t63) _ _ hE .of hS H
                · rw [if_neg c51] at H
                  replace hE := hE.kf 76 c51
                  refine mny 15 hst hE (.r 14 14 <| .b 28 1 hb45 <| .r 29 4 <| .nil) (fun a hE => ?_)
                  by_cases c65 : (((nth T_api_Temp.z x0_.f5 x27).f1).length : Int) < 1
                  · rw [if_pos c65] at H
                    replace hE := hE.kt 95 c65
                    refine mny 0 hst hE (.r 33 15 .nil) (fun a hE => ?_)
                    refine dn ?_
                    exact J74 _ (by omega) _ true _ _ hE .of hS H
                  · rw [if_neg c65] at H
                    replace hE := hE.kf 95 c65
                    refine mny 7 hst hE (.r 33 1 <| .b 34 1 hb45 <| .r 35 2 <| .b 37 1 hb2 <| .r 38 3 <| .nil) (fun a hE => ?_)
                    by_cases c66 : (((nth T_api_Temp.z x0_.f5 x27).f1).length : Int) > x0_.f1
                    · rw [if_pos c66] at H
                      replace hE := hE.kt 103 c66
                      refine mny 0 hst hE (.r 41 7 .nil) (fun a hE => ?_)
                      refine dn ?_
                      exact J74 _ (by omega) _ true _ _ hE .of hS H
                    · rw [if_neg c66] at H
                      replace hE := hE.kf 103 c66
                      refine mny 3 hst hE (.r 41 1 <| .b 42 4 hb2 <| .r 43 1 <| .b 44 1 hb45 <| .nil) (fun a hE => ?_)
                      obtain ⟨t68, h69, H⟩ := Option.bind_eq_some_iff.mp H
                      refine on1 45 hE (.cl en50 (windroseref06_Apart.calls k30 x0_.f4 ((nth T_api_Temp.z x0_.f5 x27).f1) _ _ _ _ _ _ _ hS.own.sub g0_4 g44 h69)) ?_
                      rintro _ u67 a ⟨_, rfl, hC⟩ hE
                      refine ⟨.of hC.agr, ?_⟩
                      replace hS := hS.lent hC
                      refine mny 0 hst hE (.r 46 2 .nil) (fun a hE => ?_)
                      refine dn ?_
                      exact J74 _ (by omega) _ (!t68) _ _ hE .of hS H
          · rw [if_neg c34] at H
            replace hE := hE.kf 55 c34
            refine cf hE ?_
            refine wp_exit ?_
            refine hK25 _ _ ?_
            refine wp_seq_k fun K78 hK78 => ?_
            refine pl0 ?_
            refine plc hE (.bn 0 0 7 hb2 .nil) (fun a hE => ?_)
            obtain ⟨t80, h81, H⟩ := Option.bind_eq_some_iff.mp H
            refine ple hE (.cl en76 (windroseref08_pasts.calls k30 x0_ _ _ _ _ _ _ _ _ _ hS.own.sub g0_4 g0_5 g0_6 h81)) ?_
            rintro _ u79 a ⟨_, rfl, hC⟩ hE
            replace hS := hS.lent hC
            refine plc hE (.r 2 1 .nil) (fun a hE => ?_)
            refine pld ?_
            refine hK78 _ _ ?_
            refine wp_ret ?_
            replace hS := hS.tail
            obtain rfl := Option.some.inj H
            exact rt1 hE ⟨_, rfl, _, rfl, hS⟩
  refine pl0 ?_
  refine plc hE (.r 0 1 <| .b 1 0 hb2 <| .r 2 2 <| .nil) (fun a hE => ?_)
  by_cases c6 : x0_.f0 < 0
  · rw [if_pos c6] at H
    replace hE := hE.kt 8 c6
    refine plc hE (.r 4 42 .nil) (fun a hE => ?_)
    refine pld ?_
    exact J21 _ (by omega) _ true _ _ hE .of hS H
  · rw [if_neg c6] at H
    replace hE := hE.kf 8 c6
    refine plc hE (.r 4 1 <| .b 5 0 hb2 <| .r 6 3 <| .nil) (fun a hE => ?_)
    by_cases c7 : x0_.f0 ≥ 2147483648
    · rw [if_pos c7] at H
      replace hE := hE.kt 13 c7
      refine plc hE (.r 9 37 .nil) (fun a hE => ?_)
      refine pld ?_
      exact J21 _ (by omega) _ true _ _ hE .of hS H
    · rw [if_neg c7] at H
      replace hE := hE.kf 13 c7
      refine plc hE (.r 9 1 <| .b 10 1 hb2 <| .r 11 3 <| .nil) (fun a hE => ?_)
      by_cases c8 : x0_.f1 < 1
      · rw [if_pos c8] at H
        replace hE := hE.kt 18 c8
        refine plc hE (.r 14 32 .nil) (fun a hE => ?_)
        refine pld ?_
        exact J21 _ (by omega) _ true _ _ hE .of hS H
      · rw [if_neg c8] at H
        replace hE := hE.kf 18 c8
        refine plc hE (.r 14 1 <| .b 15 1 hb2 <| .r 16 3 <| .nil) (fun a hE => ?_)
        by_cases c9 : x0_.f1 > 3
        · rw [if_pos c9] at H
          replace hE := hE.kt 23 c9
          refine plc hE (.r 19 27 .nil) (fun a hE => ?_)
          refine pld ?_
          exact J21 _ (by omega) _ true _ _ hE .of hS H
        · rw [if_neg c9] at H
          replace hE := hE.kf 23 c9
          refine plc hE (.r 19 1 <| .b 20 2 hb2 <| .r 21 3 <| .nil) (fun a hE => ?_)
          by_cases c10 : x0_.f2 < 1
          · rw [if_pos c10] at H
            replace hE := hE.kt 28 c10
            refine plc hE (.r 24 22 .nil) (fun a hE => ?_)
            refine pld ?_
            exact J21 _ (by omega) _ true _ _ hE .of hS H
          · rw [if_neg c10] at H
            replace hE := hE.kf 28 c10
            refine plc hE (.r 24 1 <| .b 25 2 hb2 <| .r 26 1 <| .b 27 1 hb2 <| .r 28 3 <| .nil) (fun a hE => ?_)
            by_cases c11 : x0_.f2 > x0_.f1
            · rw [if_pos c11] at H
              replace hE := hE.kt 35 c11
              refine plc hE (.r 31 15 .nil) (fun a hE => ?_)
              refine pld ?_
              exact J21 _ (by omega) _ true _ _ hE .of hS H
            · rw [if_neg c11] at H
              replace hE := hE.kf 35 c11
              refine plc hE (.r 31 1 <| .b 32 3 hb2 <| .r 33 3 <| .nil) (fun a hE => ?_)
              by_cases c12 : x0_.f3 < 1
              · rw [if_pos c12] at H
                replace hE := hE.kt 40 c12
                refine plc hE (.r 36 10 .nil) (fun a hE => ?_)
                refine pld ?_
                exact J21 _ (by omega) _ true _ _ hE .of hS H
              · rw [if_neg c12] at H
                replace hE := hE.kf 40 c12
                refine plc hE (.r 36 1 <| .b 37 3 hb2 <| .r 38 3 <| .nil) (fun a hE => ?_)
                by_cases c13 : x0_.f3 > 8
                · rw [if_pos c13] at H
                  replace hE := hE.kt 45 c13
                  refine plc hE (.r 41 5 .nil) (fun a hE => ?_)
                  refine pld ?_
                  exact J21 _ (by omega) _ true _ _ hE .of hS H
                · rw [if_neg c13] at H
                  replace hE := hE.kf 45 c13
                  refine plc hE (.r 41 1 <| .b 42 4 hb2 <| .nil) (fun a hE => ?_)
                  obtain ⟨t15, h16, H⟩ := Option.bind_eq_some_iff.mp H
                  refine ple hE (.cl en43 (windroseref06_May.calls k x0_.f4 _ _ _ _ _ hS.own.sub g0_4 h16)) ?_
                  rintro _ u14 a ⟨_, rfl, hC⟩ hE
                  replace hS := hS.lent hC
                  refine plc hE (.r 44 2 .nil) (fun a hE => ?_)
                  refine pld ?_
                  exact J21 _ (by omega) _ (!t15) _ _ hE .of hS H

/-! ### windrose/windroseref27.list: function 60 -/
def windroseref27_list.f (x0_ : List Int) : Option (List Int) := if (([(x0_.length : Int)].length : Int) + (x0_.length : Int)) * 8 ≤ 140737488355328 then (some ([(x0_.length : Int)] ++ x0_)) else (none)
def windroseref27_list.Post (W F : World) (r : List Int) (v : Value) (w' : World) : Prop := ∃ (F' : World) (RA0_0 : Option Addr) (rc0_0 : Nat), v = .slice RA0_0 r.length rc0_0 ∧ St W (mine W []) F w' F' [row (Kn.int .i64) 3 (.slice RA0_0 r.length rc0_0) r]
set_option maxHeartbeats 4000000 in
set_option maxRecDepth 100000 in
theorem windroseref27_list.calls (x0_ : List Int) (A0_0 : Option Addr) (c0_0 : Nat) (r : List Int) (W F : World) (hown : Sub F W) (g0_0 : Rd (Kn.int .i64) F A0_0 c0_0 x0_) (H : windroseref27_list.f x0_ = some r) :
    Calls Try.prog 60 #[.slice A0_0 x0_.length c0_0] W fun e w' => ∃ v, e = .returned v ∧ windroseref27_list.Post W F r v w' := by
  have hS := St.start (Own.nil hown)
  unfold windroseref27_list.f at H
  refine enter (n := 8) rfl rfl rfl (Nat.le_of_ble_eq_true rfl) (fun a hE => ?_)
  refine wp_seq_k fun K1 hK1 => ?_
  refine pl0 ?_
  refine plc hE (.r 0 1 .nil) (fun a hE => ?_)
  refine pld ?_
  refine hK1 _ _ ?_
  refine wp_seq_k fun K2 hK2 => ?_
  refine pl0 ?_
  refine plc hE (.r 0 2 .nil) (fun a hE => ?_)
  refine ple hE (.lit (d := (Kn.int .i64)) (e := 3) hS [(x0_.length : Int)] (.cons rfl .nil)) ?_
  rintro _ u3 a ⟨A4, c5, rfl, hS, hg⟩ hE
  refine plc hE (.r 3 1 .nil) (fun a hE => ?_)
  by_cases c7 : (([(x0_.length : Int)].length : Int) + (x0_.length : Int)) * 8 ≤ 140737488355328
  rotate_left
  · rw [if_neg c7] at H; cases H
  rw [if_pos c7] at H
  refine ple hE (.ap (d := (Kn.int .i64)) 8 hS (g0_0.src hS.own.sub) c7 c0_0) ?_
  rintro _ u10 a ⟨A8, c9, rfl, hS, hz⟩ hE
  refine plc hE (.r 5 1 .nil) (fun a hE => ?_)
  refine pld ?_
  refine hK2 _ _ ?_
  refine wp_ret ?_
  obtain rfl := Option.some.inj H
  exact rt1 hE ⟨_, rfl, _, _, _, rfl, hS⟩

/-! ### windrose/windroseref27.bit: function 77 -/
def windroseref27_bit.f (x0_ : Bool) : Option Int := if x0_ = true then (some 1) else (some 0)
def windroseref27_bit.Post (W F : World) (r : Int) (v : Value) (w' : World) : Prop := ∃ (F' : World), v = .int .i64 r ∧ St W (mine W []) F w' F' []
set_option maxHeartbeats 4000000 in
set_option maxRecDepth 100000 in
theorem windroseref27_bit.calls (x0_ : Bool) (r : Int) (W F : World) (hown : Sub F W) (H : windroseref27_bit.f x0_ = some r) :
    Calls Try.prog 77 #[.bool x0_] W fun e w' => ∃ v, e = .returned v ∧ windroseref27_bit.Post W F r v w' := by
  have hS := St.start (Own.nil hown)
  unfold windroseref27_bit.f at H
  refine enter (n := 4) rfl rfl rfl (Nat.le_of_ble_eq_true rfl) (fun a hE => ?_)
  refine wp_seq_k fun K1 hK1 => ?_
  refine pl0 ?_
  refine plc hE (.r 0 1 .nil) (fun a hE => ?_)
  refine pld ?_
  refine hK1 _ _ ?_
  refine wp_seq_k fun K2 hK2 => ?_
  refine wp_seq_k fun K3 hK3 => ?_
  refine pl0 ?_
  refine plc hE (.r 0 1 .nil) (fun a hE => ?_)
  refine pld ?_
  refine hK3 _ _ ?_
  by_cases c4 : x0_ = true
  · rw [if_pos c4] at H
    replace hE := hE.bt 3 c4
    refine ct hE ?_
    refine wp_seq_k fun K5 hK5 => ?_
    refine pl0 ?_
    refine plc hE (.r 0 1 .nil) (fun a hE => ?_)
    refine pld ?_
    refine hK5 _ _ ?_
    refine wp_ret (then_ret ?_)
    obtain rfl := Option.some.inj H
    exact rt1 hE ⟨_, rfl, _, rfl, hS⟩
  · rw [if_neg c4] at H
    replace hE := hE.bf 3 c4
    refine cf hE ?_
    refine wp_skip ?_
    refine hK2 _ _ ?_
    refine wp_seq_k fun K6 hK6 => ?_
    refine pl0 ?_
    refine plc hE (.r 0 1 .nil) (fun a hE => ?_)
    refine pld ?_
    refine hK6 _ _ ?_
    refine wp_ret ?_
    obtain rfl := Option.some.inj H
    exact rt1 hE ⟨_, rfl, _, rfl, hS⟩

/-! ### windrose/windroseref27.Map: function 34 -/
mutual
def windroseref27_Map.l18 : Nat → T_api_Map → List Int → Int → Option T_api_Data
  | 0, _, _, _ => none
  | k + 1, x0_, l16, x17 => if x17 < (x0_.f4.length : Int) then (if 0 ≤ x17 ∧ x17 < (x0_.f4.length : Int) then ((windroseref27_bit.f ((nth T_api_Node.z x0_.f4 x17).f4)).bind fun t36 => ((windroseref27_bit.f ((nth T_api_Node.z x0_.f4 x17).f5)).bind fun t39 => (if ((l16.length : Int) + ((6 : Nat) : Int)) * 8 ≤ 140737488355328 then (windroseref27_Map.l18 k x0_ (l16 ++ [(nth T_api_Node.z x0_.f4 x17).f0, (nth T_api_Node.z x0_.f4 x17).f1, (nth T_api_Node.z x0_.f4 x17).f2, (nth T_api_Node.z x0_.f4 x17).f3, t36, t39]) (w64 (x17 + 1))) else (none)))) else (none)) else (if ((l16.length : Int) + ((1 : Nat) : Int)) * 8 ≤ 140737488355328 then (windroseref27_Map.l66 k x0_ (l16 ++ [(x0_.f5.length : Int)]) 0) else (none))
def windroseref27_Map.l66 : Nat → T_api_Map → List Int → Int → Option T_api_Data
  | 0, _, _, _ => none
  | k + 1, x0_, l63, x64 => if x64 < (x0_.f5.length : Int) then (if 0 ≤ x64 ∧ x64 < (x0_.f5.length : Int) then (if ((l63.length : Int) + ((1 : Nat) : Int)) * 8 ≤ 140737488355328 then ((windroseref27_list.f ((nth T_api_Temp.z x0_.f5 x64).f1)).bind fun t95 => (if (((l63 ++ [(nth T_api_Temp.z x0_.f5 x64).f0]).length : Int) + (t95.length : Int)) * 8 ≤ 140737488355328 then (windroseref27_Map.l66 k x0_ ((l63 ++ [(nth T_api_Temp.z x0_.f5 x64).f0]) ++ t95) (w64 (x64 + 1))) else (none))) else (none)) else (none)) else (windroseref27_Map.l114 k x0_ l63 0)
def windroseref27_Map.l114 : Nat → T_api_Map → List Int → Int → Option T_api_Data
  | 0, _, _, _ => none
  | k + 1, x0_, l111, x112 => if x112 < (x0_.f6.length : Int) then (if 0 ≤ x112 ∧ x112 < (x0_.f6.length : Int) then (if ((l111.length : Int) + ((2 : Nat) : Int)) * 8 ≤ 140737488355328 then (windroseref27_Map.l150 k x0_ x112 (l111 ++ [(nth T_api_Trail.z x0_.f6 x112).f0, (((nth T_api_Trail.z x0_.f6 x112).f1).length : Int)]) 0) else (none)) else (none)) else (some (⟨l111, []⟩ : T_api_Data))
def windroseref27_Map.l150 : Nat → T_api_Map → Int → List Int → Int → Option T_api_Data
  | 0, _, _, _, _ => none
  | k + 1, x0_, x112, l147, x148 => if x148 < (((nth T_api_Trail.z x0_.f6 x112).f1).length : Int) then (if 0 ≤ x148 ∧ x148 < (((nth T_api_Trail.z x0_.f6 x112).f1).length : Int) then (if ((l147.length : Int) + ((1 : Nat) : Int)) * 8 ≤ 140737488355328 then ((windroseref27_list.f ((nth T_api_Span.z ((nth T_api_Trail.z x0_.f6 x112).f1) x148).f1)).bind fun t179 => (if (((l147 ++ [(nth T_api_Span.z ((nth T_api_Trail.z x0_.f6 x112).f1) x148).f0]).length : Int) + (t179.length : Int)) * 8 ≤ 140737488355328 then (windroseref27_Map.l150 k x0_ x112 ((l147 ++ [(nth T_api_Span.z ((nth T_api_Trail.z x0_.f6 x112).f1) x148).f0]) ++ t179) (w64 (x148 + 1))) else (none))) else (none)) else (none)) else (windroseref27_Map.l114 k x0_ l147 (w64 (x112 + 1)))
end
theorem windroseref27_Map.l18_s (k : Nat) (x0_ : T_api_Map) (l16 : List Int) (x17 : Int) : windroseref27_Map.l18 (k + 1) x0_ l16 x17 = (if x17 < (x0_.f4.length : Int) then (if 0 ≤ x17 ∧ x17 < (x0_.f4.length : Int) then ((windroseref27_bit.f ((nth T_api_Node.z x0_.f4 x17).f4)).bind fun t36 => ((windroseref27_bit.f ((nth T_api_Node.z x0_.f4 x17).f5)).bind fun t39 => (if ((l16.length : Int) + ((6 : Nat) : Int)) * 8 ≤ 140737488355328 then (windroseref27_Map.l18 k x0_ (l16 ++ [(nth T_api_Node.z x0_.f4 x17).f0, (nth T_api_Node.z x0_.f4 x17).f1, (nth T_api_Node.z x0_.f4 x17).f2, (nth T_api_Node.z x0_.f4 x17).f3, t36, t39]) (w64 (x17 + 1))) else (none)))) else (none)) else (if ((l16.length : Int) + ((1 : Nat) : Int)) * 8 ≤ 140737488355328 then (windroseref27_Map.l66 k x0_ (l16 ++ [(x0_.f5.length : Int)]) 0) else (none))) := by kernel_rfl
theorem windroseref27_Map.l66_s (k : Nat) (x0_ : T_api_Map) (l63 : List Int) (x64 : Int) : windroseref27_Map.l66 (k + 1) x0_ l63 x64 = (if x64 < (x0_.f5.length : Int) then (if 0 ≤ x64 ∧ x64 < (x0_.f5.length : Int) then (if ((l63.length : Int) + ((1 : Nat) : Int)) * 8 ≤ 140737488355328 then ((windroseref27_list.f ((nth T_api_Temp.z x0_.f5 x64).f1)).bind fun t95 => (if (((l63 ++ [(nth T_api_Temp.z x0_.f5 x64).f0]).length : Int) + (t95.length : Int)) * 8 ≤ 140737488355328 then (windroseref27_Map.l66 k x0_ ((l63 ++ [(nth T_api_Temp.z x0_.f5 x64).f0]) ++ t95) (w64 (x64 + 1))) else (none))) else (none)) else (none)) else (windroseref27_Map.l114 k x0_ l63 0)) := by kernel_rfl
theorem windroseref27_Map.l114_s (k : Nat) (x0_ : T_api_Map) (l111 : List Int) (x112 : Int) : windroseref27_Map.l114 (k + 1) x0_ l111 x112 = (if x112 < (x0_.f6.length : Int) then (if 0 ≤ x112 ∧ x112 < (x0_.f6.length : Int) then (if ((l111.length : Int) + ((2 : Nat) : Int)) * 8 ≤ 140737488355328 then (windroseref27_Map.l150 k x0_ x112 (l111 ++ [(nth T_api_Trail.z x0_.f6 x112).f0, (((nth T_api_Trail.z x0_.f6 x112).f1).length : Int)]) 0) else (none)) else (none)) else (some (⟨l111, []⟩ : T_api_Data))) := by kernel_rfl
theorem windroseref27_Map.l150_s (k : Nat) (x0_ : T_api_Map) (x112 : Int) (l147 : List Int) (x148 : Int) : windroseref27_Map.l150 (k + 1) x0_ x112 l147 x148 = (if x148 < (((nth T_api_Trail.z x0_.f6 x112).f1).length : Int) then (if 0 ≤ x148 ∧ x148 < (((nth T_api_Trail.z x0_.f6 x112).f1).length : Int) then (if ((l147.length : Int) + ((1 : Nat) : Int)) * 8 ≤ 140737488355328 then ((windroseref27_list.f ((nth T_api_Span.z ((nth T_api_Trail.z x0_.f6 x112).f1) x148).f1)).bind fun t179 => (if (((l147 ++ [(nth T_api_Span.z ((nth T_api_Trail.z x0_.f6 x112).f1) x148).f0]).length : Int) + (t179.length : Int)) * 8 ≤ 140737488355328 then (windroseref27_Map.l150 k x0_ x112 ((l147 ++ [(nth T_api_Span.z ((nth T_api_Trail.z x0_.f6 x112).f1) x148).f0]) ++ t179) (w64 (x148 + 1))) else (none))) else (none)) else (none)) else (windroseref27_Map.l114 k x0_ l147 (w64 (x112 + 1)))) := by kernel_rfl
def windroseref27_Map.f (k : Nat) (x0_ : T_api_Map) : Option T_api_Data := windroseref27_Map.l18 k x0_ [x0_.f0, x0_.f1, x0_.f2, x0_.f3, (x0_.f4.length : Int)] 0
def windroseref27_Map.Post (W F : World) (r : T_api_Data) (v : Value) (w' : World) : Prop := ∃ (F' : World) (RA0_0 : Option Addr) (rc0_0 : Nat) (RA0_1 : Option Addr) (rc0_1 : Nat), v = .agg #[.slice RA0_0 r.f0.length rc0_0, .slice RA0_1 r.f1.length rc0_1] ∧ St W (mine W []) F w' F' [row (Kn.int .i64) 3 (.slice RA0_0 r.f0.length rc0_0) r.f0] ∧ Rd Kn.string F' RA0_1 rc0_1 r.f1
set_option maxHeartbeats 4000000 in
set_option maxRecDepth 100000 in
theorem windroseref27_Map.calls (k : Nat) (x0_ : T_api_Map) (A0_4 : Option Addr) (c0_4 : Nat) (A0_5 : Option Addr) (c0_5 : Nat) (A0_6 : Option Addr) (c0_6 : Nat) (r : T_api_Data) (W F : World) (hown : Sub F W) (g0_4 : Rd T_api_Node.k F A0_4 c0_4 x0_.f4) (g0_5 : Rd T_api_Temp.k F A0_5 c0_5 x0_.f5) (g0_6 : Rd T_api_Trail.k F A0_6 c0_6 x0_.f6) (H : windroseref27_Map.f k x0_ = some r) :
    Calls Try.prog 34 #[.agg #[.int .i64 x0_.f0, .int .i64 x0_.f1, .int .i64 x0_.f2, .int .i64 x0_.f3, .slice A0_4 x0_.f4.length c0_4, .slice A0_5 x0_.f5.length c0_5, .slice A0_6 x0_.f6.length c0_6]] W fun e w' => ∃ v, e = .returned v ∧ windroseref27_Map.Post W F r v w' := by
  have hS := St.start (Own.nil hown)
  unfold windroseref27_Map.f at H
  refine enter (n := 129) rfl rfl rfl (Nat.le_of_ble_eq_true rfl) (fun a hE => ?_)
  refine wp_seq_k fun K1 hK1 => ?_
  refine pl0 ?_
  refine ple hE (.bx (t := 78) hS [.int .i64 x0_.f0, .int .i64 x0_.f1, .int .i64 x0_.f2, .int .i64 x0_.f3, .slice A0_4 x0_.f4.length c0_4, .slice A0_5 x0_.f5.length c0_5, .slice A0_6 x0_.f6.length c0_6]) ?_
  rintro _ u3 a ⟨b2, rfl, hb2, hS, hg⟩ hE
  refine ple hE (.al (t := 36) hS [.slice none 0 0, .slice none 0 0]) ?_
  rintro _ u5 a ⟨b4, rfl, hb4, hS, hg⟩ hE
  refine pld ?_
  refine hK1 _ _ ?_
  refine wp_seq_k fun K6 hK6 => ?_
  refine pl0 ?_
  have hb2 := hS.blk_at (i := 1) rfl
  refine plc hE (.r 0 1 <| .b 1 0 hb2 <| .r 2 1 <| .b 3 1 hb2 <| .r 4 1 <| .b 5 2 hb2 <| .r 6 1 <| .b 7 3 hb2 <| .r 8 1 <| .b 9 4 hb2 <| .r 10 1 <| .nil) (fun a hE => ?_)
  refine ple hE (.lit (d := (Kn.int .i64)) (e := 3) hS [x0_.f0, x0_.f1, x0_.f2, x0_.f3, (x0_.f4.length : Int)] (.cons rfl <| .cons rfl <| .cons rfl <| .cons rfl <| .cons rfl .nil)) ?_
  rintro _ u7 a ⟨A8, c9, rfl, hS, hg⟩ hE
  refine plc hE (.r 12 1 .nil) (fun a hE => ?_)
  refine pld ?_
  refine hK6 _ _ ?_
  refine wp_seq_k fun K11 hK11 => ?_
  refine wp_seq_k fun K12 hK12 => ?_
  refine pl0 ?_
  refine plc hE (.r 0 1 .nil) (fun a hE => ?_)
  refine pld ?_
  refine hK12 _ _ ?_
  refine wp_block ?_
  replace hS := hS.front 2 rfl
  replace hS := hS.front 2 rfl
  refine wp_loop_ghost (fun kq19 a w' => ∃ (G : Nat → Value) (A14 : Option Addr) (c15 : Nat) (l16 : List Int) (x17 : Int), kq19 ≤ k ∧ Env 129 G a ∧ At G [(1, .pointer (some ⟨b2, 0, none⟩)), (2, .pointer (some ⟨b4, 0, none⟩)), (3, .slice A14 l16.length c15), (4, .int .i64 x17)] ∧ St W (mine W []) F w' F [box b4 #[.slice none 0 0, .slice none 0 0] 36, box b2 #[.int .i64 x0_.f0, .int .i64 x0_.f1, .int .i64 x0_.f2, .int .i64 x0_.f3, .slice A0_4 x0_.f4.length c0_4, .slice A0_5 x0_.f5.length c0_5, .slice A0_6 x0_.f6.length c0_6] 78, row (Kn.int .i64) 3 (.slice A14 l16.length c15) l16] ∧  windroseref27_Map.l18 kq19 x0_ l16 x17 = some r) k ⟨_, A8, c9, [x0_.f0, x0_.f1, x0_.f2, x0_.f3, (x0_.f4.length : Int)], 0, Nat.le_refl _, hE, .of, hS, H⟩ ?_
  rintro kq19 a u21 ⟨G, A14, c15, l16, x17, hkq, hE, hA, hS, H⟩
  cases kq19 with
  | zero => cases (show none = some r from H)
  | succ k20 =>
    rw [windroseref27_Map.l18_s] at H
    obtain ⟨J, hE⟩ := hE.at hA
    refine wp_seq_k fun K22 hK22 => ?_
    refine wp_seq_k fun K23 hK23 => ?_
    refine pl0 ?_
    have hb2 := hS.blk_at (i := 1) rfl
    refine plc hE (.r 0 2 <| .b 2 4 hb2 <| .r 3 2 <| .nil) (fun a hE => ?_)
    refine pld ?_
    refine hK23 _ _ ?_
    by_cases c24 : x17 < (x0_.f4.length : Int)
    · rw [if_pos c24] at H
      replace hE := hE.kt 26 c24
      refine ct hE ?_
      refine wp_skip ?_
      refine hK22 _ _ ?_
      refine wp_seq_k fun K25 hK25 => ?_
      refine wp_block ?_
      refine wp_seq_k fun K26 hK26 => ?_
      refine pl0 ?_
      by_cases c27 : 0 ≤ x17 ∧ x17 < (x0_.f4.length : Int)
      rotate_left
      · rw [if_neg c27] at H; cases H
      rw [if_pos c27] at H
      have hE_ := hE
      obtain ⟨ad28, rfl⟩ := g0_4.addr c27.1 c27.2
      replace hE := hE_
      obtain ⟨cs30, rfl, hc31⟩ := g0_4.el T_api_Node.z x17 c27.1 c27.2
      refine plc hE (.r 0 1 <| .b 1 4 hb2 <| .r 2 1 <| .x 3 c27 <| .cs 4 (hS.fcs hc31) <| .nil) (fun a hE => ?_)
      refine ple hE (.al (t := 102) hS [.int .i64 0, .int .i64 0, .int .i64 0, .int .i64 0, .bool false, .bool false]) ?_
      rintro _ u33 a ⟨b32, rfl, hb32, hS, hg⟩ hE
      refine ple hE (.sto hS [.int .i64 ((nth T_api_Node.z x0_.f4 x17).f0), .int .i64 ((nth T_api_Node.z x0_.f4 x17).f1), .int .i64 ((nth T_api_Node.z x0_.f4 x17).f2), .int .i64 ((nth T_api_Node.z x0_.f4 x17).f3), .bool ((nth T_api_Node.z x0_.f4 x17).f4), .bool ((nth T_api_Node.z x0_.f4 x17).f5)]) ?_
      rintro _ u34 a ⟨rfl, hb32, hS, hz⟩ hE
      refine pld ?_
      refine hK26 _ _ ?_
      refine drawn 18 ⟨[16], [], fun q => False⟩ mixed rfl (by kernel_rfl) (fun hst => ?_)
      replace hS := hS.drew
      have hb32 := hS.blk_at (i := 0) rfl
      refine mny 5 hst hE (.r 0 2 <| .b 2 0 hb32 <| .r 3 1 <| .b 4 1 hb32 <| .r 5 1 <| .b 6 2 hb32 <| .r 7 1 <| .b 8 3 hb32 <| .r 9 1 <| .b 10 4 hb32 <| .r 12 1 <| .b 13 5 hb32 <| .nil) (fun a hE => ?_)
      obtain ⟨t36, h37, H⟩ := Option.bind_eq_some_iff.mp H
      refine on1 11 hE (.cl en77 (windroseref27_bit.calls ((nth T_api_Node.z x0_.f4 x17).f4) _ _ _ hS.own.sub h37)) ?_
      rintro _ u35 a ⟨_, rfl, hC⟩ hE
      refine ⟨.of hC.agr, ?_⟩
      replace hS := hS.lent hC
      obtain ⟨t39, h40, H⟩ := Option.bind_eq_some_iff.mp H
      refine on1 14 hE (.cl en77 (windroseref27_bit.calls ((nth T_api_Node.z x0_.f4 x17).f5) _ _ _ hS.own.sub h40)) ?_
      rintro _ u38 a ⟨_, rfl, hC⟩ hE
      refine ⟨.of hC.agr, ?_⟩
      replace hS := hS.lent hC
      refine on1 15 hE (.lit (d := (Kn.int .i64)) (e := 3) hS [(nth T_api_Node.z x0_.f4 x17).f0, (nth T_api_Node.z x0_.f4 x17).f1, (nth T_api_Node.z x0_.f4 x17).f2, (nth T_api_Node.z x0_.f4 x17).f3, t36, t39] (.cons rfl <| .cons rfl <| .cons rfl <| .cons rfl <| .cons rfl <| .cons rfl .nil)) ?_
      rintro _ u41 a ⟨A42, c43, rfl, hS, hg⟩ hE
      refine ⟨.of hg, ?_⟩
      by_cases c45 : ((l16.length : Int) + ((6 : Nat) : Int)) * 8 ≤ 140737488355328
      rotate_left
      · rw [if_neg c45] at H; cases H
      rw [if_pos c45] at H
      replace hS := hS.front 4 rfl
      refine on1 16 hE (.ap (d := (Kn.int .i64)) 8 hS (row_src (hS.row_at (i := 1) rfl)) c45 c43) ?_
      rintro _ u48 a ⟨A46, c47, rfl, hS, hz⟩ hE
      refine ⟨.d, ?_⟩
      refine mny 0 hst hE (.r 17 1 .nil) (fun a hE => ?_)
      refine dn ?_
      refine hK25 _ _ ?_
      refine pl0 ?_
      refine plc hE (.r 0 3 .nil) (fun a hE => ?_)
      refine pld ?_
      replace hS := hS.front 1 rfl
      replace hS := hS.tail
      replace hS := hS.front 1 rfl
      replace hS := hS.tail
      replace hS := hS.front 2 rfl
      replace hS := hS.front 2 rfl
      exact then_n ⟨k20, by omega, _, A46, c47, (l16 ++ [(nth T_api_Node.z x0_.f4 x17).f0, (nth T_api_Node.z x0_.f4 x17).f1, (nth T_api_Node.z x0_.f4 x17).f2, (nth T_api_Node.z x0_.f4 x17).f3, t36, t39]), (w64 (x17 + 1)), by omega, hE, .of, hS, H⟩
    · rw [if_neg c24] at H
      replace hE := hE.kf 26 c24
      refine cf hE ?_
      refine wp_exit ?_
      refine hK11 _ _ ?_
      refine wp_seq_k fun K49 hK49 => ?_
      refine pl0 ?_
      refine plc hE (.r 0 2 <| .b 2 5 hb2 <| .r 3 1 <| .nil) (fun a hE => ?_)
      refine ple hE (.lit (d := (Kn.int .i64)) (e := 3) hS [(x0_.f5.length : Int)] (.cons rfl .nil)) ?_
      rintro _ u50 a ⟨A51, c52, rfl, hS, hg⟩ hE
      by_cases c54 : ((l16.length : Int) + ((1 : Nat) : Int)) * 8 ≤ 140737488355328
      rotate_left
      · rw [if_neg c54] at H; cases H
      rw [if_pos c54] at H
      replace hS := hS.front 3 rfl
      refine ple hE (.ap (d := (Kn.int .i64)) 8 hS (row_src (hS.row_at (i := 1) rfl)) c54 c52) ?_
      rintro _ u57 a ⟨A55, c56, rfl, hS, hz⟩ hE
      refine plc hE (.r 6 1 .nil) (fun a hE => ?_)
      refine pld ?_
      refine hK49 _ _ ?_
      refine wp_seq_k fun K58 hK58 => ?_
      refine wp_seq_k fun K59 hK59 => ?_
      refine pl0 ?_
      refine plc hE (.r 0 1 .nil) (fun a hE => ?_)
      refine pld ?_
      refine hK59 _ _ ?_
      refine wp_block ?_
      replace hS := hS.front 1 rfl
      replace hS := hS.tail
      replace hS := hS.front 2 rfl
      replace hS := hS.front 2 rfl
      refine wp_loop_ghost (fun kq67 a w' => ∃ (G : Nat → Value) (A61 : Option Addr) (c62 : Nat) (l63 : List Int) (x64 : Int) (F65 : World), kq67 ≤ k20 ∧ Env 129 G a ∧ At G [(1, .pointer (some ⟨b2, 0, none⟩)), (2, .pointer (some ⟨b4, 0, none⟩)), (3, .slice A61 l63.length c62), (6, .int .i64 x64)] ∧ St W (mine W []) F w' F65 [box b4 #[.slice none 0 0, .slice none 0 0] 36, box b2 #[.int .i64 x0_.f0, .int .i64 x0_.f1, .int .i64 x0_.f2, .int .i64 x0_.f3, .slice A0_4 x0_.f4.length c0_4, .slice A0_5 x0_.f5.length c0_5, .slice A0_6 x0_.f6.length c0_6] 78, row (Kn.int .i64) 3 (.slice A61 l63.length c62) l63] ∧ Rd T_api_Node.k F65 A0_4 c0_4 x0_.f4 ∧ Rd T_api_Temp.k F65 A0_5 c0_5 x0_.f5 ∧ Rd T_api_Trail.k F65 A0_6 c0_6 x0_.f6 ∧  windroseref27_Map.l66 kq67 x0_ l63 x64 = some r) k20 ⟨_, A55, c56, (l16 ++ [(x0_.f5.length : Int)]), 0, F, Nat.le_refl _, hE, .of, hS, g0_4, g0_5, g0_6, H⟩ ?_
      rintro kq67 a u69 ⟨G, A61, c62, l63, x64, F65, hkq, hE, hA, hS, g0_4, g0_5, g0_6, H⟩
      cases kq67 with
      | zero => cases (show none = some r from H)
      | succ k68 =>
        rw [windroseref27_Map.l66_s] at H
        obtain ⟨J, hE⟩ := hE.at hA
        refine wp_seq_k fun K70 hK70 => ?_
        refine wp_seq_k fun K71 hK71 => ?_
        refine pl0 ?_
        have hb2 := hS.blk_at (i := 1) rfl
        refine plc hE (.r 0 2 <| .b 2 5 hb2 <| .r 3 2 <| .nil) (fun a hE => ?_)
        refine pld ?_
        refine hK71 _ _ ?_
        by_cases c72 : x64 < (x0_.f5.length : Int)
        · rw [if_pos c72] at H
          replace hE := hE.kt 61 c72
          refine ct hE ?_
          refine wp_skip ?_
          refine hK70 _ _ ?_
          refine wp_seq_k fun K73 hK73 => ?_
          refine wp_block ?_
          refine wp_seq_k fun K74 hK74 => ?_
          refine pl0 ?_
          by_cases c75 : 0 ≤ x64 ∧ x64 < (x0_.f5.length : Int)
          rotate_left
          · rw [if_neg c75] at H; cases H
          rw [if_pos c75] at H
          have hE_ := hE
          obtain ⟨ad76, rfl⟩ := g0_5.addr c75.1 c75.2
          replace hE := hE_
          obtain ⟨cs78, ⟨A80, c81, rfl, g82⟩, hc79⟩ := g0_5.el T_api_Temp.z x64 c75.1 c75.2
          refine plc hE (.r 0 2 <| .b 2 5 hb2 <| .r 3 1 <| .x 4 c75 <| .r 5 1 <| .c 6 (hS.fc hc79 0) <| .nil) (fun a hE => ?_)
          refine ple hE (.lit (d := (Kn.int .i64)) (e := 3) hS [(nth T_api_Temp.z x0_.f5 x64).f0] (.cons rfl .nil)) ?_
          rintro _ u83 a ⟨A84, c85, rfl, hS, hg⟩ hE
          by_cases c87 : ((l63.length : Int) + ((1 : Nat) : Int)) * 8 ≤ 140737488355328
          rotate_left
          · rw [if_neg c87] at H; cases H
          rw [if_pos c87] at H
          replace hS := hS.front 3 rfl
          refine ple hE (.ap (d := (Kn.int .i64)) 8 hS (row_src (hS.row_at (i := 1) rfl)) c87 c85) ?_
          rintro _ u90 a ⟨A88, c89, rfl, hS, hz⟩ hE
          refine plc hE (.r 9 1 .nil) (fun a hE => ?_)
          refine pld ?_
          refine hK74 _ _ ?_
          refine pl0 ?_
          have hb2 := hS.blk_at (i := 3) rfl
          refine plc hE (.r 0 2 <| .b 2 5 hb2 <| .r 3 1 <| .x 4 c75 <| .r 5 1 <| .c 6 (hS.fc hc79 1) <| .nil) (fun a hE => ?_)
          obtain ⟨t95, h96, H⟩ := Option.bind_eq_some_iff.mp H
          refine ple hE (.cl en60 (windroseref27_list.calls ((nth T_api_Temp.z x0_.f5 x64).f1) _ _ _ _ _ hS.own.sub g82 h96)) ?_
          rintro _ u94 a ⟨F97, A98, c99, rfl, hC⟩ hE
          have hs := hC.sub
          replace hS := hS.called (X := []) hC
          replace g0_5 := g0_5.mono hs
          replace g82 := g82.mono hs
          replace g0_4 := g0_4.mono hs
          replace g0_6 := g0_6.mono hs
          by_cases c102 : (((l63 ++ [(nth T_api_Temp.z x0_.f5 x64).f0]).length : Int) + (t95.length : Int)) * 8 ≤ 140737488355328
          rotate_left
          · rw [if_neg c102] at H; cases H
          rw [if_pos c102] at H
          replace hS := hS.front 1 rfl
          refine ple hE (.ap (d := (Kn.int .i64)) 8 hS (row_src (hS.row_at (i := 1) rfl)) c102 c99) ?_
          rintro _ u105 a ⟨A103, c104, rfl, hS, hz⟩ hE
          refine plc hE (.r 9 1 .nil) (fun a hE => ?_)
          refine pld ?_
          refine hK73 _ _ ?_
          refine pl0 ?_
          refine plc hE (.r 0 3 .nil) (fun a hE => ?_)
          refine pld ?_
          replace hS := hS.front 1 rfl
          replace hS := hS.tail
          replace hS := hS.front 1 rfl
          replace hS := hS.tail
          replace hS := hS.front 2 rfl
          replace hS := hS.front 2 rfl
          exact then_n ⟨k68, by omega, _, A103, c104, ((l63 ++ [(nth T_api_Temp.z x0_.f5 x64).f0]) ++ t95), (w64 (x64 + 1)), F97, by omega, hE, .of, hS, g0_4, g0_5, g0_6, H⟩
        · rw [if_neg c72] at H
          replace hE := hE.kf 61 c72
          refine cf hE ?_
          refine wp_exit ?_
          refine hK58 _ _ ?_
          refine wp_seq_k fun K106 hK106 => ?_
          refine wp_seq_k fun K107 hK107 => ?_
          refine pl0 ?_
          refine plc hE (.r 0 1 .nil) (fun a hE => ?_)
          refine pld ?_
          refine hK107 _ _ ?_
          refine wp_block ?_
          refine wp_loop_ghost (fun kq115 a w' => ∃ (G : Nat → Value) (A109 : Option Addr) (c110 : Nat) (l111 : List Int) (x112 : Int) (F113 : World), kq115 ≤ k68 ∧ Env 129 G a ∧ At G [(1, .pointer (some ⟨b2, 0, none⟩)), (2, .pointer (some ⟨b4, 0, none⟩)), (3, .slice A109 l111.length c110), (7, .int .i64 x112)] ∧ St W (mine W []) F w' F113 [box b4 #[.slice none 0 0, .slice none 0 0] 36, box b2 #[.int .i64 x0_.f0, .int .i64 x0_.f1, .int .i64 x0_.f2, .int .i64 x0_.f3, .slice A0_4 x0_.f4.length c0_4, .slice A0_5 x0_.f5.length c0_5, .slice A0_6 x0_.f6.length c0_6] 78, row (Kn.int .i64) 3 (.slice A109 l111.length c110) l111] ∧ Rd T_api_Node.k F113 A0_4 c0_4 x0_.f4 ∧ Rd T_api_Temp.k F113 A0_5 c0_5 x0_.f5 ∧ Rd T_api_Trail.k F113 A0_6 c0_6 x0_.f6 ∧  windroseref27_Map.l114 kq115 x0_ l111 x112 = some r) k68 ⟨_, A61, c62, l63, 0, F65, Nat.le_refl _, hE, .of, hS, g0_4, g0_5, g0_6, H⟩ ?_
          rintro kq115 a u117 ⟨G, A109, c110, l111, x112, F113, hkq, hE, hA, hS, g0_4, g0_5, g0_6, H⟩
          cases kq115 with
          | zero => cases (show none = some r from H)
          | succ k116 =>
            rw [windroseref27_Map.l114_s] at H
            obtain ⟨J, hE⟩ := hE.at hA
            refine wp_seq_k fun K118 hK118 => ?_
            refine wp_seq_k fun K119 hK119 => ?_
            refine pl0 ?_
            have hb2 := hS.blk_at (i := 1) rfl
            refine plc hE (.r 0 2 <| .b 2 6 hb2 <| .r 3 2 <| .nil) (fun a hE => ?_)
            refine pld ?_
            refine hK119 _ _ ?_
            by_cases c120 : x112 < (x0_.f6.length : Int)
            · rw [if_pos c120] at H
              replace hE := hE.kt 86 c120
              refine ct hE ?_
              refine wp_skip ?_
              refine hK118 _ _ ?_
              refine wp_seq_k fun K121 hK121 => ?_
              refine wp_block ?_
              refine wp_seq_k fun K122 hK122 => ?_
              refine pl0 ?_
              by_cases c123 : 0 ≤ x112 ∧ x112 < (x0_.f6.length : Int)
              rotate_left
              · rw [if_neg c123] at H; cases H
              rw [if_pos c123] at H
              have hE_ := hE
              obtain ⟨ad124, rfl⟩ := g0_6.addr c123.1 c123.2
              replace hE := hE_
              obtain ⟨cs126, ⟨A128, c129, rfl, g130⟩, hc127⟩ := g0_6.el T_api_Trail.z x112 c123.1 c123.2
              refine plc hE (.r 0 1 <| .b 1 6 hb2 <| .r 2 1 <| .x 3 c123 <| .cs 4 (hS.fcs hc127) <| .nil) (fun a hE => ?_)
              refine ple hE (.al (t := 133) hS [.int .i64 0, .slice none 0 0]) ?_
              rintro _ u132 a ⟨b131, rfl, hb131, hS, hg⟩ hE
              refine ple hE (.sto hS [.int .i64 ((nth T_api_Trail.z x0_.f6 x112).f0), .slice A128 (((nth T_api_Trail.z x0_.f6 x112).f1).length) c129]) ?_
              rintro _ u133 a ⟨rfl, hb131, hS, hz⟩ hE
              refine pld ?_
              refine hK122 _ _ ?_
              refine wp_seq_k fun K134 hK134 => ?_
              refine pl0 ?_
              refine plc hE (.r 0 2 <| .b 2 0 hb131 <| .r 3 1 <| .b 4 1 hb131 <| .r 5 1 <| .nil) (fun a hE => ?_)
              refine ple hE (.lit (d := (Kn.int .i64)) (e := 3) hS [(nth T_api_Trail.z x0_.f6 x112).f0, (((nth T_api_Trail.z x0_.f6 x112).f1).length : Int)] (.cons rfl <| .cons rfl .nil)) ?_
              rintro _ u135 a ⟨A136, c137, rfl, hS, hg⟩ hE
              by_cases c139 : ((l111.length : Int) + ((2 : Nat) : Int)) * 8 ≤ 140737488355328
              rotate_left
              · rw [if_neg c139] at H; cases H
              rw [if_pos c139] at H
              replace hS := hS.front 4 rfl
              refine ple hE (.ap (d := (Kn.int .i64)) 8 hS (row_src (hS.row_at (i := 1) rfl)) c139 c137) ?_
              rintro _ u142 a ⟨A140, c141, rfl, hS, hz⟩ hE
              refine plc hE (.r 8 1 .nil) (fun a hE => ?_)
              refine pld ?_
              refine hK134 _ _ ?_
              refine wp_seq_k fun K143 hK143 => ?_
              refine pl0 ?_
              refine plc hE (.r 0 1 .nil) (fun a hE => ?_)
              refine pld ?_
              refine hK143 _ _ ?_
              refine wp_block ?_
              replace hS := hS.front 1 rfl
              replace hS := hS.tail
              replace hS := hS.front 3 rfl
              replace hS := hS.front 3 rfl
              replace hS := hS.front 3 rfl
              refine wp_loop_ghost (fun kq151 a w' => ∃ (G : Nat → Value) (A145 : Option Addr) (c146 : Nat) (l147 : List Int) (x148 : Int) (F149 : World), kq151 ≤ k116 ∧ Env 129 G a ∧ At G [(1, .pointer (some ⟨b2, 0, none⟩)), (2, .pointer (some ⟨b4, 0, none⟩)), (3, .slice A145 l147.length c146), (7, .int .i64 x112), (8, .pointer (some ⟨b131, 0, none⟩)), (9, .int .i64 x148)] ∧ St W (mine W []) F w' F149 [box b131 #[.int .i64 ((nth T_api_Trail.z x0_.f6 x112).f0), .slice A128 (((nth T_api_Trail.z x0_.f6 x112).f1).length) c129] 133, box b4 #[.slice none 0 0, .slice none 0 0] 36, box b2 #[.int .i64 x0_.f0, .int .i64 x0_.f1, .int .i64 x0_.f2, .int .i64 x0_.f3, .slice A0_4 x0_.f4.length c0_4, .slice A0_5 x0_.f5.length c0_5, .slice (some ad124) x0_.f6.length c0_6] 78, row (Kn.int .i64) 3 (.slice A145 l147.length c146) l147] ∧ Rd T_api_Span.k F149 A128 c129 ((nth T_api_Trail.z x0_.f6 x112).f1) ∧ Rd T_api_Node.k F149 A0_4 c0_4 x0_.f4 ∧ Rd T_api_Temp.k F149 A0_5 c0_5 x0_.f5 ∧ Rd T_api_Trail.k F149 (some ad124) c0_6 x0_.f6 ∧  windroseref27_Map.l150 kq151 x0_ x112 l147 x148 = some r) k116 ⟨_, A140, c141, (l111 ++ [(nth T_api_Trail.z x0_.f6 x112).f0, (((nth T_api_Trail.z x0_.f6 x112).f1).length : Int)]), 0, F113, Nat.le_refl _, hE, .of, hS, g130, g0_4, g0_5, g0_6, H⟩ ?_
              rintro kq151 a u153 ⟨G, A145, c146, l147, x148, F149, hkq, hE, hA, hS, g130, g0_4, g0_5, g0_6, H⟩
              cases kq151 with
              | zero => cases (show none = some r from H)
              | succ k152 =>
                rw [windroseref27_Map.l150_s] at H
                obtain ⟨J, hE⟩ := hE.at hA
                refine wp_seq_k fun K154 hK154 => ?_
                refine wp_seq_k fun K155 hK155 => ?_
                refine pl0 ?_
                have hb131 := hS.blk_at (i := 0) rfl
                refine plc hE (.r 0 2 <| .b 2 1 hb131 <| .r 3 2 <| .nil) (fun a hE => ?_)
                refine pld ?_
                refine hK155 _ _ ?_
                by_cases c156 : x148 < (((nth T_api_Trail.z x0_.f6 x112).f1).length : Int)
                · rw [if_pos c156] at H
                  replace hE := hE.kt 106 c156
                  refine ct hE ?_
                  refine wp_skip ?_
                  refine hK154 _ _ ?_
                  refine wp_seq_k fun K157 hK157 => ?_
                  refine wp_block ?_
                  refine wp_seq_k fun K158 hK158 => ?_
                  refine pl0 ?_
                  by_cases c159 : 0 ≤ x148 ∧ x148 < (((nth T_api_Trail.z x0_.f6 x112).f1).length : Int)
                  rotate_left
                  · rw [if_neg c159] at H; cases H
                  rw [if_pos c159] at H
                  have hE_ := hE
                  obtain ⟨ad160, rfl⟩ := g130.addr c159.1 c159.2
                  replace hE := hE_
                  obtain ⟨cs162, ⟨A164, c165, rfl, g166⟩, hc163⟩ := g130.el T_api_Span.z x148 c159.1 c159.2
                  refine plc hE (.r 0 2 <| .b 2 1 hb131 <| .r 3 1 <| .x 4 c159 <| .r 5 1 <| .c 6 (hS.fc hc163 0) <| .nil) (fun a hE => ?_)
                  refine ple hE (.lit (d := (Kn.int .i64)) (e := 3) hS [(nth T_api_Span.z ((nth T_api_Trail.z x0_.f6 x112).f1) x148).f0] (.cons rfl .nil)) ?_
                  rintro _ u167 a ⟨A168, c169, rfl, hS, hg⟩ hE
                  by_cases c171 : ((l147.length : Int) + ((1 : Nat) : Int)) * 8 ≤ 140737488355328
                  rotate_left
                  · rw [if_neg c171] at H; cases H
                  rw [if_pos c171] at H
                  replace hS := hS.front 4 rfl
                  refine ple hE (.ap (d := (Kn.int .i64)) 8 hS (row_src (hS.row_at (i := 1) rfl)) c171 c169) ?_
                  rintro _ u174 a ⟨A172, c173, rfl, hS, hz⟩ hE
                  refine plc hE (.r 9 1 .nil) (fun a hE => ?_)
                  refine pld ?_
                  refine hK158 _ _ ?_
                  refine pl0 ?_
                  have hb131 := hS.blk_at (i := 2) rfl
                  refine plc hE (.r 0 2 <| .b 2 1 hb131 <| .r 3 1 <| .x 4 c159 <| .r 5 1 <| .c 6 (hS.fc hc163 1) <| .nil) (fun a hE => ?_)
                  obtain ⟨t179, h180, H⟩ := Option.bind_eq_some_iff.mp H
                  refine ple hE (.cl en60 (windroseref27_list.calls ((nth T_api_Span.z ((nth T_api_Trail.z x0_.f6 x112).f1) x148).f1) _ _ _ _ _ hS.own.sub g166 h180)) ?_
                  rintro _ u178 a ⟨F181, A182, c183, rfl, hC⟩ hE
                  have hs := hC.sub
                  replace hS := hS.called (X := []) hC
                  replace g130 := g130.mono hs
                  replace g166 := g166.mono hs
                  replace g0_4 := g0_4.mono hs
                  replace g0_5 := g0_5.mono hs
                  replace g0_6 := g0_6.mono hs
                  by_cases c186 : (((l147 ++ [(nth T_api_Span.z ((nth T_api_Trail.z x0_.f6 x112).f1) x148).f0]).length : Int) + (t179.length : Int)) * 8 ≤ 140737488355328
                  rotate_left
                  · rw [if_neg c186] at H; cases H
                  rw [if_pos c186] at H
                  replace hS := hS.front 1 rfl
                  refine ple hE (.ap (d := (Kn.int .i64)) 8 hS (row_src (hS.row_at (i := 1) rfl)) c186 c183) ?_
                  rintro _ u189 a ⟨A187, c188, rfl, hS, hz⟩ hE
                  refine plc hE (.r 9 1 .nil) (fun a hE => ?_)
                  refine pld ?_
                  refine hK157 _ _ ?_
                  refine pl0 ?_
                  refine plc hE (.r 0 3 .nil) (fun a hE => ?_)
                  refine pld ?_
                  replace hS := hS.front 1 rfl
                  replace hS := hS.tail
                  replace hS := hS.front 1 rfl
                  replace hS := hS.tail
                  replace hS := hS.front 3 rfl
                  replace hS := hS.front 3 rfl
                  replace hS := hS.front 3 rfl
                  exact then_n ⟨k152, by omega, _, A187, c188, ((l147 ++ [(nth T_api_Span.z ((nth T_api_Trail.z x0_.f6 x112).f1) x148).f0]) ++ t179), (w64 (x148 + 1)), F181, by omega, hE, .of, hS, g130, g0_4, g0_5, g0_6, H⟩
                · rw [if_neg c156] at H
                  replace hE := hE.kf 106 c156
                  refine cf hE ?_
                  refine wp_exit ?_
                  refine hK121 _ _ ?_
                  refine pl0 ?_
                  refine plc hE (.r 0 3 .nil) (fun a hE => ?_)
                  refine pld ?_
                  replace hS := hS.tail
                  exact then_n ⟨k152, by omega, _, A145, c146, l147, (w64 (x112 + 1)), F149, by omega, hE, .of, hS, g0_4, g0_5, g0_6, H⟩
            · rw [if_neg c120] at H
              replace hE := hE.kf 86 c120
              refine cf hE ?_
              refine wp_exit ?_
              refine hK106 _ _ ?_
              refine wp_seq_k fun K190 hK190 => ?_
              refine pl0 ?_
              refine plc hE (.r 0 2 .nil) (fun a hE => ?_)
              refine ple hE (.sto hS [.slice A109 l111.length c110, .slice none 0 0]) ?_
              rintro _ u191 a ⟨rfl, hb4, hS, hz⟩ hE
              refine pld ?_
              refine hK190 _ _ ?_
              refine wp_ret ?_
              replace hS := hS.tail
              replace hS := hS.tail
              obtain rfl := Option.some.inj H
              exact ret1 hE rfl (.cell (by kernel_rfl) (res_blk [.slice A109 l111.length c110, .slice none 0 0] ag36 sz36 hb4 rfl) .nil) ⟨_, rfl, _, _, _, _, _, rfl, hS, (Rd.nil _ _)⟩

/-! ### windrose/windroseref27.take: function 69 -/
def windroseref27_take.f (x0_ : List Int) (x1_ : Int) : Option Int := if x1_ < (x0_.length : Int) then (if 0 ≤ x1_ ∧ x1_ < (x0_.length : Int) then (some (nth 0 x0_ x1_)) else (none)) else (some 0)
def windroseref27_take.Post (W F : World) (r : Int) (v : Value) (w' : World) : Prop := ∃ (F' : World), v = .int .i64 r ∧ St W (mine W []) F w' F' []
set_option maxHeartbeats 4000000 in
set_option maxRecDepth 100000 in
theorem windroseref27_take.calls (x0_ : List Int) (x1_ : Int) (A0_0 : Option Addr) (c0_0 : Nat) (r : Int) (W F : World) (hown : Sub F W) (g0_0 : Rd (Kn.int .i64) F A0_0 c0_0 x0_) (H : windroseref27_take.f x0_ x1_ = some r) :
    Calls Try.prog 69 #[.slice A0_0 x0_.length c0_0, .int .i64 x1_] W fun e w' => ∃ v, e = .returned v ∧ windroseref27_take.Post W F r v w' := by
  have hS := St.start (Own.nil hown)
  unfold windroseref27_take.f at H
  refine enter (n := 13) rfl rfl rfl (Nat.le_of_ble_eq_true rfl) (fun a hE => ?_)
  refine wp_seq_k fun K1 hK1 => ?_
  refine pl0 ?_
  refine plc hE (.r 0 1 .nil) (fun a hE => ?_)
  refine pld ?_
  refine hK1 _ _ ?_
  refine wp_seq_k fun K2 hK2 => ?_
  refine wp_seq_k fun K3 hK3 => ?_
  refine pl0 ?_
  refine plc hE (.r 0 4 .nil) (fun a hE => ?_)
  refine pld ?_
  refine hK3 _ _ ?_
  by_cases c4 : x1_ < (x0_.length : Int)
  · rw [if_pos c4] at H
    replace hE := hE.kt 8 c4
    refine ct hE ?_
    refine wp_seq_k fun K5 hK5 => ?_
    refine pl0 ?_
    by_cases c6 : 0 ≤ x1_ ∧ x1_ < (x0_.length : Int)
    rotate_left
    · rw [if_neg c6] at H; cases H
    rw [if_pos c6] at H
    have hE_ := hE
    obtain ⟨ad7, rfl⟩ := g0_0.addr c6.1 c6.2
    replace hE := hE_
    obtain ⟨cs9, rfl, hc10⟩ := g0_0.el 0 x1_ c6.1 c6.2
    refine plc hE (.r 0 2 <| .x 2 c6 <| .c 3 (hS.fc hc10 0) <| .r 4 1 <| .nil) (fun a hE => ?_)
    refine pld ?_
    refine hK5 _ _ ?_
    refine wp_ret (then_ret ?_)
    obtain rfl := Option.some.inj H
    exact rt1 hE ⟨_, rfl, _, rfl, hS⟩
  · rw [if_neg c4] at H
    replace hE := hE.kf 8 c4
    refine cf hE ?_
    refine wp_skip ?_
    refine hK2 _ _ ?_
    refine wp_seq_k fun K11 hK11 => ?_
    refine pl0 ?_
    refine plc hE (.r 0 1 .nil) (fun a hE => ?_)
    refine pld ?_
    refine hK11 _ _ ?_
    refine wp_ret ?_
    obtain rfl := Option.some.inj H
    exact rt1 hE ⟨_, rfl, _, rfl, hS⟩

/-! ### windrose/windroseref27.nodes: function 70 -/
mutual
def windroseref27_nodes.l18 : Nat → List Int → Int → Int → List Int → Int → Option ((List Int) × Int)
  | 0, _, _, _, _, _ => none
  | k + 1, x0_, x1_, t4, l16, x17 => if x17 < t4 then (windroseref27_nodes.j26 k x0_ x1_ t4 l16 x17 (decide (x17 < 20))) else (windroseref27_nodes.j26 k x0_ x1_ t4 l16 x17 false)
def windroseref27_nodes.j26 : Nat → List Int → Int → Int → List Int → Int → Bool → Option ((List Int) × Int)
  | 0, _, _, _, _, _, _ => none
  | k + 1, x0_, x1_, t4, l16, x17, y25 => if y25 = true then ((windroseref27_take.f x0_ (w64 ((w64 (x1_ + 1)) + x17))).bind fun t34 => (if ((l16.length : Int) + ((1 : Nat) : Int)) * 8 ≤ 140737488355328 then (windroseref27_nodes.l18 k x0_ x1_ t4 (l16 ++ [t34]) (w64 (x17 + 1))) else (none))) else (some (l16, (w64 ((w64 (x1_ + 1)) + (l16.length : Int)))))
end
theorem windroseref27_nodes.l18_s (k : Nat) (x0_ : List Int) (x1_ : Int) (t4 : Int) (l16 : List Int) (x17 : Int) : windroseref27_nodes.l18 (k + 1) x0_ x1_ t4 l16 x17 = (if x17 < t4 then (windroseref27_nodes.j26 k x0_ x1_ t4 l16 x17 (decide (x17 < 20))) else (windroseref27_nodes.j26 k x0_ x1_ t4 l16 x17 false)) := by kernel_rfl
theorem windroseref27_nodes.j26_s (k : Nat) (x0_ : List Int) (x1_ : Int) (t4 : Int) (l16 : List Int) (x17 : Int) (y25 : Bool) : windroseref27_nodes.j26 (k + 1) x0_ x1_ t4 l16 x17 y25 = (if y25 = true then ((windroseref27_take.f x0_ (w64 ((w64 (x1_ + 1)) + x17))).bind fun t34 => (if ((l16.length : Int) + ((1 : Nat) : Int)) * 8 ≤ 140737488355328 then (windroseref27_nodes.l18 k x0_ x1_ t4 (l16 ++ [t34]) (w64 (x17 + 1))) else (none))) else (some (l16, (w64 ((w64 (x1_ + 1)) + (l16.length : Int)))))) := by kernel_rfl
def windroseref27_nodes.f (k : Nat) (x0_ : List Int) (x1_ : Int) : Option ((List Int) × Int) := (windroseref27_take.f x0_ x1_).bind fun t4 => (windroseref27_nodes.l18 k x0_ x1_ t4 ([] : List Int) 0)
def windroseref27_nodes.Post (W F : World) (r : (List Int) × Int) (v : Value) (w' : World) : Prop := ∃ (F' : World) (RA0_0 : Option Addr) (rc0_0 : Nat), v = .tuple #[.slice RA0_0 r.1.length rc0_0, .int .i64 r.2] ∧ St W (mine W []) F w' F' [row (Kn.int .i64) 3 (.slice RA0_0 r.1.length rc0_0) r.1]
set_option maxHeartbeats 4000000 in
set_option maxRecDepth 100000 in
theorem windroseref27_nodes.calls (k : Nat) (x0_ : List Int) (x1_ : Int) (A0_0 : Option Addr) (c0_0 : Nat) (r : (List Int) × Int) (W F : World) (hown : Sub F W) (g0_0 : Rd (Kn.int .i64) F A0_0 c0_0 x0_) (H : windroseref27_nodes.f k x0_ x1_ = some r) :
    Calls Try.prog 70 #[.slice A0_0 x0_.length c0_0, .int .i64 x1_] W fun e w' => ∃ v, e = .returned v ∧ windroseref27_nodes.Post W F r v w' := by
  have hS := St.start (Own.nil hown)
  unfold windroseref27_nodes.f at H
  refine enter (n := 37) rfl rfl rfl (Nat.le_of_ble_eq_true rfl) (fun a hE => ?_)
  refine wp_seq_k fun K1 hK1 => ?_
  refine pl0 ?_
  refine plc hE (.r 0 2 .nil) (fun a hE => ?_)
  refine pld ?_
  refine hK1 _ _ ?_
  refine wp_seq_k fun K2 hK2 => ?_
  refine pl0 ?_
  refine plc hE (.r 0 2 .nil) (fun a hE => ?_)
  obtain ⟨t4, h5, H⟩ := Option.bind_eq_some_iff.mp H
  refine ple hE (.cl en69 (windroseref27_take.calls x0_ x1_ _ _ _ _ _ hS.own.sub g0_0 h5)) ?_
  rintro _ u3 a ⟨_, rfl, hC⟩ hE
  replace hS := hS.lent hC
  refine plc hE (.r 3 1 .nil) (fun a hE => ?_)
  refine pld ?_
  refine hK2 _ _ ?_
  refine wp_seq_k fun K6 hK6 => ?_
  refine pl0 ?_
  refine ple hE (.lit (d := (Kn.int .i64)) (e := 3) hS ([] : List Int) (.nil)) ?_
  rintro _ u7 a ⟨A8, c9, rfl, hS, hg⟩ hE
  refine plc hE (.r 1 1 .nil) (fun a hE => ?_)
  refine pld ?_
  refine hK6 _ _ ?_
  refine wp_seq_k fun K11 hK11 => ?_
  refine wp_seq_k fun K12 hK12 => ?_
  refine pl0 ?_
  refine plc hE (.r 0 1 .nil) (fun a hE => ?_)
  refine pld ?_
  refine hK12 _ _ ?_
  refine wp_block ?_
  refine wp_loop_ghost (fun kq19 a w' => ∃ (G : Nat → Value) (A14 : Option Addr) (c15 : Nat) (l16 : List Int) (x17 : Int), kq19 ≤ k ∧ Env 37 G a ∧ At G [(0, .slice A0_0 x0_.length c0_0), (1, .int .i64 x1_), (6, .int .i64 t4), (7, .slice A14 l16.length c15), (8, .int .i64 x17)] ∧ St W (mine W []) F w' F [row (Kn.int .i64) 3 (.slice A14 l16.length c15) l16] ∧  windroseref27_nodes.l18 kq19 x0_ x1_ t4 l16 x17 = some r) k ⟨_, A8, c9, ([] : List Int), 0, Nat.le_refl _, hE, .of, hS, H⟩ ?_
  rintro kq19 a u21 ⟨G, A14, c15, l16, x17, hkq, hE, hA, hS, H⟩
  cases kq19 with
  | zero => cases (show none = some r from H)
  | succ k20 =>
    rw [windroseref27_nodes.l18_s] at H
    obtain ⟨J, hE⟩ := hE.at hA
    refine wp_seq_k fun K22 hK22 => ?_
    refine wp_seq_k fun K23 hK23 => ?_
    have J29 : ∀ kq27, kq27 ≤ k20 → ∀ (G : Nat → Value) (y25 : Bool) (a : Act) (w' : World), Env 37 G a → At G [(0, .slice A0_0 x0_.length c0_0), (1, .int .i64 x1_), (6, .int .i64 t4), (7, .slice A14 l16.length c15), (8, .int .i64 x17), (19, .bool y25)] → St W (mine W []) F w' F [row (Kn.int .i64) 3 (.slice A14 l16.length c15) l16] → windroseref27_nodes.j26 kq27 x0_ x1_ t4 l16 x17 y25 = some r → K23 a w' := by
      intro kq27 hkq G y25 a u30 hE hA hS H
      cases kq27 with
      | zero => cases (show none = some r from H)
      | succ k28 =>
        rw [windroseref27_nodes.j26_s] at H
        obtain ⟨J, hE⟩ := hE.at hA
        refine hK23 _ _ ?_
        by_cases c31 : y25 = true
        · rw [if_pos c31] at H
          replace hE := hE.bt 19 c31
          refine ct hE ?_
          refine wp_skip ?_
          refine hK22 _ _ ?_
          refine wp_seq_k fun K32 hK32 => ?_
          refine wp_block ?_
          refine pl0 ?_
          refine plc hE (.r 0 6 .nil) (fun a hE => ?_)
          obtain ⟨t34, h35, H⟩ := Option.bind_eq_some_iff.mp H
          refine ple hE (.cl en69 (windroseref27_take.calls x0_ (w64 ((w64 (x1_ + 1)) + x17)) _ _ _ _ _ hS.own.sub g0_0 h35)) ?_
          rintro _ u33 a ⟨_, rfl, hC⟩ hE
          replace hS := hS.lent hC
          refine ple hE (.lit (d := (Kn.int .i64)) (e := 3) hS [t34] (.cons rfl .nil)) ?_
          rintro _ u36 a ⟨A37, c38, rfl, hS, hg⟩ hE
          by_cases c40 : ((l16.length : Int) + ((1 : Nat) : Int)) * 8 ≤ 140737488355328
          rotate_left
          · rw [if_neg c40] at H; cases H
          rw [if_pos c40] at H
          replace hS := hS.front 1 rfl
          refine ple hE (.ap (d := (Kn.int .i64)) 8 hS (row_src (hS.row_at (i := 1) rfl)) c40 c38) ?_
          rintro _ u43 a ⟨A41, c42, rfl, hS, hz⟩ hE
          refine plc hE (.r 9 1 .nil) (fun a hE => ?_)
          refine pld ?_
          refine hK32 _ _ ?_
          refine pl0 ?_
          refine plc hE (.r 0 3 .nil) (fun a hE => ?_)
          refine pld ?_
          replace hS := hS.front 1 rfl
          replace hS := hS.tail
          exact then_n ⟨k28, by omega, _, A41, c42, (l16 ++ [t34]), (w64 (x17 + 1)), by omega, hE, .of, hS, H⟩
        · rw [if_neg c31] at H
          replace hE := hE.bf 19 c31
          refine cf hE ?_
          refine wp_exit ?_
          refine hK11 _ _ ?_
          refine wp_seq_k fun K44 hK44 => ?_
          refine pl0 ?_
          refine plc hE (.r 0 8 .nil) (fun a hE => ?_)
          refine pld ?_
          refine hK44 _ _ ?_
          refine wp_ret ?_
          obtain rfl := Option.some.inj H
          exact rtN hE ⟨_, rfl, _, _, _, rfl, hS⟩
    refine pl0 ?_
    refine plc hE (.r 0 4 .nil) (fun a hE => ?_)
    by_cases c24 : x17 < t4
    · rw [if_pos c24] at H
      replace hE := hE.kt 16 c24
      refine plc hE (.r 4 3 .nil) (fun a hE => ?_)
      refine pld ?_
      exact J29 _ (by omega) _ (decide (x17 < 20)) _ _ hE .of hS H
    · rw [if_neg c24] at H
      replace hE := hE.kf 16 c24
      refine plc hE (.r 4 3 .nil) (fun a hE => ?_)
      refine pld ?_
      exact J29 _ (by omega) _ false _ _ hE .of hS H

end Go.Proofs.Ytihjknnhbgkinaa.SR
