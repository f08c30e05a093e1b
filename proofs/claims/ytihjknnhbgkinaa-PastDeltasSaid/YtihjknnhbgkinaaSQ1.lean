/- Functions of the program, what each computes (written by wip/s/sl.py). -/
import Derived.Test.YtihjknnhbgkinaaSQ0
namespace Go.Proofs.Ytihjknnhbgkinaa.SQ
open Go Go.RowKit Go.Proofs.Ytihjknnhbgkinaa.Sl
set_option linter.unusedVariables false
set_option linter.unusedSimpArgs false
/-! ### windrose/acceptor.in: function 63 -/
def acceptor_in.f (x0_ : Int) (x1_ : Int) (x2_ : Int) : Option Bool := if x0_ ≥ x1_ then (some (decide (x0_ ≤ x2_))) else (some false)
def acceptor_in.Post (W F : World) (r : Bool) (v : Value) (w' : World) : Prop := ∃ (F' : World), v = .bool r ∧ St W (mine W []) F w' F' []
set_option maxHeartbeats 4000000 in
set_option maxRecDepth 100000 in
theorem acceptor_in.calls (x0_ : Int) (x1_ : Int) (x2_ : Int) (r : Bool) (W F : World) (hown : Sub F W) (H : acceptor_in.f x0_ x1_ x2_ = some r) :
    Calls Try.prog 63 #[.int .i64 x0_, .int .i64 x1_, .int .i64 x2_] W fun e w' => ∃ v, e = .returned v ∧ acceptor_in.Post W F r v w' := by
  have hS := St.start (Own.nil hown)
  unfold acceptor_in.f at H
  refine enter (n := 15) rfl rfl rfl (Nat.le_of_ble_eq_true rfl) (fun a hE => ?_)
  refine wp_seq_k fun K1 hK1 => ?_
  refine pl0 ?_
  refine plc hE (.r 0 1 .nil) (fun a hE => ?_)
  refine pld ?_
  refine hK1 _ _ ?_
  refine wp_seq_k fun K2 hK2 => ?_
  refine pl0 ?_
  refine plc hE (.r 0 4 .nil) (fun a hE => ?_)
  by_cases c3 : x0_ ≥ x1_
  · rw [if_pos c3] at H
    replace hE := hE.kt 10 c3
    refine plc hE (.r 4 5 .nil) (fun a hE => ?_)
    refine pld ?_
    refine hK2 _ _ ?_
    refine wp_ret ?_
    obtain rfl := Option.some.inj H
    exact rt1 hE ⟨_, rfl, _, rfl, hS⟩
  · rw [if_neg c3] at H
    replace hE := hE.kf 10 c3
    refine plc hE (.r 4 5 .nil) (fun a hE => ?_)
    refine pld ?_
    refine hK2 _ _ ?_
    refine wp_ret ?_
    obtain rfl := Option.some.inj H
    exact rt1 hE ⟨_, rfl, _, rfl, hS⟩

/-! ### slices.Equal[[]int,int]: function 110 -/
def slices_Equal__int_int.l9 : Nat → List Int → List Int → Int → Option Bool
  | 0, _, _, _ => none
  | k + 1, x0_, x1_, x8 => if x8 < (x0_.length : Int) then (if 0 ≤ x8 ∧ x8 < (x0_.length : Int) then (if 0 ≤ x8 ∧ x8 < (x1_.length : Int) then (if (nth 0 x0_ x8) = (nth 0 x1_ x8) then (slices_Equal__int_int.l9 k x0_ x1_ (w64 (x8 + 1))) else (some false)) else (none)) else (none)) else (some true)
theorem slices_Equal__int_int.l9_s (k : Nat) (x0_ : List Int) (x1_ : List Int) (x8 : Int) : slices_Equal__int_int.l9 (k + 1) x0_ x1_ x8 = (if x8 < (x0_.length : Int) then (if 0 ≤ x8 ∧ x8 < (x0_.length : Int) then (if 0 ≤ x8 ∧ x8 < (x1_.length : Int) then (if (nth 0 x0_ x8) = (nth 0 x1_ x8) then (slices_Equal__int_int.l9 k x0_ x1_ (w64 (x8 + 1))) else (some false)) else (none)) else (none)) else (some true)) := by kernel_rfl
def slices_Equal__int_int.f (k : Nat) (x0_ : List Int) (x1_ : List Int) : Option Bool := if (x0_.length : Int) = (x1_.length : Int) then (slices_Equal__int_int.l9 k x0_ x1_ 0) else (some false)
def slices_Equal__int_int.Post (W F : World) (r : Bool) (v : Value) (w' : World) : Prop := ∃ (F' : World), v = .bool r ∧ St W (mine W []) F w' F' []
set_option maxHeartbeats 4000000 in
set_option maxRecDepth 100000 in
theorem slices_Equal__int_int.calls (k : Nat) (x0_ : List Int) (x1_ : List Int) (A0_0 : Option Addr) (c0_0 : Nat) (A1_0 : Option Addr) (c1_0 : Nat) (r : Bool) (W F : World) (hown : Sub F W) (g0_0 : Rd (Kn.int .i64) F A0_0 c0_0 x0_) (g1_0 : Rd (Kn.int .i64) F A1_0 c1_0 x1_) (H : slices_Equal__int_int.f k x0_ x1_ = some r) :
    Calls Try.prog 110 #[.slice A0_0 x0_.length c0_0, .slice A1_0 x1_.length c1_0] W fun e w' => ∃ v, e = .returned v ∧ slices_Equal__int_int.Post W F r v w' := by
  have hS := St.start (Own.nil hown)
  unfold slices_Equal__int_int.f at H
  refine enter (n := 26) rfl rfl rfl (Nat.le_of_ble_eq_true rfl) (fun a hE => ?_)
  refine wp_seq_k fun K1 hK1 => ?_
  refine pl0 ?_
  refine plc hE (.r 0 1 .nil) (fun a hE => ?_)
  refine pld ?_
  refine hK1 _ _ ?_
  refine wp_seq_k fun K2 hK2 => ?_
  refine wp_seq_k fun K3 hK3 => ?_
  refine pl0 ?_
  refine plc hE (.r 0 5 .nil) (fun a hE => ?_)
  refine pld ?_
  refine hK3 _ _ ?_
  by_cases c4 : (x0_.length : Int) = (x1_.length : Int)
  · rw [if_pos c4] at H
    replace hE := hE.ktn 10 c4
    refine cf hE ?_
    refine wp_skip ?_
    refine hK2 _ _ ?_
    refine wp_seq_k fun K6 hK6 => ?_
    refine wp_seq_k fun K7 hK7 => ?_
    refine pl0 ?_
    refine plc hE (.r 0 3 .nil) (fun a hE => ?_)
    refine pld ?_
    refine hK7 _ _ ?_
    refine wp_block ?_
    refine wp_loop_ghost (fun kq10 a w' => ∃ (G : Nat → Value) (x8 : Int), Env 26 G a ∧ At G [(0, .slice A0_0 x0_.length c0_0), (1, .slice A1_0 x1_.length c1_0), (12, .int .i64 (x0_.length : Int)), (13, .int .i64 x8)] ∧ St W (mine W []) F w' F [] ∧  slices_Equal__int_int.l9 kq10 x0_ x1_ x8 = some r) k ⟨_, 0, hE, .of, hS, H⟩ ?_
    rintro kq10 a u12 ⟨G, x8, hE, hA, hS, H⟩
    cases kq10 with
    | zero => cases (show none = some r from H)
    | succ k11 =>
      rw [slices_Equal__int_int.l9_s] at H
      obtain ⟨J, hE⟩ := hE.at hA
      refine wp_seq_k fun K13 hK13 => ?_
      refine pl0 ?_
      refine plc hE (.r 0 1 .nil) (fun a hE => ?_)
      refine pld ?_
      refine hK13 _ _ ?_
      refine wp_seq_k fun K14 hK14 => ?_
      by_cases c15 : x8 < (x0_.length : Int)
      · rw [if_pos c15] at H
        replace hE := hE.kt 14 c15
        refine ct hE ?_
        refine wp_skip ?_
        refine hK14 _ _ ?_
        refine wp_seq_k fun K16 hK16 => ?_
        refine wp_block ?_
        refine wp_seq_k fun K17 hK17 => ?_
        refine pl0 ?_
        refine plc hE (.r 0 2 .nil) (fun a hE => ?_)
        refine pld ?_
        refine hK17 _ _ ?_
        refine wp_seq_k fun K18 hK18 => ?_
        refine drawn 9 [] mixed rfl (by kernel_rfl) (fun hst => ?_)
        replace hS := hS.drew
        by_cases c19 : 0 ≤ x8 ∧ x8 < (x0_.length : Int)
        rotate_left
        · rw [if_neg c19] at H; cases H
        rw [if_pos c19] at H
        obtain ⟨ad20, rfl⟩ := g0_0.addr c19.1 c19.2
        obtain ⟨cs22, rfl, hc23⟩ := g0_0.el 0 x8 c19.1 c19.2
        by_cases c24 : 0 ≤ x8 ∧ x8 < (x1_.length : Int)
        rotate_left
        · rw [if_neg c24] at H; cases H
        rw [if_pos c24] at H
        obtain ⟨ad25, rfl⟩ := g1_0.addr c24.1 c24.2
        obtain ⟨cs27, rfl, hc28⟩ := g1_0.el 0 x8 c24.1 c24.2
        refine mny hst hE (.r 0 2 <| .x 2 c19 <| .c 3 (hS.fc hc23 0) <| .r 4 2 <| .x 6 c24 <| .c 7 (hS.fc hc28 0) <| .r 8 1 <| .nil) (fun a hE => ?_)
        refine dn ?_
        refine hK18 _ _ ?_
        by_cases c29 : (nth 0 x0_ x8) = (nth 0 x1_ x8)
        · rw [if_pos c29] at H
          replace hE := hE.ktn 24 c29
          refine cf hE ?_
          refine wp_skip ?_
          refine hK16 _ _ ?_
          refine pl0 ?_
          refine plc hE (.r 0 2 .nil) (fun a hE => ?_)
          refine pld ?_
          exact then_n ⟨k11, by omega, _, (w64 (x8 + 1)), hE, .of, hS, H⟩
        · rw [if_neg c29] at H
          replace hE := hE.kfn 24 c29
          refine ct hE ?_
          refine wp_seq_k fun K30 hK30 => ?_
          refine pl0 ?_
          refine plc hE (.r 0 1 .nil) (fun a hE => ?_)
          refine pld ?_
          refine hK30 _ _ ?_
          refine wp_ret (block_ret (then_ret (then_ret (block_ret (then_ret ?_)))))
          obtain rfl := Option.some.inj H
          exact rt1 hE ⟨_, rfl, _, rfl, hS⟩
      · rw [if_neg c15] at H
        replace hE := hE.kf 14 c15
        refine cf hE ?_
        refine wp_exit ?_
        refine hK6 _ _ ?_
        refine wp_seq_k fun K31 hK31 => ?_
        refine pl0 ?_
        refine plc hE (.r 0 1 .nil) (fun a hE => ?_)
        refine pld ?_
        refine hK31 _ _ ?_
        refine wp_ret ?_
        obtain rfl := Option.some.inj H
        exact rt1 hE ⟨_, rfl, _, rfl, hS⟩
  · rw [if_neg c4] at H
    replace hE := hE.kfn 10 c4
    refine ct hE ?_
    refine wp_seq_k fun K5 hK5 => ?_
    refine pl0 ?_
    refine plc hE (.r 0 1 .nil) (fun a hE => ?_)
    refine pld ?_
    refine hK5 _ _ ?_
    refine wp_ret (then_ret ?_)
    obtain rfl := Option.some.inj H
    exact rt1 hE ⟨_, rfl, _, rfl, hS⟩

/-! ### windrose/acceptor.SameDelta: function 88 -/
def acceptor_SameDelta.f (k : Nat) (x0_ : T_api_Delta) (x1_ : T_api_Delta) : Option Bool := if x0_.f0 = x1_.f0 then (if x0_.f1 = x1_.f1 then (if x0_.f2 = x1_.f2 then (if x0_.f3 = x1_.f3 then (if x0_.f4 = x1_.f4 then (if x0_.f5 = x1_.f5 then ((slices_Equal__int_int.f k x0_.f6 x1_.f6).bind fun t14 => (some t14)) else (some false)) else (some false)) else (some false)) else (some false)) else (some false)) else (some false)
def acceptor_SameDelta.Post (W F : World) (r : Bool) (v : Value) (w' : World) : Prop := ∃ (F' : World), v = .bool r ∧ St W (mine W []) F w' F' []
set_option maxHeartbeats 4000000 in
set_option maxRecDepth 100000 in
theorem acceptor_SameDelta.calls (k : Nat) (x0_ : T_api_Delta) (x1_ : T_api_Delta) (A0_6 : Option Addr) (c0_6 : Nat) (A1_6 : Option Addr) (c1_6 : Nat) (r : Bool) (W F : World) (hown : Sub F W) (g0_6 : Rd (Kn.int .i64) F A0_6 c0_6 x0_.f6) (g1_6 : Rd (Kn.int .i64) F A1_6 c1_6 x1_.f6) (H : acceptor_SameDelta.f k x0_ x1_ = some r) :
    Calls Try.prog 88 #[.agg #[.int .i64 x0_.f0, .int .i64 x0_.f1, .int .i64 x0_.f2, .int .i64 x0_.f3, .int .i64 x0_.f4, .int .i64 x0_.f5, .slice A0_6 x0_.f6.length c0_6], .agg #[.int .i64 x1_.f0, .int .i64 x1_.f1, .int .i64 x1_.f2, .int .i64 x1_.f3, .int .i64 x1_.f4, .int .i64 x1_.f5, .slice A1_6 x1_.f6.length c1_6]] W fun e w' => ∃ v, e = .returned v ∧ acceptor_SameDelta.Post W F r v w' := by
  have hS := St.start (Own.nil hown)
  unfold acceptor_SameDelta.f at H
  refine enter (n := 52) rfl rfl rfl (Nat.le_of_ble_eq_true rfl) (fun a hE => ?_)
  refine wp_seq_k fun K1 hK1 => ?_
  refine pl0 ?_
  refine ple hE (.bx (t := 33) hS [.int .i64 x0_.f0, .int .i64 x0_.f1, .int .i64 x0_.f2, .int .i64 x0_.f3, .int .i64 x0_.f4, .int .i64 x0_.f5, .slice A0_6 x0_.f6.length c0_6]) ?_
  rintro _ u3 a ⟨b2, rfl, hb2, hS, hg⟩ hE
  refine ple hE (.bx (t := 33) hS [.int .i64 x1_.f0, .int .i64 x1_.f1, .int .i64 x1_.f2, .int .i64 x1_.f3, .int .i64 x1_.f4, .int .i64 x1_.f5, .slice A1_6 x1_.f6.length c1_6]) ?_
  rintro _ u5 a ⟨b4, rfl, hb4, hS, hg⟩ hE
  refine plc hE (.r 2 1 .nil) (fun a hE => ?_)
  refine pld ?_
  refine hK1 _ _ ?_
  refine wp_seq_k fun K6 hK6 => ?_
  refine pl0 ?_
  have hb2 := hS.blk_at (i := 1) rfl
  refine plc hE (.r 0 1 <| .b 1 0 hb2 <| .r 2 1 <| .b 3 0 hb4 <| .r 4 2 <| .nil) (fun a hE => ?_)
  by_cases c7 : x0_.f0 = x1_.f0
  · rw [if_pos c7] at H
    replace hE := hE.kt 10 c7
    refine plc hE (.r 6 1 <| .b 7 1 hb2 <| .r 8 1 <| .b 9 1 hb4 <| .r 10 3 <| .nil) (fun a hE => ?_)
    by_cases c8 : x0_.f1 = x1_.f1
    · rw [if_pos c8] at H
      replace hE := hE.kt 17 c8
      refine plc hE (.r 13 1 <| .b 14 2 hb2 <| .r 15 1 <| .b 16 2 hb4 <| .r 17 3 <| .nil) (fun a hE => ?_)
      by_cases c9 : x0_.f2 = x1_.f2
      · rw [if_pos c9] at H
        replace hE := hE.kt 24 c9
        refine plc hE (.r 20 1 <| .b 21 3 hb2 <| .r 22 1 <| .b 23 3 hb4 <| .r 24 3 <| .nil) (fun a hE => ?_)
        by_cases c10 : x0_.f3 = x1_.f3
        · rw [if_pos c10] at H
          replace hE := hE.kt 31 c10
          refine plc hE (.r 27 1 <| .b 28 4 hb2 <| .r 29 1 <| .b 30 4 hb4 <| .r 31 3 <| .nil) (fun a hE => ?_)
          by_cases c11 : x0_.f4 = x1_.f4
          · rw [if_pos c11] at H
            replace hE := hE.kt 38 c11
            refine plc hE (.r 34 1 <| .b 35 5 hb2 <| .r 36 1 <| .b 37 5 hb4 <| .r 38 3 <| .nil) (fun a hE => ?_)
            by_cases c12 : x0_.f5 = x1_.f5
            · rw [if_pos c12] at H
              replace hE := hE.kt 45 c12
              refine plc hE (.r 41 1 <| .b 42 6 hb2 <| .r 43 1 <| .b 44 6 hb4 <| .nil) (fun a hE => ?_)
              obtain ⟨t14, h15, H⟩ := Option.bind_eq_some_iff.mp H
              refine ple hE (.cl en110 (slices_Equal__int_int.calls k x0_.f6 x1_.f6 _ _ _ _ _ _ _ hS.own.sub g0_6 g1_6 h15)) ?_
              rintro _ u13 a ⟨_, rfl, hC⟩ hE
              replace hS := hS.lent hC
              refine plc hE (.r 46 2 .nil) (fun a hE => ?_)
              refine pld ?_
              refine hK6 _ _ ?_
              refine wp_ret ?_
              replace hS := hS.tail
              replace hS := hS.tail
              obtain rfl := Option.some.inj H
              exact rt1 hE ⟨_, rfl, _, rfl, hS⟩
            · rw [if_neg c12] at H
              replace hE := hE.kf 45 c12
              refine plc hE (.r 41 7 .nil) (fun a hE => ?_)
              refine pld ?_
              refine hK6 _ _ ?_
              refine wp_ret ?_
              replace hS := hS.tail
              replace hS := hS.tail
              obtain rfl := Option.some.inj H
              exact rt1 hE ⟨_, rfl, _, rfl, hS⟩
          · rw [if_neg c11] at H
            replace hE := hE.kf 38 c11
            refine plc hE (.r 34 14 .nil) (fun a hE => ?_)
            refine pld ?_
            refine hK6 _ _ ?_
            refine wp_ret ?_
            replace hS := hS.tail
            replace hS := hS.tail
            obtain rfl := Option.some.inj H
            exact rt1 hE ⟨_, rfl, _, rfl, hS⟩
        · rw [if_neg c10] at H
          replace hE := hE.kf 31 c10
          refine plc hE (.r 27 21 .nil) (fun a hE => ?_)
          refine pld ?_
          refine hK6 _ _ ?_
          refine wp_ret ?_
          replace hS := hS.tail
          replace hS := hS.tail
          obtain rfl := Option.some.inj H
          exact rt1 hE ⟨_, rfl, _, rfl, hS⟩
      · rw [if_neg c9] at H
        replace hE := hE.kf 24 c9
        refine plc hE (.r 20 28 .nil) (fun a hE => ?_)
        refine pld ?_
        refine hK6 _ _ ?_
        refine wp_ret ?_
        replace hS := hS.tail
        replace hS := hS.tail
        obtain rfl := Option.some.inj H
        exact rt1 hE ⟨_, rfl, _, rfl, hS⟩
    · rw [if_neg c8] at H
      replace hE := hE.kf 17 c8
      refine plc hE (.r 13 35 .nil) (fun a hE => ?_)
      refine pld ?_
      refine hK6 _ _ ?_
      refine wp_ret ?_
      replace hS := hS.tail
      replace hS := hS.tail
      obtain rfl := Option.some.inj H
      exact rt1 hE ⟨_, rfl, _, rfl, hS⟩
  · rw [if_neg c7] at H
    replace hE := hE.kf 10 c7
    refine plc hE (.r 6 42 .nil) (fun a hE => ?_)
    refine pld ?_
    refine hK6 _ _ ?_
    refine wp_ret ?_
    replace hS := hS.tail
    replace hS := hS.tail
    obtain rfl := Option.some.inj H
    exact rt1 hE ⟨_, rfl, _, rfl, hS⟩

/-! ### windrose/acceptor.bare: function 89 -/
def acceptor_bare.j34 : Nat → T_api_Delta → Int → Int → Int → Int → Int → List Int → Option T_api_Delta
  | 0, _, _, _, _, _, _, _ => none
  | k + 1, x0_, x25, x26, x27, x28, x29, l32 => some (⟨x0_.f0, x25, x26, x27, x28, x29, l32⟩ : T_api_Delta)
theorem acceptor_bare.j34_s (k : Nat) (x0_ : T_api_Delta) (x25 : Int) (x26 : Int) (x27 : Int) (x28 : Int) (x29 : Int) (l32 : List Int) : acceptor_bare.j34 (k + 1) x0_ x25 x26 x27 x28 x29 l32 = (some (⟨x0_.f0, x25, x26, x27, x28, x29, l32⟩ : T_api_Delta)) := by kernel_rfl
def acceptor_bare.f (k : Nat) (x0_ : T_api_Delta) : Option T_api_Delta := if x0_.f0 = 1 then (acceptor_bare.j34 k x0_ x0_.f1 x0_.f2 x0_.f3 x0_.f4 0 []) else (if x0_.f0 = 2 then (acceptor_bare.j34 k x0_ x0_.f1 0 0 x0_.f4 0 []) else (if x0_.f0 = 8 then (acceptor_bare.j34 k x0_ 0 0 0 0 x0_.f5 x0_.f6) else (if x0_.f0 = 9 then (acceptor_bare.j34 k x0_ 0 0 0 0 0 []) else (if x0_.f0 = 10 then (acceptor_bare.j34 k x0_ 0 0 0 x0_.f4 x0_.f5 []) else (acceptor_bare.j34 k x0_ x0_.f1 0 0 0 0 [])))))
def acceptor_bare.Post (W F : World) (r : T_api_Delta) (v : Value) (w' : World) : Prop := ∃ (F' : World) (RA0_6 : Option Addr) (rc0_6 : Nat), v = .agg #[.int .i64 r.f0, .int .i64 r.f1, .int .i64 r.f2, .int .i64 r.f3, .int .i64 r.f4, .int .i64 r.f5, .slice RA0_6 r.f6.length rc0_6] ∧ St W (mine W []) F w' F' [] ∧ Rd (Kn.int .i64) F' RA0_6 rc0_6 r.f6
set_option maxHeartbeats 4000000 in
set_option maxRecDepth 100000 in
theorem acceptor_bare.calls (k : Nat) (x0_ : T_api_Delta) (A0_6 : Option Addr) (c0_6 : Nat) (r : T_api_Delta) (W F : World) (hown : Sub F W) (g0_6 : Rd (Kn.int .i64) F A0_6 c0_6 x0_.f6) (H : acceptor_bare.f k x0_ = some r) :
    Calls Try.prog 89 #[.agg #[.int .i64 x0_.f0, .int .i64 x0_.f1, .int .i64 x0_.f2, .int .i64 x0_.f3, .int .i64 x0_.f4, .int .i64 x0_.f5, .slice A0_6 x0_.f6.length c0_6]] W fun e w' => ∃ v, e = .returned v ∧ acceptor_bare.Post W F r v w' := by
  have hS := St.start (Own.nil hown)
  unfold acceptor_bare.f at H
  refine enter (n := 47) rfl rfl rfl (Nat.le_of_ble_eq_true rfl) (fun a hE => ?_)
  refine wp_seq_k fun K1 hK1 => ?_
  refine pl0 ?_
  refine ple hE (.bx (t := 33) hS [.int .i64 x0_.f0, .int .i64 x0_.f1, .int .i64 x0_.f2, .int .i64 x0_.f3, .int .i64 x0_.f4, .int .i64 x0_.f5, .slice A0_6 x0_.f6.length c0_6]) ?_
  rintro _ u3 a ⟨b2, rfl, hb2, hS, hg⟩ hE
  refine ple hE (.al (t := 33) hS [.int .i64 0, .int .i64 0, .int .i64 0, .int .i64 0, .int .i64 0, .int .i64 0, .slice none 0 0]) ?_
  rintro _ u5 a ⟨b4, rfl, hb4, hS, hg⟩ hE
  refine pld ?_
  refine hK1 _ _ ?_
  refine wp_seq_k fun K6 hK6 => ?_
  have J37 : ∀ kq35, kq35 ≤ k → ∀ (G : Nat → Value) (x25 : Int) (x26 : Int) (x27 : Int) (x28 : Int) (x29 : Int) (A30 : Option Addr) (c31 : Nat) (l32 : List Int) (a : Act) (w' : World), Env 47 G a → At G [(1, .pointer (some ⟨b2, 0, none⟩)), (2, .pointer (some ⟨b4, 0, none⟩))] → St W (mine W []) F w' F [box b2 #[.int .i64 x0_.f0, .int .i64 x25, .int .i64 x26, .int .i64 x27, .int .i64 x28, .int .i64 x29, .slice A30 l32.length c31] 33, box b4 #[.int .i64 0, .int .i64 0, .int .i64 0, .int .i64 0, .int .i64 0, .int .i64 0, .slice none 0 0] 33] → Rd (Kn.int .i64) F A30 c31 l32 → acceptor_bare.j34 kq35 x0_ x25 x26 x27 x28 x29 l32 = some r → K6 a w' := by
    intro kq35 hkq G x25 x26 x27 x28 x29 A30 c31 l32 a u38 hE hA hS g33 H
    cases kq35 with
    | zero => cases (show none = some r from H)
    | succ k36 =>
      rw [acceptor_bare.j34_s] at H
      obtain ⟨J, hE⟩ := hE.at hA
      refine hK6 _ _ ?_
      refine wp_seq_k fun K39 hK39 => ?_
      refine pl0 ?_
      have hb2 := hS.blk_at (i := 0) rfl
      refine plc hE (.bn 0 0 7 hb2 .nil) (fun a hE => ?_)
      replace hS := hS.front 1 rfl
      refine ple hE (.sto hS [.int .i64 x0_.f0, .int .i64 x25, .int .i64 x26, .int .i64 x27, .int .i64 x28, .int .i64 x29, .slice A30 l32.length c31]) ?_
      rintro _ u40 a ⟨rfl, hb4, hS, hz⟩ hE
      refine pld ?_
      refine hK39 _ _ ?_
      refine wp_ret ?_
      replace hS := hS.tail
      replace hS := hS.tail
      obtain rfl := Option.some.inj H
      exact ret1 hE rfl (.cell (by kernel_rfl) (res_blk [.int .i64 x0_.f0, .int .i64 x25, .int .i64 x26, .int .i64 x27, .int .i64 x28, .int .i64 x29, .slice A30 l32.length c31] ag33 sz33 hb4 rfl) .nil) ⟨_, rfl, _, _, _, rfl, hS, g33⟩
  refine wp_seq_k fun K7 hK7 => ?_
  refine pl0 ?_
  have hb2 := hS.blk_at (i := 1) rfl
  refine plc hE (.r 0 1 <| .b 1 0 hb2 <| .nil) (fun a hE => ?_)
  refine pld ?_
  refine hK7 _ _ ?_
  refine wp_block ?_
  refine wp_seq_k fun K8 hK8 => ?_
  refine pl0 ?_
  refine plc hE (.r 0 2 .nil) (fun a hE => ?_)
  refine pld ?_
  refine hK8 _ _ ?_
  by_cases c9 : x0_.f0 = 1
  · rw [if_pos c9] at H
    replace hE := hE.kt 10 c9
    refine ct hE ?_
    refine pl0 ?_
    refine plc hE (.r 0 1 .nil) (fun a hE => ?_)
    replace hS := hS.front 1 rfl
    refine ple hE (.sto hS [.int .i64 x0_.f0, .int .i64 x0_.f1, .int .i64 x0_.f2, .int .i64 x0_.f3, .int .i64 x0_.f4, .int .i64 0, .slice A0_6 x0_.f6.length c0_6]) ?_
    rintro _ u10 a ⟨rfl, hb2, hS, hz⟩ hE
    refine plc hE (.r 2 1 .nil) (fun a hE => ?_)
    refine ple hE (.sto hS [.int .i64 x0_.f0, .int .i64 x0_.f1, .int .i64 x0_.f2, .int .i64 x0_.f3, .int .i64 x0_.f4, .int .i64 0, .slice none 0 0]) ?_
    rintro _ u11 a ⟨rfl, hb2, hS, hz⟩ hE
    refine pld ?_
    exact J37 _ (by omega) _ x0_.f1 x0_.f2 x0_.f3 x0_.f4 0 none 0 [] _ _ hE .of hS (Rd.nil _ _) H
  · rw [if_neg c9] at H
    replace hE := hE.kf 10 c9
    refine cf hE ?_
    refine wp_seq_k fun K12 hK12 => ?_
    refine pl0 ?_
    refine plc hE (.r 0 2 .nil) (fun a hE => ?_)
    refine pld ?_
    refine hK12 _ _ ?_
    by_cases c13 : x0_.f0 = 2
    · rw [if_pos c13] at H
      replace hE := hE.kt 14 c13
      refine ct hE ?_
      refine pl0 ?_
      refine plc hE (.r 0 1 <| .b 1 0 hb2 <| .r 2 1 <| .b 3 1 hb2 <| .r 4 1 <| .b 5 4 hb2 <| .r 6 1 <| .nil) (fun a hE => ?_)
      replace hS := hS.front 1 rfl
      refine ple hE (.sto hS [.int .i64 x0_.f0, .int .i64 x0_.f1, .int .i64 0, .int .i64 0, .int .i64 x0_.f4, .int .i64 0, .slice none 0 0]) ?_
      rintro _ u14 a ⟨rfl, hb2, hS, hz⟩ hE
      refine pld ?_
      exact J37 _ (by omega) _ x0_.f1 0 0 x0_.f4 0 none 0 [] _ _ hE .of hS (Rd.nil _ _) H
    · rw [if_neg c13] at H
      replace hE := hE.kf 14 c13
      refine cf hE ?_
      refine wp_seq_k fun K15 hK15 => ?_
      refine pl0 ?_
      refine plc hE (.r 0 2 .nil) (fun a hE => ?_)
      refine pld ?_
      refine hK15 _ _ ?_
      by_cases c16 : x0_.f0 = 8
      · rw [if_pos c16] at H
        replace hE := hE.kt 23 c16
        refine ct hE ?_
        refine pl0 ?_
        refine plc hE (.r 0 1 <| .b 1 0 hb2 <| .r 2 1 <| .b 3 5 hb2 <| .r 4 1 <| .b 5 6 hb2 <| .r 6 1 <| .nil) (fun a hE => ?_)
        replace hS := hS.front 1 rfl
        refine ple hE (.sto hS [.int .i64 x0_.f0, .int .i64 0, .int .i64 0, .int .i64 0, .int .i64 0, .int .i64 x0_.f5, .slice A0_6 x0_.f6.length c0_6]) ?_
        rintro _ u17 a ⟨rfl, hb2, hS, hz⟩ hE
        refine pld ?_
        exact J37 _ (by omega) _ 0 0 0 0 x0_.f5 A0_6 c0_6 x0_.f6 _ _ hE .of hS g0_6 H
      · rw [if_neg c16] at H
        replace hE := hE.kf 23 c16
        refine cf hE ?_
        refine wp_seq_k fun K18 hK18 => ?_
        refine pl0 ?_
        refine plc hE (.r 0 2 .nil) (fun a hE => ?_)
        refine pld ?_
        refine hK18 _ _ ?_
        by_cases c19 : x0_.f0 = 9
        · rw [if_pos c19] at H
          replace hE := hE.kt 32 c19
          refine ct hE ?_
          refine pl0 ?_
          refine plc hE (.r 0 1 <| .b 1 0 hb2 <| .r 2 1 <| .nil) (fun a hE => ?_)
          replace hS := hS.front 1 rfl
          refine ple hE (.sto hS [.int .i64 x0_.f0, .int .i64 0, .int .i64 0, .int .i64 0, .int .i64 0, .int .i64 0, .slice none 0 0]) ?_
          rintro _ u20 a ⟨rfl, hb2, hS, hz⟩ hE
          refine pld ?_
          exact J37 _ (by omega) _ 0 0 0 0 0 none 0 [] _ _ hE .of hS (Rd.nil _ _) H
        · rw [if_neg c19] at H
          replace hE := hE.kf 32 c19
          refine cf hE ?_
          refine wp_seq_k fun K21 hK21 => ?_
          refine pl0 ?_
          refine plc hE (.r 0 2 .nil) (fun a hE => ?_)
          refine pld ?_
          refine hK21 _ _ ?_
          by_cases c22 : x0_.f0 = 10
          · rw [if_pos c22] at H
            replace hE := hE.kt 37 c22
            refine ct hE ?_
            refine pl0 ?_
            refine plc hE (.r 0 1 <| .b 1 0 hb2 <| .r 2 1 <| .b 3 5 hb2 <| .r 4 1 <| .b 5 4 hb2 <| .r 6 1 <| .nil) (fun a hE => ?_)
            replace hS := hS.front 1 rfl
            refine ple hE (.sto hS [.int .i64 x0_.f0, .int .i64 0, .int .i64 0, .int .i64 0, .int .i64 x0_.f4, .int .i64 x0_.f5, .slice none 0 0]) ?_
            rintro _ u23 a ⟨rfl, hb2, hS, hz⟩ hE
            refine pld ?_
            exact J37 _ (by omega) _ 0 0 0 x0_.f4 x0_.f5 none 0 [] _ _ hE .of hS (Rd.nil _ _) H
          · rw [if_neg c22] at H
            replace hE := hE.kf 37 c22
            refine cf hE ?_
            refine pl0 ?_
            refine plc hE (.r 0 1 <| .b 1 0 hb2 <| .r 2 1 <| .b 3 1 hb2 <| .r 4 1 <| .nil) (fun a hE => ?_)
            replace hS := hS.front 1 rfl
            refine ple hE (.sto hS [.int .i64 x0_.f0, .int .i64 x0_.f1, .int .i64 0, .int .i64 0, .int .i64 0, .int .i64 0, .slice none 0 0]) ?_
            rintro _ u24 a ⟨rfl, hb2, hS, hz⟩ hE
            refine pld ?_
            exact J37 _ (by omega) _ x0_.f1 0 0 0 0 none 0 [] _ _ hE .of hS (Rd.nil _ _) H

/-! ### windrose/acceptor.CheckDelta: function 55 -/
mutual
def acceptor_CheckDelta.j23 : Nat → T_api_Delta → Bool → Option Int
  | 0, _, _ => none
  | k + 1, x0_, y21 => if y21 = true then (some 1) else (if (([x0_.f1, x0_.f2, x0_.f3, x0_.f4, x0_.f5].length : Int) + (x0_.f6.length : Int)) * 8 ≤ 140737488355328 then (acceptor_CheckDelta.l41 k x0_ 0) else (none))
def acceptor_CheckDelta.l41 : Nat → T_api_Delta → Int → Option Int
  | 0, _, _ => none
  | k + 1, x0_, x40 => if x40 < (([x0_.f1, x0_.f2, x0_.f3, x0_.f4, x0_.f5] ++ x0_.f6).length : Int) then (if 0 ≤ x40 ∧ x40 < (([x0_.f1, x0_.f2, x0_.f3, x0_.f4, x0_.f5] ++ x0_.f6).length : Int) then ((acceptor_in.f (nth 0 ([x0_.f1, x0_.f2, x0_.f3, x0_.f4, x0_.f5] ++ x0_.f6) x40) 0 2147483647).bind fun t58 => (if t58 = true then (acceptor_CheckDelta.l41 k x0_ (w64 (x40 + 1))) else (some 1))) else (none)) else (some 0)
end
theorem acceptor_CheckDelta.j23_s (k : Nat) (x0_ : T_api_Delta) (y21 : Bool) : acceptor_CheckDelta.j23 (k + 1) x0_ y21 = (if y21 = true then (some 1) else (if (([x0_.f1, x0_.f2, x0_.f3, x0_.f4, x0_.f5].length : Int) + (x0_.f6.length : Int)) * 8 ≤ 140737488355328 then (acceptor_CheckDelta.l41 k x0_ 0) else (none))) := by kernel_rfl
theorem acceptor_CheckDelta.l41_s (k : Nat) (x0_ : T_api_Delta) (x40 : Int) : acceptor_CheckDelta.l41 (k + 1) x0_ x40 = (if x40 < (([x0_.f1, x0_.f2, x0_.f3, x0_.f4, x0_.f5] ++ x0_.f6).length : Int) then (if 0 ≤ x40 ∧ x40 < (([x0_.f1, x0_.f2, x0_.f3, x0_.f4, x0_.f5] ++ x0_.f6).length : Int) then ((acceptor_in.f (nth 0 ([x0_.f1, x0_.f2, x0_.f3, x0_.f4, x0_.f5] ++ x0_.f6) x40) 0 2147483647).bind fun t58 => (if t58 = true then (acceptor_CheckDelta.l41 k x0_ (w64 (x40 + 1))) else (some 1))) else (none)) else (some 0)) := by kernel_rfl
def acceptor_CheckDelta.f (k : Nat) (x0_ : T_api_Delta) : Option Int := (acceptor_in.f x0_.f0 1 10).bind fun t7 => (if t7 = true then ((acceptor_bare.f k x0_).bind fun t11 => ((acceptor_SameDelta.f k x0_ t11).bind fun t18 => (if t18 = true then (acceptor_CheckDelta.j23 k x0_ (decide ((x0_.f6.length : Int) > 3))) else (acceptor_CheckDelta.j23 k x0_ true)))) else (acceptor_CheckDelta.j23 k x0_ true))
def acceptor_CheckDelta.Post (W F : World) (r : Int) (v : Value) (w' : World) : Prop := ∃ (F' : World), v = .int .i64 r ∧ St W (mine W []) F w' F' []
set_option maxHeartbeats 4000000 in
set_option maxRecDepth 100000 in
theorem acceptor_CheckDelta.calls (k : Nat) (x0_ : T_api_Delta) (A0_6 : Option Addr) (c0_6 : Nat) (r : Int) (W F : World) (hown : Sub F W) (g0_6 : Rd (Kn.int .i64) F A0_6 c0_6 x0_.f6) (H : acceptor_CheckDelta.f k x0_ = some r) :
    Calls Try.prog 55 #[.agg #[.int .i64 x0_.f0, .int .i64 x0_.f1, .int .i64 x0_.f2, .int .i64 x0_.f3, .int .i64 x0_.f4, .int .i64 x0_.f5, .slice A0_6 x0_.f6.length c0_6]] W fun e w' => ∃ v, e = .returned v ∧ acceptor_CheckDelta.Post W F r v w' := by
  have hS := St.start (Own.nil hown)
  unfold acceptor_CheckDelta.f at H
  refine enter (n := 45) rfl rfl rfl (Nat.le_of_ble_eq_true rfl) (fun a hE => ?_)
  refine wp_seq_k fun K1 hK1 => ?_
  refine pl0 ?_
  refine ple hE (.bx (t := 33) hS [.int .i64 x0_.f0, .int .i64 x0_.f1, .int .i64 x0_.f2, .int .i64 x0_.f3, .int .i64 x0_.f4, .int .i64 x0_.f5, .slice A0_6 x0_.f6.length c0_6]) ?_
  rintro _ u3 a ⟨b2, rfl, hb2, hS, hg⟩ hE
  refine plc hE (.r 1 1 .nil) (fun a hE => ?_)
  refine pld ?_
  refine hK1 _ _ ?_
  refine wp_seq_k fun K4 hK4 => ?_
  refine wp_seq_k fun K5 hK5 => ?_
  have J26 : ∀ kq24, kq24 ≤ k → ∀ (G : Nat → Value) (y21 : Bool) (F22 : World) (a : Act) (w' : World), Env 45 G a → At G [(1, .pointer (some ⟨b2, 0, none⟩)), (21, .bool y21)] → St W (mine W []) F w' F22 [box b2 #[.int .i64 x0_.f0, .int .i64 x0_.f1, .int .i64 x0_.f2, .int .i64 x0_.f3, .int .i64 x0_.f4, .int .i64 x0_.f5, .slice A0_6 x0_.f6.length c0_6] 33] → Rd (Kn.int .i64) F22 A0_6 c0_6 x0_.f6 → acceptor_CheckDelta.j23 kq24 x0_ y21 = some r → K5 a w' := by
    intro kq24 hkq G y21 F22 a u27 hE hA hS g0_6 H
    cases kq24 with
    | zero => cases (show none = some r from H)
    | succ k25 =>
      rw [acceptor_CheckDelta.j23_s] at H
      obtain ⟨J, hE⟩ := hE.at hA
      refine hK5 _ _ ?_
      by_cases c28 : y21 = true
      · rw [if_pos c28] at H
        replace hE := hE.bt 21 c28
        refine ct hE ?_
        refine wp_seq_k fun K29 hK29 => ?_
        refine pl0 ?_
        refine plc hE (.r 0 1 .nil) (fun a hE => ?_)
        refine pld ?_
        refine hK29 _ _ ?_
        refine wp_ret (then_ret ?_)
        replace hS := hS.tail
        obtain rfl := Option.some.inj H
        exact rt1 hE ⟨_, rfl, _, rfl, hS⟩
      · rw [if_neg c28] at H
        replace hE := hE.bf 21 c28
        refine cf hE ?_
        refine wp_skip ?_
        refine hK4 _ _ ?_
        refine wp_seq_k fun K30 hK30 => ?_
        refine wp_seq_k fun K31 hK31 => ?_
        refine pl0 ?_
        have hb2 := hS.blk_at (i := 0) rfl
        refine plc hE (.r 0 1 <| .b 1 1 hb2 <| .r 2 1 <| .b 3 2 hb2 <| .r 4 1 <| .b 5 3 hb2 <| .r 6 1 <| .b 7 4 hb2 <| .r 8 1 <| .b 9 5 hb2 <| .nil) (fun a hE => ?_)
        refine ple hE (.lit (d := (Kn.int .i64)) (e := 3) hS [x0_.f1, x0_.f2, x0_.f3, x0_.f4, x0_.f5] (.cons rfl <| .cons rfl <| .cons rfl <| .cons rfl <| .cons rfl .nil)) ?_
        rintro _ u32 a ⟨A33, c34, rfl, hS, hg⟩ hE
        have hb2 := hS.blk_at (i := 1) rfl
        refine plc hE (.r 11 1 <| .b 12 6 hb2 <| .nil) (fun a hE => ?_)
        by_cases c36 : (([x0_.f1, x0_.f2, x0_.f3, x0_.f4, x0_.f5].length : Int) + (x0_.f6.length : Int)) * 8 ≤ 140737488355328
        rotate_left
        · rw [if_neg c36] at H; cases H
        rw [if_pos c36] at H
        refine ple hE (.ap (d := (Kn.int .i64)) 8 hS (g0_6.src hS.own.sub) c36 c0_6) ?_
        rintro _ u39 a ⟨A37, c38, rfl, hS, hz⟩ hE
        refine plc hE (.r 14 2 .nil) (fun a hE => ?_)
        refine pld ?_
        refine hK31 _ _ ?_
        refine wp_block ?_
        replace hS := hS.front 1 rfl
        refine wp_loop_ghost (fun kq42 a w' => ∃ (G : Nat → Value) (x40 : Int), Env 45 G a ∧ At G [(35, .slice A37 (([x0_.f1, x0_.f2, x0_.f3, x0_.f4, x0_.f5] ++ x0_.f6).length) c38), (36, .int .i64 (([x0_.f1, x0_.f2, x0_.f3, x0_.f4, x0_.f5] ++ x0_.f6).length : Int)), (37, .int .i64 x40)] ∧ St W (mine W []) F w' F22 [box b2 #[.int .i64 x0_.f0, .int .i64 x0_.f1, .int .i64 x0_.f2, .int .i64 x0_.f3, .int .i64 x0_.f4, .int .i64 x0_.f5, .slice A0_6 x0_.f6.length c0_6] 33, row (Kn.int .i64) 3 (.slice A37 (([x0_.f1, x0_.f2, x0_.f3, x0_.f4, x0_.f5] ++ x0_.f6).length) c38) ([x0_.f1, x0_.f2, x0_.f3, x0_.f4, x0_.f5] ++ x0_.f6)] ∧  acceptor_CheckDelta.l41 kq42 x0_ x40 = some r) k25 ⟨_, 0, hE, .of, hS, H⟩ ?_
        rintro kq42 a u44 ⟨G, x40, hE, hA, hS, H⟩
        cases kq42 with
        | zero => cases (show none = some r from H)
        | succ k43 =>
          rw [acceptor_CheckDelta.l41_s] at H
          obtain ⟨J, hE⟩ := hE.at hA
          refine wp_seq_k fun K45 hK45 => ?_
          refine pl0 ?_
          refine plc hE (.r 0 1 .nil) (fun a hE => ?_)
          refine pld ?_
          refine hK45 _ _ ?_
          refine wp_seq_k fun K46 hK46 => ?_
          by_cases c47 : x40 < (([x0_.f1, x0_.f2, x0_.f3, x0_.f4, x0_.f5] ++ x0_.f6).length : Int)
          · rw [if_pos c47] at H
            replace hE := hE.kt 38 c47
            refine ct hE ?_
            refine wp_skip ?_
            refine hK46 _ _ ?_
            refine wp_seq_k fun K48 hK48 => ?_
            refine wp_block ?_
            refine wp_seq_k fun K49 hK49 => ?_
            refine pl0 ?_
            by_cases c50 : 0 ≤ x40 ∧ x40 < (([x0_.f1, x0_.f2, x0_.f3, x0_.f4, x0_.f5] ++ x0_.f6).length : Int)
            rotate_left
            · rw [if_neg c50] at H; cases H
            rw [if_pos c50] at H
            have hr51 := hS.row_at (i := 1) rfl
            obtain ⟨b52, rfl⟩ := row_addr hr51 c50.1 c50.2
            have hr_ := hS.row_at (i := 1) rfl
            obtain ⟨cs54, rfl, hc55⟩ := row_el hr_ 0 x40 c50.1 c50.2
            refine plc hE (.x 0 c50 <| .c 1 (hc55 0 _ rfl) <| .r 2 1 <| .nil) (fun a hE => ?_)
            refine pld ?_
            refine hK49 _ _ ?_
            refine wp_seq_k fun K56 hK56 => ?_
            refine pl0 ?_
            refine plc hE (.r 0 1 .nil) (fun a hE => ?_)
            obtain ⟨t58, h59, H⟩ := Option.bind_eq_some_iff.mp H
            refine ple hE (.cl en63 (acceptor_in.calls (nth 0 ([x0_.f1, x0_.f2, x0_.f3, x0_.f4, x0_.f5] ++ x0_.f6) x40) 0 2147483647 _ _ _ hS.own.sub h59)) ?_
            rintro _ u57 a ⟨_, rfl, hC⟩ hE
            replace hS := hS.lent hC
            refine plc hE (.r 2 1 .nil) (fun a hE => ?_)
            refine pld ?_
            refine hK56 _ _ ?_
            by_cases c60 : t58 = true
            · rw [if_pos c60] at H
              replace hE := hE.btn 43 c60
              refine cf hE ?_
              refine wp_skip ?_
              refine hK48 _ _ ?_
              refine pl0 ?_
              refine plc hE (.r 0 2 .nil) (fun a hE => ?_)
              refine pld ?_
              exact then_n ⟨k43, by omega, _, (w64 (x40 + 1)), hE, .of, hS, H⟩
            · rw [if_neg c60] at H
              replace hE := hE.bfn 43 c60
              refine ct hE ?_
              refine wp_seq_k fun K61 hK61 => ?_
              refine pl0 ?_
              refine plc hE (.r 0 1 .nil) (fun a hE => ?_)
              refine pld ?_
              refine hK61 _ _ ?_
              refine wp_ret (block_ret (then_ret (then_ret (block_ret (then_ret ?_)))))
              replace hS := hS.tail
              replace hS := hS.tail
              obtain rfl := Option.some.inj H
              exact rt1 hE ⟨_, rfl, _, rfl, hS⟩
          · rw [if_neg c47] at H
            replace hE := hE.kf 38 c47
            refine cf hE ?_
            refine wp_exit ?_
            refine hK30 _ _ ?_
            refine wp_seq_k fun K62 hK62 => ?_
            refine pl0 ?_
            refine plc hE (.r 0 1 .nil) (fun a hE => ?_)
            refine pld ?_
            refine hK62 _ _ ?_
            refine wp_ret ?_
            replace hS := hS.tail
            replace hS := hS.tail
            obtain rfl := Option.some.inj H
            exact rt1 hE ⟨_, rfl, _, rfl, hS⟩
  refine drawn 17 [] mixed rfl (by kernel_rfl) (fun hst => ?_)
  replace hS := hS.drew
  have hb2 := hS.blk_at (i := 0) rfl
  refine mny hst hE (.r 0 1 <| .b 1 0 hb2 <| .nil) (fun a hE => ?_)
  obtain ⟨t7, h8, H⟩ := Option.bind_eq_some_iff.mp H
  refine on1 2 hE (.cl en63 (acceptor_in.calls x0_.f0 1 10 _ _ _ hS.own.sub h8)) ?_
  rintro _ u6 a ⟨_, rfl, hC⟩ hE
  refine ⟨fun _ => hC.agr, ?_⟩
  replace hS := hS.lent hC
  refine mny hst hE (.r 3 2 .nil) (fun a hE => ?_)
  by_cases c9 : t7 = true
  · rw [if_pos c9] at H
    replace hE := hE.btn 9 c9
    have hb2 := hS.blk_at (i := 0) rfl
    refine mny hst hE (.bn 5 0 7 hb2 <| .bn 6 0 7 hb2 <| .nil) (fun a hE => ?_)
    obtain ⟨t11, h12, H⟩ := Option.bind_eq_some_iff.mp H
    refine on1 7 hE (.cl en89 (acceptor_bare.calls k x0_ _ _ _ _ _ hS.own.sub g0_6 h12)) ?_
    rintro _ u10 a ⟨F13, A14, c15, rfl, hC, g16⟩ hE
    refine ⟨fun _ => hC.agr, ?_⟩
    have hs := hC.sub
    replace hS := hS.called (X := []) hC
    replace g0_6 := g0_6.mono hs
    obtain ⟨t18, h19, H⟩ := Option.bind_eq_some_iff.mp H
    refine on1 8 hE (.cl en88 (acceptor_SameDelta.calls k x0_ t11 _ _ _ _ _ _ _ hS.own.sub g0_6 g16 h19)) ?_
    rintro _ u17 a ⟨_, rfl, hC⟩ hE
    refine ⟨fun _ => hC.agr, ?_⟩
    replace hS := hS.lent hC
    refine mny hst hE (.r 9 3 .nil) (fun a hE => ?_)
    by_cases c20 : t18 = true
    · rw [if_pos c20] at H
      replace hE := hE.btn 16 c20
      have hb2 := hS.blk_at (i := 0) rfl
      refine mny hst hE (.r 12 1 <| .b 13 6 hb2 <| .r 14 3 <| .nil) (fun a hE => ?_)
      refine dn ?_
      exact J26 _ (by omega) _ (decide ((x0_.f6.length : Int) > 3)) F13 _ _ hE .of hS g0_6 H
    · rw [if_neg c20] at H
      replace hE := hE.bfn 16 c20
      refine mny hst hE (.r 12 5 .nil) (fun a hE => ?_)
      refine dn ?_
      exact J26 _ (by omega) _ true F13 _ _ hE .of hS g0_6 H
  · rw [if_neg c9] at H
    replace hE := hE.bfn 9 c9
    refine mny hst hE (.r 5 12 .nil) (fun a hE => ?_)
    refine dn ?_
    exact J26 _ (by omega) _ true F _ _ hE .of hS g0_6 H

/-! ### windrose/past.counted: function 74 -/
def past_counted.f (x0_ : List Int) : Option (List Int) := if (([(x0_.length : Int)].length : Int) + (x0_.length : Int)) * 8 ≤ 140737488355328 then (some ([(x0_.length : Int)] ++ x0_)) else (none)
def past_counted.Post (W F : World) (r : List Int) (v : Value) (w' : World) : Prop := ∃ (F' : World) (RA0_0 : Option Addr) (rc0_0 : Nat), v = .slice RA0_0 r.length rc0_0 ∧ St W (mine W []) F w' F' [row (Kn.int .i64) 3 (.slice RA0_0 r.length rc0_0) r]
set_option maxHeartbeats 4000000 in
set_option maxRecDepth 100000 in
theorem past_counted.calls (x0_ : List Int) (A0_0 : Option Addr) (c0_0 : Nat) (r : List Int) (W F : World) (hown : Sub F W) (g0_0 : Rd (Kn.int .i64) F A0_0 c0_0 x0_) (H : past_counted.f x0_ = some r) :
    Calls Try.prog 74 #[.slice A0_0 x0_.length c0_0] W fun e w' => ∃ v, e = .returned v ∧ past_counted.Post W F r v w' := by
  have hS := St.start (Own.nil hown)
  unfold past_counted.f at H
  refine enter (n := 8) rfl rfl rfl (Nat.le_of_ble_eq_true rfl) (fun a hE => ?_)
  refine wp_seq_k fun K1 hK1 => ?_
  refine pl0 ?_
  refine plc hE (.r 0 1 .nil) (fun a hE => ?_)
  refine pld ?_
  refine hK1 _ _ ?_
  refine wp_seq_k fun K2 hK2 => ?_
  refine pl0 ?_
  refine plc hE (.r 0 2 .nil) (fun a hE => ?_)
  refine ple hE (.lit (d := (Kn.int .i64)) (e := 3) hS [(x0_.length : Int)] (.cons rfl .nil)) ?_
  rintro _ u3 a ⟨A4, c5, rfl, hS, hg⟩ hE
  refine plc hE (.r 3 1 .nil) (fun a hE => ?_)
  by_cases c7 : (([(x0_.length : Int)].length : Int) + (x0_.length : Int)) * 8 ≤ 140737488355328
  rotate_left
  · rw [if_neg c7] at H; cases H
  rw [if_pos c7] at H
  refine ple hE (.ap (d := (Kn.int .i64)) 8 hS (g0_0.src hS.own.sub) c7 c0_0) ?_
  rintro _ u10 a ⟨A8, c9, rfl, hS, hz⟩ hE
  refine plc hE (.r 5 1 .nil) (fun a hE => ?_)
  refine pld ?_
  refine hK2 _ _ ?_
  refine wp_ret ?_
  obtain rfl := Option.some.inj H
  exact rt1 hE ⟨_, rfl, _, _, _, rfl, hS⟩

/-! ### windrose/past.delta: function 56 -/
def past_delta.f (x0_ : T_api_Delta) : Option (List Int) := (past_counted.f x0_.f6).bind fun t5 => (if (([x0_.f0, x0_.f1, x0_.f2, x0_.f3, x0_.f4, x0_.f5].length : Int) + (t5.length : Int)) * 8 ≤ 140737488355328 then (some ([x0_.f0, x0_.f1, x0_.f2, x0_.f3, x0_.f4, x0_.f5] ++ t5)) else (none))
def past_delta.Post (W F : World) (r : List Int) (v : Value) (w' : World) : Prop := ∃ (F' : World) (RA0_0 : Option Addr) (rc0_0 : Nat), v = .slice RA0_0 r.length rc0_0 ∧ St W (mine W []) F w' F' [row (Kn.int .i64) 3 (.slice RA0_0 r.length rc0_0) r]
set_option maxHeartbeats 4000000 in
set_option maxRecDepth 100000 in
theorem past_delta.calls (x0_ : T_api_Delta) (A0_6 : Option Addr) (c0_6 : Nat) (r : List Int) (W F : World) (hown : Sub F W) (g0_6 : Rd (Kn.int .i64) F A0_6 c0_6 x0_.f6) (H : past_delta.f x0_ = some r) :
    Calls Try.prog 56 #[.agg #[.int .i64 x0_.f0, .int .i64 x0_.f1, .int .i64 x0_.f2, .int .i64 x0_.f3, .int .i64 x0_.f4, .int .i64 x0_.f5, .slice A0_6 x0_.f6.length c0_6]] W fun e w' => ∃ v, e = .returned v ∧ past_delta.Post W F r v w' := by
  have hS := St.start (Own.nil hown)
  unfold past_delta.f at H
  refine enter (n := 20) rfl rfl rfl (Nat.le_of_ble_eq_true rfl) (fun a hE => ?_)
  refine wp_seq_k fun K1 hK1 => ?_
  refine pl0 ?_
  refine ple hE (.bx (t := 33) hS [.int .i64 x0_.f0, .int .i64 x0_.f1, .int .i64 x0_.f2, .int .i64 x0_.f3, .int .i64 x0_.f4, .int .i64 x0_.f5, .slice A0_6 x0_.f6.length c0_6]) ?_
  rintro _ u3 a ⟨b2, rfl, hb2, hS, hg⟩ hE
  refine plc hE (.r 1 1 .nil) (fun a hE => ?_)
  refine pld ?_
  refine hK1 _ _ ?_
  refine wp_seq_k fun K4 hK4 => ?_
  refine drawn 18 [16] mixed rfl (by kernel_rfl) (fun hst => ?_)
  replace hS := hS.drew
  have hb2 := hS.blk_at (i := 0) rfl
  refine mny hst hE (.r 0 1 <| .b 1 0 hb2 <| .r 2 1 <| .b 3 1 hb2 <| .r 4 1 <| .b 5 2 hb2 <| .r 6 1 <| .b 7 3 hb2 <| .r 8 1 <| .b 9 4 hb2 <| .r 10 1 <| .b 11 5 hb2 <| .r 13 1 <| .b 14 6 hb2 <| .nil) (fun a hE => ?_)
  obtain ⟨t5, h6, H⟩ := Option.bind_eq_some_iff.mp H
  refine meet2 (fun a w' => ∃ (G : Nat → Value) (A13 : Option Addr) (c14 : Nat) (A8 : Option Addr) (c9 : Nat) (F18 : World), Env 20 G a ∧ At G [(2, .slice none 0 0), (15, .slice A8 ([x0_.f0, x0_.f1, x0_.f2, x0_.f3, x0_.f4, x0_.f5].length) c9), (18, .slice A13 t5.length c14)] ∧ St W (mine W []) F w' F18 [box b2 #[.int .i64 x0_.f0, .int .i64 x0_.f1, .int .i64 x0_.f2, .int .i64 x0_.f3, .int .i64 x0_.f4, .int .i64 x0_.f5, .slice A0_6 x0_.f6.length c0_6] 33, row (Kn.int .i64) 3 (.slice A13 t5.length c14) t5, row (Kn.int .i64) 3 (.slice A8 ([x0_.f0, x0_.f1, x0_.f2, x0_.f3, x0_.f4, x0_.f5].length) c9) [x0_.f0, x0_.f1, x0_.f2, x0_.f3, x0_.f4, x0_.f5]] ∧ Rd (Kn.int .i64) F18 A0_6 c0_6 x0_.f6) 2 65535 ?_ (fun hJ => ?_)
  · rintro a u19 ⟨G, A13, c14, A8, c9, F18, hE, hA, hS, g0_6⟩
    obtain ⟨J, hE⟩ := hE.at hA
    by_cases c20 : (([x0_.f0, x0_.f1, x0_.f2, x0_.f3, x0_.f4, x0_.f5].length : Int) + (t5.length : Int)) * 8 ≤ 140737488355328
    rotate_left
    · rw [if_neg c20] at H; cases H
    rw [if_pos c20] at H
    replace hS := hS.front 2 rfl
    refine on1 16 hE (.ap (d := (Kn.int .i64)) 8 hS (row_src (hS.row_at (i := 2) rfl)) c20 c14) ?_
    rintro _ u23 a ⟨A21, c22, rfl, hS, hz⟩ hE
    refine ⟨fun h => absurd (by decide) h, ?_⟩
    refine mny hst hE (.r 17 1 .nil) (fun a hE => ?_)
    refine dn ?_
    refine hK4 _ _ ?_
    refine wp_ret ?_
    replace hS := hS.front 1 rfl
    replace hS := hS.tail
    replace hS := hS.front 1 rfl
    replace hS := hS.tail
    obtain rfl := Option.some.inj H
    exact rt1 hE ⟨_, rfl, _, _, _, rfl, hS⟩
  · refine pk2 12 15 ?_ ?_
    · skip
      refine pk1 12 hE (.lit (d := (Kn.int .i64)) (e := 3) hS [x0_.f0, x0_.f1, x0_.f2, x0_.f3, x0_.f4, x0_.f5] (.cons rfl <| .cons rfl <| .cons rfl <| .cons rfl <| .cons rfl <| .cons rfl .nil)) ?_
      rintro _ u7 a ⟨A8, c9, rfl, hS, hg⟩ hE
      refine ⟨fun _ => hg, ?_⟩
      refine on1 15 hE (.cl en74 (past_counted.calls x0_.f6 _ _ _ _ _ hS.own.sub g0_6 h6)) ?_
      rintro _ u11 a ⟨F12, A13, c14, rfl, hC⟩ hE
      refine ⟨fun _ => hC.agr, ?_⟩
      have hs := hC.sub
      replace hS := hS.called (X := []) hC
      replace g0_6 := g0_6.mono hs
      replace hS := hS.front 1 rfl
      replace hS := hS.front 1 rfl
      replace hS := hS.front 2 rfl
      exact hJ _ _ ⟨_, A13, c14, A8, c9, F12, hE, .of, hS, g0_6⟩
    · skip
      refine pk1 15 hE (.cl en74 (past_counted.calls x0_.f6 _ _ _ _ _ hS.own.sub g0_6 h6)) ?_
      rintro _ u11 a ⟨F12, A13, c14, rfl, hC⟩ hE
      refine ⟨fun _ => hC.agr, ?_⟩
      have hs := hC.sub
      replace hS := hS.called (X := []) hC
      replace g0_6 := g0_6.mono hs
      refine on1 12 hE (.lit (d := (Kn.int .i64)) (e := 3) hS [x0_.f0, x0_.f1, x0_.f2, x0_.f3, x0_.f4, x0_.f5] (.cons rfl <| .cons rfl <| .cons rfl <| .cons rfl <| .cons rfl <| .cons rfl .nil)) ?_
      rintro _ u7 a ⟨A8, c9, rfl, hS, hg⟩ hE
      refine ⟨fun _ => hg, ?_⟩
      replace hS := hS.front 1 rfl
      replace hS := hS.front 2 rfl
      exact hJ _ _ ⟨_, A13, c14, A8, c9, F12, hE, .of, hS, g0_6⟩

/-! ### windrose/past.Delta: function 20 -/
def past_Delta.f (k : Nat) (x0_ : T_api_Delta) : Option (T_api_Data × Int) := (acceptor_CheckDelta.f k x0_).bind fun t9 => (if t9 = 0 then ((past_delta.f x0_).bind fun t18 => (some ((⟨t18, []⟩ : T_api_Data), 0))) else (some ((⟨[], []⟩ : T_api_Data), t9)))
def past_Delta.Post (W F : World) (r : T_api_Data × Int) (v : Value) (w' : World) : Prop := ∃ (F' : World) (RA0_0 : Option Addr) (rc0_0 : Nat) (RA0_1 : Option Addr) (rc0_1 : Nat), v = .tuple #[.agg #[.slice RA0_0 r.1.f0.length rc0_0, .slice RA0_1 r.1.f1.length rc0_1], .int .i64 r.2] ∧ St W (mine W []) F w' F' [row (Kn.int .i64) 3 (.slice RA0_0 r.1.f0.length rc0_0) r.1.f0] ∧ Rd Kn.string F' RA0_1 rc0_1 r.1.f1
set_option maxHeartbeats 4000000 in
set_option maxRecDepth 100000 in
theorem past_Delta.calls (k : Nat) (x0_ : T_api_Delta) (A0_6 : Option Addr) (c0_6 : Nat) (r : T_api_Data × Int) (W F : World) (hown : Sub F W) (g0_6 : Rd (Kn.int .i64) F A0_6 c0_6 x0_.f6) (H : past_Delta.f k x0_ = some r) :
    Calls Try.prog 20 #[.agg #[.int .i64 x0_.f0, .int .i64 x0_.f1, .int .i64 x0_.f2, .int .i64 x0_.f3, .int .i64 x0_.f4, .int .i64 x0_.f5, .slice A0_6 x0_.f6.length c0_6]] W fun e w' => ∃ v, e = .returned v ∧ past_Delta.Post W F r v w' := by
  have hS := St.start (Own.nil hown)
  unfold past_Delta.f at H
  refine enter (n := 14) rfl rfl rfl (Nat.le_of_ble_eq_true rfl) (fun a hE => ?_)
  refine wp_seq_k fun K1 hK1 => ?_
  refine pl0 ?_
  refine ple hE (.bx (t := 33) hS [.int .i64 x0_.f0, .int .i64 x0_.f1, .int .i64 x0_.f2, .int .i64 x0_.f3, .int .i64 x0_.f4, .int .i64 x0_.f5, .slice A0_6 x0_.f6.length c0_6]) ?_
  rintro _ u3 a ⟨b2, rfl, hb2, hS, hg⟩ hE
  refine ple hE (.al (t := 36) hS [.slice none 0 0, .slice none 0 0]) ?_
  rintro _ u5 a ⟨b4, rfl, hb4, hS, hg⟩ hE
  refine plc hE (.r 2 1 .nil) (fun a hE => ?_)
  refine pld ?_
  refine hK1 _ _ ?_
  refine wp_seq_k fun K6 hK6 => ?_
  refine wp_seq_k fun K7 hK7 => ?_
  refine pl0 ?_
  have hb2 := hS.blk_at (i := 1) rfl
  refine plc hE (.bn 0 0 7 hb2 .nil) (fun a hE => ?_)
  obtain ⟨t9, h10, H⟩ := Option.bind_eq_some_iff.mp H
  refine ple hE (.cl en55 (acceptor_CheckDelta.calls k x0_ _ _ _ _ _ hS.own.sub g0_6 h10)) ?_
  rintro _ u8 a ⟨_, rfl, hC⟩ hE
  replace hS := hS.lent hC
  refine plc hE (.r 2 1 .nil) (fun a hE => ?_)
  refine pld ?_
  refine hK7 _ _ ?_
  refine wp_seq_k fun K11 hK11 => ?_
  refine pl0 ?_
  refine plc hE (.r 0 2 .nil) (fun a hE => ?_)
  refine pld ?_
  refine hK11 _ _ ?_
  by_cases c12 : t9 = 0
  · rw [if_pos c12] at H
    replace hE := hE.ktn 8 c12
    refine cf hE ?_
    refine wp_skip ?_
    refine hK6 _ _ ?_
    refine wp_seq_k fun K16 hK16 => ?_
    refine pl0 ?_
    have hb2 := hS.blk_at (i := 1) rfl
    refine plc hE (.bn 0 0 7 hb2 .nil) (fun a hE => ?_)
    obtain ⟨t18, h19, H⟩ := Option.bind_eq_some_iff.mp H
    refine ple hE (.cl en56 (past_delta.calls x0_ _ _ _ _ _ hS.own.sub g0_6 h19)) ?_
    rintro _ u17 a ⟨F20, A21, c22, rfl, hC⟩ hE
    have hs := hC.sub
    replace hS := hS.called (X := []) hC
    replace g0_6 := g0_6.mono hs
    refine plc hE (.r 2 1 .nil) (fun a hE => ?_)
    replace hS := hS.front 1 rfl
    refine ple hE (.sto hS [.slice A21 t18.length c22, .slice none 0 0]) ?_
    rintro _ u25 a ⟨rfl, hb4, hS, hz⟩ hE
    refine plc hE (.r 4 1 .nil) (fun a hE => ?_)
    refine pld ?_
    refine hK16 _ _ ?_
    refine wp_ret ?_
    replace hS := hS.tail
    replace hS := hS.front 1 rfl
    replace hS := hS.tail
    obtain rfl := Option.some.inj H
    exact retN hE rfl (of_decide_eq_true rfl) (.cell (by kernel_rfl) (res_blk [.slice A21 t18.length c22, .slice none 0 0] ag36 sz36 hb4 rfl) (.tmp (by kernel_rfl) .nil)) ⟨_, rfl, _, _, _, _, _, rfl, hS, (Rd.nil _ _)⟩
  · rw [if_neg c12] at H
    replace hE := hE.kfn 8 c12
    refine ct hE ?_
    refine wp_seq_k fun K13 hK13 => ?_
    refine pl0 ?_
    refine plc hE (.r 0 2 .nil) (fun a hE => ?_)
    refine ple hE (.sto hS [.slice none 0 0, .slice none 0 0]) ?_
    rintro _ u14 a ⟨rfl, hb4, hS, hz⟩ hE
    refine plc hE (.r 3 1 .nil) (fun a hE => ?_)
    refine pld ?_
    refine hK13 _ _ ?_
    refine wp_ret (then_ret ?_)
    replace hS := hS.nilrow (Kn.int .i64) 3
    replace hS := hS.front 1 rfl
    replace hS := hS.tail
    replace hS := hS.front 1 rfl
    replace hS := hS.tail
    obtain rfl := Option.some.inj H
    exact retN hE rfl (of_decide_eq_true rfl) (.cell (by kernel_rfl) (res_blk [.slice none 0 0, .slice none 0 0] ag36 sz36 hb4 rfl) (.tmp (by kernel_rfl) .nil)) ⟨_, rfl, _, _, _, _, _, rfl, hS, (Rd.nil _ _)⟩

/-! ### windrose/windroseref02.Ints: function 44 -/
def windroseref02_Ints.l9 : Nat → List Int → List Int → Int → Option Bool
  | 0, _, _, _ => none
  | k + 1, x0_, x1_, x8 => if x8 < (x0_.length : Int) then (if 0 ≤ x8 ∧ x8 < (x0_.length : Int) then (if 0 ≤ x8 ∧ x8 < (x1_.length : Int) then (if (nth 0 x0_ x8) = (nth 0 x1_ x8) then (windroseref02_Ints.l9 k x0_ x1_ (w64 (x8 + 1))) else (some false)) else (none)) else (none)) else (some true)
theorem windroseref02_Ints.l9_s (k : Nat) (x0_ : List Int) (x1_ : List Int) (x8 : Int) : windroseref02_Ints.l9 (k + 1) x0_ x1_ x8 = (if x8 < (x0_.length : Int) then (if 0 ≤ x8 ∧ x8 < (x0_.length : Int) then (if 0 ≤ x8 ∧ x8 < (x1_.length : Int) then (if (nth 0 x0_ x8) = (nth 0 x1_ x8) then (windroseref02_Ints.l9 k x0_ x1_ (w64 (x8 + 1))) else (some false)) else (none)) else (none)) else (some true)) := by kernel_rfl
def windroseref02_Ints.f (k : Nat) (x0_ : List Int) (x1_ : List Int) : Option Bool := if (x0_.length : Int) = (x1_.length : Int) then (windroseref02_Ints.l9 k x0_ x1_ 0) else (some false)
def windroseref02_Ints.Post (W F : World) (r : Bool) (v : Value) (w' : World) : Prop := ∃ (F' : World), v = .bool r ∧ St W (mine W []) F w' F' []
set_option maxHeartbeats 4000000 in
set_option maxRecDepth 100000 in
theorem windroseref02_Ints.calls (k : Nat) (x0_ : List Int) (x1_ : List Int) (A0_0 : Option Addr) (c0_0 : Nat) (A1_0 : Option Addr) (c1_0 : Nat) (r : Bool) (W F : World) (hown : Sub F W) (g0_0 : Rd (Kn.int .i64) F A0_0 c0_0 x0_) (g1_0 : Rd (Kn.int .i64) F A1_0 c1_0 x1_) (H : windroseref02_Ints.f k x0_ x1_ = some r) :
    Calls Try.prog 44 #[.slice A0_0 x0_.length c0_0, .slice A1_0 x1_.length c1_0] W fun e w' => ∃ v, e = .returned v ∧ windroseref02_Ints.Post W F r v w' := by
  have hS := St.start (Own.nil hown)
  unfold windroseref02_Ints.f at H
  refine enter (n := 26) rfl rfl rfl (Nat.le_of_ble_eq_true rfl) (fun a hE => ?_)
  refine wp_seq_k fun K1 hK1 => ?_
  refine pl0 ?_
  refine plc hE (.r 0 1 .nil) (fun a hE => ?_)
  refine pld ?_
  refine hK1 _ _ ?_
  refine wp_seq_k fun K2 hK2 => ?_
  refine wp_seq_k fun K3 hK3 => ?_
  refine pl0 ?_
  refine plc hE (.r 0 5 .nil) (fun a hE => ?_)
  refine pld ?_
  refine hK3 _ _ ?_
  by_cases c4 : (x0_.length : Int) = (x1_.length : Int)
  · rw [if_pos c4] at H
    replace hE := hE.ktn 10 c4
    refine cf hE ?_
    refine wp_skip ?_
    refine hK2 _ _ ?_
    refine wp_seq_k fun K6 hK6 => ?_
    refine wp_seq_k fun K7 hK7 => ?_
    refine pl0 ?_
    refine plc hE (.r 0 1 .nil) (fun a hE => ?_)
    refine pld ?_
    refine hK7 _ _ ?_
    refine wp_block ?_
    refine wp_loop_ghost (fun kq10 a w' => ∃ (G : Nat → Value) (x8 : Int), Env 26 G a ∧ At G [(0, .slice A0_0 x0_.length c0_0), (1, .slice A1_0 x1_.length c1_0), (5, .int .i64 x8)] ∧ St W (mine W []) F w' F [] ∧  windroseref02_Ints.l9 kq10 x0_ x1_ x8 = some r) k ⟨_, 0, hE, .of, hS, H⟩ ?_
    rintro kq10 a u12 ⟨G, x8, hE, hA, hS, H⟩
    cases kq10 with
    | zero => cases (show none = some r from H)
    | succ k11 =>
      rw [windroseref02_Ints.l9_s] at H
      obtain ⟨J, hE⟩ := hE.at hA
      refine wp_seq_k fun K13 hK13 => ?_
      refine wp_seq_k fun K14 hK14 => ?_
      refine pl0 ?_
      refine plc hE (.r 0 4 .nil) (fun a hE => ?_)
      refine pld ?_
      refine hK14 _ _ ?_
      by_cases c15 : x8 < (x0_.length : Int)
      · rw [if_pos c15] at H
        replace hE := hE.kt 14 c15
        refine ct hE ?_
        refine wp_skip ?_
        refine hK13 _ _ ?_
        refine wp_seq_k fun K16 hK16 => ?_
        refine wp_block ?_
        refine wp_seq_k fun K17 hK17 => ?_
        refine drawn 9 [] mixed rfl (by kernel_rfl) (fun hst => ?_)
        replace hS := hS.drew
        by_cases c18 : 0 ≤ x8 ∧ x8 < (x0_.length : Int)
        rotate_left
        · rw [if_neg c18] at H; cases H
        rw [if_pos c18] at H
        obtain ⟨ad19, rfl⟩ := g0_0.addr c18.1 c18.2
        obtain ⟨cs21, rfl, hc22⟩ := g0_0.el 0 x8 c18.1 c18.2
        by_cases c23 : 0 ≤ x8 ∧ x8 < (x1_.length : Int)
        rotate_left
        · rw [if_neg c23] at H; cases H
        rw [if_pos c23] at H
        obtain ⟨ad24, rfl⟩ := g1_0.addr c23.1 c23.2
        obtain ⟨cs26, rfl, hc27⟩ := g1_0.el 0 x8 c23.1 c23.2
        refine mny hst hE (.r 0 2 <| .x 2 c18 <| .c 3 (hS.fc hc22 0) <| .r 4 2 <| .x 6 c23 <| .c 7 (hS.fc hc27 0) <| .r 8 1 <| .nil) (fun a hE => ?_)
        refine dn ?_
        refine hK17 _ _ ?_
        by_cases c28 : (nth 0 x0_ x8) = (nth 0 x1_ x8)
        · rw [if_pos c28] at H
          replace hE := hE.ktn 25 c28
          refine cf hE ?_
          refine wp_skip ?_
          refine hK16 _ _ ?_
          refine pl0 ?_
          refine plc hE (.r 0 3 .nil) (fun a hE => ?_)
          refine pld ?_
          exact then_n ⟨k11, by omega, _, (w64 (x8 + 1)), hE, .of, hS, H⟩
        · rw [if_neg c28] at H
          replace hE := hE.kfn 25 c28
          refine ct hE ?_
          refine wp_seq_k fun K29 hK29 => ?_
          refine pl0 ?_
          refine plc hE (.r 0 1 .nil) (fun a hE => ?_)
          refine pld ?_
          refine hK29 _ _ ?_
          refine wp_ret (block_ret (then_ret (then_ret (block_ret (then_ret ?_)))))
          obtain rfl := Option.some.inj H
          exact rt1 hE ⟨_, rfl, _, rfl, hS⟩
      · rw [if_neg c15] at H
        replace hE := hE.kf 14 c15
        refine cf hE ?_
        refine wp_exit ?_
        refine hK6 _ _ ?_
        refine wp_seq_k fun K30 hK30 => ?_
        refine pl0 ?_
        refine plc hE (.r 0 1 .nil) (fun a hE => ?_)
        refine pld ?_
        refine hK30 _ _ ?_
        refine wp_ret ?_
        obtain rfl := Option.some.inj H
        exact rt1 hE ⟨_, rfl, _, rfl, hS⟩
  · rw [if_neg c4] at H
    replace hE := hE.kfn 10 c4
    refine ct hE ?_
    refine wp_seq_k fun K5 hK5 => ?_
    refine pl0 ?_
    refine plc hE (.r 0 1 .nil) (fun a hE => ?_)
    refine pld ?_
    refine hK5 _ _ ?_
    refine wp_ret (then_ret ?_)
    obtain rfl := Option.some.inj H
    exact rt1 hE ⟨_, rfl, _, rfl, hS⟩

/-! ### windrose/windroselaw27.awake: function 16 -/
def windroselaw27_awake.f (k : Nat) : Option Bool := (past_Delta.f k (⟨3, 5, 0, 0, 0, 0, []⟩ : T_api_Delta)).bind fun t4 => (if t4.2 = 0 then ((windroseref02_Ints.f k t4.1.f0 [3, 5, 0, 0, 0, 0, 0]).bind fun t24 => (some t24)) else (some false))
def windroselaw27_awake.Post (W F : World) (r : Bool) (v : Value) (w' : World) : Prop := ∃ (F' : World), v = .bool r ∧ St W (mine W []) F w' F' []
set_option maxHeartbeats 4000000 in
set_option maxRecDepth 100000 in
theorem windroselaw27_awake.calls (k : Nat) (r : Bool) (W F : World) (hown : Sub F W) (H : windroselaw27_awake.f k = some r) :
    Calls Try.prog 16 #[] W fun e w' => ∃ v, e = .returned v ∧ windroselaw27_awake.Post W F r v w' := by
  have hS := St.start (Own.nil hown)
  unfold windroselaw27_awake.f at H
  refine enter (n := 16) rfl rfl rfl (Nat.le_of_ble_eq_true rfl) (fun a hE => ?_)
  refine wp_seq_k fun K1 hK1 => ?_
  refine pl0 ?_
  refine plc hE (.r 0 1 .nil) (fun a hE => ?_)
  refine pld ?_
  refine hK1 _ _ ?_
  refine wp_seq_k fun K2 hK2 => ?_
  refine pl0 ?_
  refine plc hE (.r 0 1 .nil) (fun a hE => ?_)
  obtain ⟨t4, h5, H⟩ := Option.bind_eq_some_iff.mp H
  refine ple hE (.cl en20 (past_Delta.calls k (⟨3, 5, 0, 0, 0, 0, []⟩ : T_api_Delta) _ _ _ _ _ hS.own.sub (Rd.nil _ _) h5)) ?_
  rintro _ u3 a ⟨F6, A7, c8, A11, c12, rfl, hC, g13⟩ hE
  have hs := hC.sub
  replace hS := hS.called (X := []) hC
  refine plc hE (.r 2 3 .nil) (fun a hE => ?_)
  refine ple hE (.al (t := 36) hS [.slice none 0 0, .slice none 0 0]) ?_
  rintro _ u15 a ⟨b14, rfl, hb14, hS, hg⟩ hE
  refine ple hE (.sto hS [.slice A7 t4.1.f0.length c8, .slice A11 t4.1.f1.length c12]) ?_
  rintro _ u16 a ⟨rfl, hb14, hS, hz⟩ hE
  refine plc hE (.r 7 1 .nil) (fun a hE => ?_)
  refine pld ?_
  refine hK2 _ _ ?_
  refine wp_seq_k fun K17 hK17 => ?_
  refine pl0 ?_
  refine plc hE (.r 0 3 .nil) (fun a hE => ?_)
  by_cases c18 : t4.2 = 0
  · rw [if_pos c18] at H
    replace hE := hE.kt 10 c18
    refine plc hE (.r 3 1 <| .b 4 0 hb14 <| .nil) (fun a hE => ?_)
    refine ple hE (.lit (d := (Kn.int .i64)) (e := 3) hS [3, 5, 0, 0, 0, 0, 0] (.cons rfl <| .cons rfl <| .cons rfl <| .cons rfl <| .cons rfl <| .cons rfl <| .cons rfl .nil)) ?_
    rintro _ u19 a ⟨A20, c21, rfl, hS, hg⟩ hE
    obtain ⟨t24, h25, H⟩ := Option.bind_eq_some_iff.mp H
    refine ple hE (.cl en44 (windroseref02_Ints.calls k t4.1.f0 [3, 5, 0, 0, 0, 0, 0] _ _ _ _ _ _ _ (Sub.refl _) (hS.rd_at (i := 2) rfl) (hS.rd_at (i := 0) rfl) h25)) ?_
    rintro _ u23 a ⟨_, rfl, hC⟩ hE
    replace hS := hS.lent hC
    refine plc hE (.r 7 2 .nil) (fun a hE => ?_)
    refine pld ?_
    refine hK17 _ _ ?_
    refine wp_ret ?_
    replace hS := hS.tail
    replace hS := hS.tail
    replace hS := hS.tail
    obtain rfl := Option.some.inj H
    exact rt1 hE ⟨_, rfl, _, rfl, hS⟩
  · rw [if_neg c18] at H
    replace hE := hE.kf 10 c18
    refine plc hE (.r 3 6 .nil) (fun a hE => ?_)
    refine pld ?_
    refine hK17 _ _ ?_
    refine wp_ret ?_
    replace hS := hS.tail
    replace hS := hS.tail
    obtain rfl := Option.some.inj H
    exact rt1 hE ⟨_, rfl, _, rfl, hS⟩

/-! ### (*windrose/past.reader).next: function 53 -/
def past_reader_next.f (x0_ : T_past_reader) : Option (Int × T_past_reader) := if (x0_.f0.length : Int) = 0 then (some (0, (⟨x0_.f0, true⟩ : T_past_reader))) else (if 0 ≤ (0 : Int) ∧ 0 < (x0_.f0.length : Int) then (if 0 ≤ (1 : Int) ∧ (1 : Int) ≤ (x0_.f0.length : Int) then (some ((nth 0 x0_.f0 0), (⟨(cutl x0_.f0 (1 : Int) (x0_.f0.length : Int)), x0_.f1⟩ : T_past_reader))) else (none)) else (none))
def past_reader_next.Post (x0_ : T_past_reader) (p0_ : Nat) (A0_0 : Option Addr) (c0_0 : Nat) (W F : World) (r : Int × T_past_reader) (v : Value) (w' : World) : Prop := ∃ (F' : World) (RA1_0 : Option Addr) (rc1_0 : Nat), v = .int .i64 r.1 ∧ St W (mine W [box p0_ #[.slice A0_0 x0_.f0.length c0_0, .bool x0_.f1] 116]) F w' F' [box p0_ #[.slice RA1_0 r.2.f0.length rc1_0, .bool r.2.f1] 116] ∧ Rd (Kn.int .i64) F' RA1_0 rc1_0 r.2.f0
set_option maxHeartbeats 4000000 in
set_option maxRecDepth 100000 in
theorem past_reader_next.calls (x0_ : T_past_reader) (p0_ : Nat) (A0_0 : Option Addr) (c0_0 : Nat) (r : Int × T_past_reader) (W F : World) (hown : Own W F [box p0_ #[.slice A0_0 x0_.f0.length c0_0, .bool x0_.f1] 116]) (g0_0 : Rd (Kn.int .i64) F A0_0 c0_0 x0_.f0) (H : past_reader_next.f x0_ = some r) :
    Calls Try.prog 53 #[.pointer (some ⟨p0_, 0, none⟩)] W fun e w' => ∃ v, e = .returned v ∧ past_reader_next.Post x0_ p0_ A0_0 c0_0 W F r v w' := by
  have hS := St.start hown
  unfold past_reader_next.f at H
  refine enter (n := 28) rfl rfl rfl (Nat.le_of_ble_eq_true rfl) (fun a hE => ?_)
  refine wp_seq_k fun K1 hK1 => ?_
  refine pl0 ?_
  refine plc hE (.r 0 1 .nil) (fun a hE => ?_)
  refine pld ?_
  refine hK1 _ _ ?_
  refine wp_seq_k fun K2 hK2 => ?_
  refine wp_seq_k fun K3 hK3 => ?_
  refine pl0 ?_
  have hp0_ := hS.blk_at (i := 0) rfl
  refine plc hE (.r 0 3 <| .b 3 0 hp0_ <| .r 4 2 <| .nil) (fun a hE => ?_)
  refine pld ?_
  refine hK3 _ _ ?_
  by_cases c4 : (x0_.f0.length : Int) = 0
  · rw [if_pos c4] at H
    replace hE := hE.kt 9 c4
    refine ct hE ?_
    refine wp_seq_k fun K5 hK5 => ?_
    refine pl0 ?_
    refine plc hE (.r 0 3 .nil) (fun a hE => ?_)
    refine ple hE (.sto hS [.slice A0_0 x0_.f0.length c0_0, .bool true]) ?_
    rintro _ u6 a ⟨rfl, hp0_, hS, hz⟩ hE
    refine pld ?_
    refine hK5 _ _ ?_
    refine wp_seq_k fun K7 hK7 => ?_
    refine pl0 ?_
    refine plc hE (.r 0 1 .nil) (fun a hE => ?_)
    refine pld ?_
    refine hK7 _ _ ?_
    refine wp_ret (then_ret ?_)
    obtain rfl := Option.some.inj H
    exact rt1 hE ⟨_, rfl, _, _, _, rfl, hS, g0_0⟩
  · rw [if_neg c4] at H
    replace hE := hE.kf 9 c4
    refine cf hE ?_
    refine wp_skip ?_
    refine hK2 _ _ ?_
    refine wp_seq_k fun K8 hK8 => ?_
    refine pl0 ?_
    by_cases c9 : 0 ≤ (0 : Int) ∧ 0 < (x0_.f0.length : Int)
    rotate_left
    · rw [if_neg c9] at H; cases H
    rw [if_pos c9] at H
    obtain ⟨ad10, rfl⟩ := g0_0.addr c9.1 c9.2
    obtain ⟨cs12, rfl, hc13⟩ := g0_0.el 0 0 c9.1 c9.2
    refine plc hE (.r 0 3 <| .b 3 0 hp0_ <| .x 4 c9 <| .c 5 (hS.fc hc13 0) <| .r 6 1 <| .nil) (fun a hE => ?_)
    refine pld ?_
    refine hK8 _ _ ?_
    refine wp_seq_k fun K14 hK14 => ?_
    refine pl0 ?_
    by_cases c15 : 0 ≤ (1 : Int) ∧ (1 : Int) ≤ (x0_.f0.length : Int)
    rotate_left
    · rw [if_neg c15] at H; cases H
    rw [if_pos c15] at H
    obtain ⟨A16, c17, g18, hv19⟩ := slK_run (P := Try.prog) g0_0 ⟨c15.1, c15.2, Int.le_refl _⟩ sz3
    refine plc hE (.r 0 4 <| .b 4 0 hp0_ <| .y 5 (hv19 (by kernel_rfl)) <| .r 6 2 <| .nil) (fun a hE => ?_)
    refine ple hE (.sto hS [.slice A16 ((cutl x0_.f0 (1 : Int) (x0_.f0.length : Int)).length) c17, .bool x0_.f1]) ?_
    rintro _ u20 a ⟨rfl, hp0_, hS, hz⟩ hE
    refine pld ?_
    refine hK14 _ _ ?_
    refine wp_seq_k fun K21 hK21 => ?_
    refine pl0 ?_
    refine plc hE (.r 0 2 .nil) (fun a hE => ?_)
    refine pld ?_
    refine hK21 _ _ ?_
    refine wp_ret ?_
    obtain rfl := Option.some.inj H
    exact rt1 hE ⟨_, rfl, _, _, _, rfl, hS, g18⟩

/-! ### slices.Clone[[]int,int]: function 64 -/
def slices_Clone__int_int.f (x0_ : List Int) : Option (List Int) := if ((([] : List Int).length : Int) + (x0_.length : Int)) * 8 ≤ 140737488355328 then (some (([] : List Int) ++ x0_)) else (none)
def slices_Clone__int_int.Post (W F : World) (r : List Int) (v : Value) (w' : World) : Prop := ∃ (F' : World) (RA0_0 : Option Addr) (rc0_0 : Nat), v = .slice RA0_0 r.length rc0_0 ∧ St W (mine W []) F w' F' [row (Kn.int .i64) 3 (.slice RA0_0 r.length rc0_0) r]
set_option maxHeartbeats 4000000 in
set_option maxRecDepth 100000 in
theorem slices_Clone__int_int.calls (x0_ : List Int) (A0_0 : Option Addr) (c0_0 : Nat) (r : List Int) (W F : World) (hown : Sub F W) (g0_0 : Rd (Kn.int .i64) F A0_0 c0_0 x0_) (H : slices_Clone__int_int.f x0_ = some r) :
    Calls Try.prog 64 #[.slice A0_0 x0_.length c0_0] W fun e w' => ∃ v, e = .returned v ∧ slices_Clone__int_int.Post W F r v w' := by
  have hS := St.start (Own.nil hown)
  unfold slices_Clone__int_int.f at H
  refine enter (n := 8) rfl rfl rfl (Nat.le_of_ble_eq_true rfl) (fun a hE => ?_)
  rcases A0_0 with _ | ad1
  · have hnil := g0_0.none_nil
    replace H : (some []) = some r := by simpa [hnil] using H
    refine wp_seq_k fun K2 hK2 => ?_
    refine pl0 ?_
    refine plc hE (.r 0 1 .nil) (fun a hE => ?_)
    refine pld ?_
    refine hK2 _ _ ?_
    refine wp_seq_k fun K3 hK3 => ?_
    refine wp_seq_k fun K4 hK4 => ?_
    refine pl0 ?_
    refine plc hE (.r 0 2 .nil) (fun a hE => ?_)
    refine pld ?_
    refine hK4 _ _ ?_
    refine ct hE ?_
    refine wp_seq_k fun K5 hK5 => ?_
    refine pl0 ?_
    refine plc hE (.r 0 1 .nil) (fun a hE => ?_)
    refine pld ?_
    refine hK5 _ _ ?_
    refine wp_ret (then_ret ?_)
    replace hS := hS.nilrow (Kn.int .i64) 3
    obtain rfl := Option.some.inj H
    exact rt1 hE ⟨_, rfl, _, _, _, rfl, hS⟩
  · skip
    refine wp_seq_k fun K7 hK7 => ?_
    refine pl0 ?_
    refine plc hE (.r 0 1 .nil) (fun a hE => ?_)
    refine pld ?_
    refine hK7 _ _ ?_
    refine wp_seq_k fun K8 hK8 => ?_
    refine wp_seq_k fun K9 hK9 => ?_
    refine pl0 ?_
    refine plc hE (.r 0 2 .nil) (fun a hE => ?_)
    refine pld ?_
    refine hK9 _ _ ?_
    refine cf hE ?_
    refine wp_skip ?_
    refine hK8 _ _ ?_
    refine wp_seq_k fun K10 hK10 => ?_
    refine pl0 ?_
    refine ple hE (.lit (d := (Kn.int .i64)) (e := 3) hS ([] : List Int) (.nil)) ?_
    rintro _ u11 a ⟨A12, c13, rfl, hS, hg⟩ hE
    refine plc hE (.r 1 1 .nil) (fun a hE => ?_)
    by_cases c15 : ((([] : List Int).length : Int) + (x0_.length : Int)) * 8 ≤ 140737488355328
    rotate_left
    · rw [if_neg c15] at H; cases H
    rw [if_pos c15] at H
    refine ple hE (.ap (d := (Kn.int .i64)) 8 hS (g0_0.src hS.own.sub) c15 c0_0) ?_
    rintro _ u18 a ⟨A16, c17, rfl, hS, hz⟩ hE
    refine plc hE (.r 3 1 .nil) (fun a hE => ?_)
    refine pld ?_
    refine hK10 _ _ ?_
    refine wp_ret ?_
    obtain rfl := Option.some.inj H
    exact rt1 hE ⟨_, rfl, _, _, _, rfl, hS⟩

/-! ### (*windrose/past.reader).count: function 65 -/
def past_reader_count.j15 : Nat → Int × T_past_reader → Bool → Option (Int × T_past_reader)
  | 0, _, _ => none
  | k + 1, t4, y14 => if y14 = true then (some (0, (⟨t4.2.f0, true⟩ : T_past_reader))) else (some (t4.1, t4.2))
theorem past_reader_count.j15_s (k : Nat) (t4 : Int × T_past_reader) (y14 : Bool) : past_reader_count.j15 (k + 1) t4 y14 = (if y14 = true then (some (0, (⟨t4.2.f0, true⟩ : T_past_reader))) else (some (t4.1, t4.2))) := by kernel_rfl
def past_reader_count.f (k : Nat) (x0_ : T_past_reader) (x1_ : Int) : Option (Int × T_past_reader) := (past_reader_next.f x0_).bind fun t4 => (if t4.1 < 0 then (past_reader_count.j15 k t4 true) else (if x1_ ≠ 0 then (past_reader_count.j15 k t4 (decide (t4.1 > (w64 ((t4.2.f0.length : Int).tdiv x1_))))) else (none)))
def past_reader_count.Post (x0_ : T_past_reader) (x1_ : Int) (p0_ : Nat) (A0_0 : Option Addr) (c0_0 : Nat) (W F : World) (r : Int × T_past_reader) (v : Value) (w' : World) : Prop := ∃ (F' : World) (RA1_0 : Option Addr) (rc1_0 : Nat), v = .int .i64 r.1 ∧ St W (mine W [box p0_ #[.slice A0_0 x0_.f0.length c0_0, .bool x0_.f1] 116]) F w' F' [box p0_ #[.slice RA1_0 r.2.f0.length rc1_0, .bool r.2.f1] 116] ∧ Rd (Kn.int .i64) F' RA1_0 rc1_0 r.2.f0
set_option maxHeartbeats 4000000 in
set_option maxRecDepth 100000 in
theorem past_reader_count.calls (k : Nat) (x0_ : T_past_reader) (x1_ : Int) (p0_ : Nat) (A0_0 : Option Addr) (c0_0 : Nat) (r : Int × T_past_reader) (W F : World) (hown : Own W F [box p0_ #[.slice A0_0 x0_.f0.length c0_0, .bool x0_.f1] 116]) (g0_0 : Rd (Kn.int .i64) F A0_0 c0_0 x0_.f0) (H : past_reader_count.f k x0_ x1_ = some r) :
    Calls Try.prog 65 #[.pointer (some ⟨p0_, 0, none⟩), .int .i64 x1_] W fun e w' => ∃ v, e = .returned v ∧ past_reader_count.Post x0_ x1_ p0_ A0_0 c0_0 W F r v w' := by
  have hS := St.start hown
  unfold past_reader_count.f at H
  refine enter (n := 25) rfl rfl rfl (Nat.le_of_ble_eq_true rfl) (fun a hE => ?_)
  refine wp_seq_k fun K1 hK1 => ?_
  refine pl0 ?_
  refine plc hE (.r 0 1 .nil) (fun a hE => ?_)
  refine pld ?_
  refine hK1 _ _ ?_
  refine wp_seq_k fun K2 hK2 => ?_
  refine pl0 ?_
  refine plc hE (.r 0 1 .nil) (fun a hE => ?_)
  obtain ⟨t4, h5, H⟩ := Option.bind_eq_some_iff.mp H
  refine ple hE (.cl en53 (past_reader_next.calls x0_ _ _ _ _ _ _ (Own.left (X := [box p0_ #[.slice A0_0 x0_.f0.length c0_0, .bool x0_.f1] 116]) hS.own) g0_0 h5)) ?_
  rintro _ u3 a ⟨F6, A7, c8, rfl, hC, g9⟩ hE
  have hs := hC.sub
  replace hS := hS.called (X := [box p0_ #[.slice A0_0 x0_.f0.length c0_0, .bool x0_.f1] 116]) hC
  replace g0_0 := g0_0.mono hs
  refine plc hE (.r 2 1 .nil) (fun a hE => ?_)
  refine pld ?_
  refine hK2 _ _ ?_
  refine wp_seq_k fun K10 hK10 => ?_
  refine wp_seq_k fun K11 hK11 => ?_
  have J18 : ∀ kq16, kq16 ≤ k → ∀ (G : Nat → Value) (y14 : Bool) (a : Act) (w' : World), Env 25 G a → At G [(0, .pointer (some ⟨p0_, 0, none⟩)), (5, .int .i64 t4.1), (20, .bool y14)] → St W (mine W [box p0_ #[.slice A0_0 x0_.f0.length c0_0, .bool x0_.f1] 116]) F w' F6 [box p0_ #[.slice A7 t4.2.f0.length c8, .bool t4.2.f1] 116] → past_reader_count.j15 kq16 t4 y14 = some r → K11 a w' := by
    intro kq16 hkq G y14 a u19 hE hA hS H
    cases kq16 with
    | zero => cases (show none = some r from H)
    | succ k17 =>
      rw [past_reader_count.j15_s] at H
      obtain ⟨J, hE⟩ := hE.at hA
      refine hK11 _ _ ?_
      by_cases c20 : y14 = true
      · rw [if_pos c20] at H
        replace hE := hE.bt 20 c20
        refine ct hE ?_
        refine wp_seq_k fun K21 hK21 => ?_
        refine pl0 ?_
        refine plc hE (.r 0 3 .nil) (fun a hE => ?_)
        refine ple hE (.sto hS [.slice A7 t4.2.f0.length c8, .bool true]) ?_
        rintro _ u22 a ⟨rfl, hp0_, hS, hz⟩ hE
        refine pld ?_
        refine hK21 _ _ ?_
        refine wp_seq_k fun K23 hK23 => ?_
        refine pl0 ?_
        refine plc hE (.r 0 1 .nil) (fun a hE => ?_)
        refine pld ?_
        refine hK23 _ _ ?_
        refine wp_ret (then_ret ?_)
        obtain rfl := Option.some.inj H
        exact rt1 hE ⟨_, rfl, _, _, _, rfl, hS, g9⟩
      · rw [if_neg c20] at H
        replace hE := hE.bf 20 c20
        refine cf hE ?_
        refine wp_skip ?_
        refine hK10 _ _ ?_
        refine wp_seq_k fun K24 hK24 => ?_
        refine pl0 ?_
        refine plc hE (.r 0 2 .nil) (fun a hE => ?_)
        refine pld ?_
        refine hK24 _ _ ?_
        refine wp_ret ?_
        obtain rfl := Option.some.inj H
        exact rt1 hE ⟨_, rfl, _, _, _, rfl, hS, g9⟩
  refine pl0 ?_
  refine plc hE (.r 0 3 .nil) (fun a hE => ?_)
  by_cases c12 : t4.1 < 0
  · rw [if_pos c12] at H
    replace hE := hE.kt 10 c12
    refine plc hE (.r 3 10 .nil) (fun a hE => ?_)
    refine pld ?_
    exact J18 _ (by omega) _ true _ _ hE .of hS H
  · rw [if_neg c12] at H
    replace hE := hE.kf 10 c12
    have hp0_ := hS.blk_at (i := 0) rfl
    by_cases c13 : x1_ ≠ 0
    rotate_left
    · rw [if_neg c13] at H; cases H
    rw [if_pos c13] at H
    refine plc hE (.r 3 4 <| .b 7 0 hp0_ <| .r 8 2 <| .y 10 (y_quo 3 .i64 (t4.2.f0.length : Int) c13) <| .r 11 2 <| .nil) (fun a hE => ?_)
    refine pld ?_
    exact J18 _ (by omega) _ (decide (t4.1 > (w64 ((t4.2.f0.length : Int).tdiv x1_)))) _ _ hE .of hS H

/-! ### (*windrose/past.reader).list: function 54 -/
def past_reader_list.f (k : Nat) (x0_ : T_past_reader) : Option ((List Int) × T_past_reader) := (past_reader_count.f k x0_ 1).bind fun t4 => (if 0 ≤ t4.1 ∧ t4.1 ≤ (t4.2.f0.length : Int) then ((slices_Clone__int_int.f (cutl t4.2.f0 0 t4.1)).bind fun t17 => (some (t17, (⟨(cutl t4.2.f0 t4.1 (t4.2.f0.length : Int)), t4.2.f1⟩ : T_past_reader)))) else (none))
def past_reader_list.Post (x0_ : T_past_reader) (p0_ : Nat) (A0_0 : Option Addr) (c0_0 : Nat) (W F : World) (r : (List Int) × T_past_reader) (v : Value) (w' : World) : Prop := ∃ (F' : World) (RA0_0 : Option Addr) (rc0_0 : Nat) (RA1_0 : Option Addr) (rc1_0 : Nat), v = .slice RA0_0 r.1.length rc0_0 ∧ St W (mine W [box p0_ #[.slice A0_0 x0_.f0.length c0_0, .bool x0_.f1] 116]) F w' F' [box p0_ #[.slice RA1_0 r.2.f0.length rc1_0, .bool r.2.f1] 116, row (Kn.int .i64) 3 (.slice RA0_0 r.1.length rc0_0) r.1] ∧ Rd (Kn.int .i64) F' RA1_0 rc1_0 r.2.f0
set_option maxHeartbeats 4000000 in
set_option maxRecDepth 100000 in
theorem past_reader_list.calls (k : Nat) (x0_ : T_past_reader) (p0_ : Nat) (A0_0 : Option Addr) (c0_0 : Nat) (r : (List Int) × T_past_reader) (W F : World) (hown : Own W F [box p0_ #[.slice A0_0 x0_.f0.length c0_0, .bool x0_.f1] 116]) (g0_0 : Rd (Kn.int .i64) F A0_0 c0_0 x0_.f0) (H : past_reader_list.f k x0_ = some r) :
    Calls Try.prog 54 #[.pointer (some ⟨p0_, 0, none⟩)] W fun e w' => ∃ v, e = .returned v ∧ past_reader_list.Post x0_ p0_ A0_0 c0_0 W F r v w' := by
  have hS := St.start hown
  unfold past_reader_list.f at H
  refine enter (n := 24) rfl rfl rfl (Nat.le_of_ble_eq_true rfl) (fun a hE => ?_)
  refine wp_seq_k fun K1 hK1 => ?_
  refine pl0 ?_
  refine plc hE (.r 0 1 .nil) (fun a hE => ?_)
  refine pld ?_
  refine hK1 _ _ ?_
  refine wp_seq_k fun K2 hK2 => ?_
  refine pl0 ?_
  refine plc hE (.r 0 1 .nil) (fun a hE => ?_)
  obtain ⟨t4, h5, H⟩ := Option.bind_eq_some_iff.mp H
  refine ple hE (.cl en65 (past_reader_count.calls k x0_ 1 _ _ _ _ _ _ (Own.left (X := [box p0_ #[.slice A0_0 x0_.f0.length c0_0, .bool x0_.f1] 116]) hS.own) g0_0 h5)) ?_
  rintro _ u3 a ⟨F6, A7, c8, rfl, hC, g9⟩ hE
  have hs := hC.sub
  replace hS := hS.called (X := [box p0_ #[.slice A0_0 x0_.f0.length c0_0, .bool x0_.f1] 116]) hC
  replace g0_0 := g0_0.mono hs
  refine plc hE (.r 2 1 .nil) (fun a hE => ?_)
  refine pld ?_
  refine hK2 _ _ ?_
  refine wp_seq_k fun K10 hK10 => ?_
  refine pl0 ?_
  have hp0_ := hS.blk_at (i := 0) rfl
  by_cases c11 : 0 ≤ t4.1 ∧ t4.1 ≤ (t4.2.f0.length : Int)
  rotate_left
  · rw [if_neg c11] at H; cases H
  rw [if_pos c11] at H
  obtain ⟨A12, c13, g14, hv15⟩ := slK_run (P := Try.prog) g9 ⟨Int.le_refl _, c11.1, c11.2⟩ sz3
  refine plc hE (.r 0 3 <| .b 3 0 hp0_ <| .r 4 1 <| .y 5 (hv15 (by kernel_rfl)) <| .nil) (fun a hE => ?_)
  obtain ⟨t17, h18, H⟩ := Option.bind_eq_some_iff.mp H
  refine ple hE (.cl en64 (slices_Clone__int_int.calls (cutl t4.2.f0 0 t4.1) _ _ _ _ _ hS.own.sub g14 h18)) ?_
  rintro _ u16 a ⟨F19, A20, c21, rfl, hC⟩ hE
  have hs := hC.sub
  replace hS := hS.called (X := []) hC
  replace g9 := g9.mono hs
  replace g14 := g14.mono hs
  refine plc hE (.r 7 1 .nil) (fun a hE => ?_)
  refine pld ?_
  refine hK10 _ _ ?_
  refine wp_seq_k fun K24 hK24 => ?_
  refine pl0 ?_
  have hp0_ := hS.blk_at (i := 1) rfl
  obtain ⟨A25, c26, g27, hv28⟩ := slK_run (P := Try.prog) g9 ⟨c11.1, c11.2, Int.le_refl _⟩ sz3
  refine plc hE (.r 0 4 <| .b 4 0 hp0_ <| .r 5 1 <| .y 6 (hv28 (by kernel_rfl)) <| .r 7 2 <| .nil) (fun a hE => ?_)
  replace hS := hS.front 1 rfl
  refine ple hE (.sto hS [.slice A25 ((cutl t4.2.f0 t4.1 (t4.2.f0.length : Int)).length) c26, .bool t4.2.f1]) ?_
  rintro _ u29 a ⟨rfl, hp0_, hS, hz⟩ hE
  refine pld ?_
  refine hK24 _ _ ?_
  refine wp_seq_k fun K30 hK30 => ?_
  refine pl0 ?_
  refine plc hE (.r 0 2 .nil) (fun a hE => ?_)
  refine pld ?_
  refine hK30 _ _ ?_
  refine wp_ret ?_
  obtain rfl := Option.some.inj H
  exact rt1 hE ⟨_, rfl, _, _, _, _, _, rfl, hS, g27⟩

/-! ### windrose/past.ReadDelta: function 17 -/
def past_ReadDelta.j77 : Nat → Int × T_past_reader → Int × T_past_reader → Int × T_past_reader → Int × T_past_reader → Int × T_past_reader → Int × T_past_reader → (List Int) × T_past_reader → Bool → Option (T_api_Delta × Int)
  | 0, _, _, _, _, _, _, _, _ => none
  | k + 1, t11, t18, t25, t32, t39, t46, t57, y76 => if y76 = true then (some ((⟨0, 0, 0, 0, 0, 0, []⟩ : T_api_Delta), 2)) else (some ((⟨t11.1, t18.1, t25.1, t32.1, t39.1, t46.1, t57.1⟩ : T_api_Delta), 0))
theorem past_ReadDelta.j77_s (k : Nat) (t11 : Int × T_past_reader) (t18 : Int × T_past_reader) (t25 : Int × T_past_reader) (t32 : Int × T_past_reader) (t39 : Int × T_past_reader) (t46 : Int × T_past_reader) (t57 : (List Int) × T_past_reader) (y76 : Bool) : past_ReadDelta.j77 (k + 1) t11 t18 t25 t32 t39 t46 t57 y76 = (if y76 = true then (some ((⟨0, 0, 0, 0, 0, 0, []⟩ : T_api_Delta), 2)) else (some ((⟨t11.1, t18.1, t25.1, t32.1, t39.1, t46.1, t57.1⟩ : T_api_Delta), 0))) := by kernel_rfl
def past_ReadDelta.f (k : Nat) (x0_ : T_api_Data) : Option (T_api_Delta × Int) := (past_reader_next.f (⟨x0_.f0, false⟩ : T_past_reader)).bind fun t11 => ((past_reader_next.f t11.2).bind fun t18 => ((past_reader_next.f t18.2).bind fun t25 => ((past_reader_next.f t25.2).bind fun t32 => ((past_reader_next.f t32.2).bind fun t39 => ((past_reader_next.f t39.2).bind fun t46 => ((past_reader_list.f k t46.2).bind fun t57 => (if t57.2.f1 = true then (past_ReadDelta.j77 k t11 t18 t25 t32 t39 t46 t57 true) else (if (t57.2.f0.length : Int) > 0 then (past_ReadDelta.j77 k t11 t18 t25 t32 t39 t46 t57 true) else (if (x0_.f1.length : Int) > 0 then (past_ReadDelta.j77 k t11 t18 t25 t32 t39 t46 t57 true) else ((acceptor_CheckDelta.f k (⟨t11.1, t18.1, t25.1, t32.1, t39.1, t46.1, t57.1⟩ : T_api_Delta)).bind fun t74 => (past_ReadDelta.j77 k t11 t18 t25 t32 t39 t46 t57 (!(t74 == 0)))))))))))))
def past_ReadDelta.Post (W F : World) (r : T_api_Delta × Int) (v : Value) (w' : World) : Prop := ∃ (F' : World) (RA0_6 : Option Addr) (rc0_6 : Nat), v = .tuple #[.agg #[.int .i64 r.1.f0, .int .i64 r.1.f1, .int .i64 r.1.f2, .int .i64 r.1.f3, .int .i64 r.1.f4, .int .i64 r.1.f5, .slice RA0_6 r.1.f6.length rc0_6], .int .i64 r.2] ∧ St W (mine W []) F w' F' [row (Kn.int .i64) 3 (.slice RA0_6 r.1.f6.length rc0_6) r.1.f6]
set_option maxHeartbeats 4000000 in
set_option maxRecDepth 100000 in
theorem past_ReadDelta.calls (k : Nat) (x0_ : T_api_Data) (A0_0 : Option Addr) (c0_0 : Nat) (A0_1 : Option Addr) (c0_1 : Nat) (r : T_api_Delta × Int) (W F : World) (hown : Sub F W) (g0_0 : Rd (Kn.int .i64) F A0_0 c0_0 x0_.f0) (g0_1 : Rd Kn.string F A0_1 c0_1 x0_.f1) (H : past_ReadDelta.f k x0_ = some r) :
    Calls Try.prog 17 #[.agg #[.slice A0_0 x0_.f0.length c0_0, .slice A0_1 x0_.f1.length c0_1]] W fun e w' => ∃ v, e = .returned v ∧ past_ReadDelta.Post W F r v w' := by
  have hS := St.start (Own.nil hown)
  unfold past_ReadDelta.f at H
  refine enter (n := 51) rfl rfl rfl (Nat.le_of_ble_eq_true rfl) (fun a hE => ?_)
  refine wp_seq_k fun K1 hK1 => ?_
  refine pl0 ?_
  refine ple hE (.bx (t := 36) hS [.slice A0_0 x0_.f0.length c0_0, .slice A0_1 x0_.f1.length c0_1]) ?_
  rintro _ u3 a ⟨b2, rfl, hb2, hS, hg⟩ hE
  refine ple hE (.al (t := 33) hS [.int .i64 0, .int .i64 0, .int .i64 0, .int .i64 0, .int .i64 0, .int .i64 0, .slice none 0 0]) ?_
  rintro _ u5 a ⟨b4, rfl, hb4, hS, hg⟩ hE
  refine plc hE (.r 2 1 .nil) (fun a hE => ?_)
  refine pld ?_
  refine hK1 _ _ ?_
  refine wp_seq_k fun K6 hK6 => ?_
  refine pl0 ?_
  have hb2 := hS.blk_at (i := 1) rfl
  refine plc hE (.r 0 1 <| .b 1 0 hb2 <| .r 2 1 <| .nil) (fun a hE => ?_)
  refine ple hE (.bx (t := 116) hS [.slice A0_0 x0_.f0.length c0_0, .bool false]) ?_
  rintro _ u8 a ⟨b7, rfl, hb7, hS, hg⟩ hE
  refine plc hE (.r 4 1 .nil) (fun a hE => ?_)
  refine pld ?_
  refine hK6 _ _ ?_
  refine wp_seq_k fun K9 hK9 => ?_
  refine pl0 ?_
  refine plc hE (.r 0 1 .nil) (fun a hE => ?_)
  obtain ⟨t11, h12, H⟩ := Option.bind_eq_some_iff.mp H
  refine ple hE (.cl en53 (past_reader_next.calls (⟨x0_.f0, false⟩ : T_past_reader) _ _ _ _ _ _ (Own.left (X := [box b7 #[.slice A0_0 x0_.f0.length c0_0, .bool false] 116]) hS.own) g0_0 h12)) ?_
  rintro _ u10 a ⟨F13, A14, c15, rfl, hC, g16⟩ hE
  have hs := hC.sub
  replace hS := hS.called (X := [box b7 #[.slice A0_0 x0_.f0.length c0_0, .bool false] 116]) hC
  replace g0_0 := g0_0.mono hs
  replace g0_1 := g0_1.mono hs
  refine plc hE (.r 2 1 .nil) (fun a hE => ?_)
  obtain ⟨t18, h19, H⟩ := Option.bind_eq_some_iff.mp H
  refine ple hE (.cl en53 (past_reader_next.calls t11.2 _ _ _ _ _ _ (Own.left (X := [box b7 #[.slice A14 t11.2.f0.length c15, .bool t11.2.f1] 116]) hS.own) g16 h19)) ?_
  rintro _ u17 a ⟨F20, A21, c22, rfl, hC, g23⟩ hE
  have hs := hC.sub
  replace hS := hS.called (X := [box b7 #[.slice A14 t11.2.f0.length c15, .bool t11.2.f1] 116]) hC
  replace g0_0 := g0_0.mono hs
  replace g0_1 := g0_1.mono hs
  replace g16 := g16.mono hs
  refine plc hE (.r 4 1 .nil) (fun a hE => ?_)
  obtain ⟨t25, h26, H⟩ := Option.bind_eq_some_iff.mp H
  refine ple hE (.cl en53 (past_reader_next.calls t18.2 _ _ _ _ _ _ (Own.left (X := [box b7 #[.slice A21 t18.2.f0.length c22, .bool t18.2.f1] 116]) hS.own) g23 h26)) ?_
  rintro _ u24 a ⟨F27, A28, c29, rfl, hC, g30⟩ hE
  have hs := hC.sub
  replace hS := hS.called (X := [box b7 #[.slice A21 t18.2.f0.length c22, .bool t18.2.f1] 116]) hC
  replace g0_0 := g0_0.mono hs
  replace g0_1 := g0_1.mono hs
  replace g23 := g23.mono hs
  refine plc hE (.r 6 1 .nil) (fun a hE => ?_)
  obtain ⟨t32, h33, H⟩ := Option.bind_eq_some_iff.mp H
  refine ple hE (.cl en53 (past_reader_next.calls t25.2 _ _ _ _ _ _ (Own.left (X := [box b7 #[.slice A28 t25.2.f0.length c29, .bool t25.2.f1] 116]) hS.own) g30 h33)) ?_
  rintro _ u31 a ⟨F34, A35, c36, rfl, hC, g37⟩ hE
  have hs := hC.sub
  replace hS := hS.called (X := [box b7 #[.slice A28 t25.2.f0.length c29, .bool t25.2.f1] 116]) hC
  replace g0_0 := g0_0.mono hs
  replace g0_1 := g0_1.mono hs
  replace g30 := g30.mono hs
  refine plc hE (.r 8 1 .nil) (fun a hE => ?_)
  obtain ⟨t39, h40, H⟩ := Option.bind_eq_some_iff.mp H
  refine ple hE (.cl en53 (past_reader_next.calls t32.2 _ _ _ _ _ _ (Own.left (X := [box b7 #[.slice A35 t32.2.f0.length c36, .bool t32.2.f1] 116]) hS.own) g37 h40)) ?_
  rintro _ u38 a ⟨F41, A42, c43, rfl, hC, g44⟩ hE
  have hs := hC.sub
  replace hS := hS.called (X := [box b7 #[.slice A35 t32.2.f0.length c36, .bool t32.2.f1] 116]) hC
  replace g0_0 := g0_0.mono hs
  replace g0_1 := g0_1.mono hs
  replace g37 := g37.mono hs
  refine plc hE (.r 10 1 .nil) (fun a hE => ?_)
  obtain ⟨t46, h47, H⟩ := Option.bind_eq_some_iff.mp H
  refine ple hE (.cl en53 (past_reader_next.calls t39.2 _ _ _ _ _ _ (Own.left (X := [box b7 #[.slice A42 t39.2.f0.length c43, .bool t39.2.f1] 116]) hS.own) g44 h47)) ?_
  rintro _ u45 a ⟨F48, A49, c50, rfl, hC, g51⟩ hE
  have hs := hC.sub
  replace hS := hS.called (X := [box b7 #[.slice A42 t39.2.f0.length c43, .bool t39.2.f1] 116]) hC
  replace g0_0 := g0_0.mono hs
  replace g0_1 := g0_1.mono hs
  replace g44 := g44.mono hs
  refine plc hE (.r 12 1 .nil) (fun a hE => ?_)
  refine ple hE (.al (t := 33) hS [.int .i64 0, .int .i64 0, .int .i64 0, .int .i64 0, .int .i64 0, .int .i64 0, .slice none 0 0]) ?_
  rintro _ u53 a ⟨b52, rfl, hb52, hS, hg⟩ hE
  refine ple hE (.sto hS [.int .i64 t11.1, .int .i64 t18.1, .int .i64 t25.1, .int .i64 t32.1, .int .i64 t39.1, .int .i64 t46.1, .slice none 0 0]) ?_
  rintro _ u54 a ⟨rfl, hb52, hS, hz⟩ hE
  refine pld ?_
  refine hK9 _ _ ?_
  refine wp_seq_k fun K55 hK55 => ?_
  refine pl0 ?_
  refine plc hE (.r 0 1 .nil) (fun a hE => ?_)
  replace hS := hS.front 1 rfl
  obtain ⟨t57, h58, H⟩ := Option.bind_eq_some_iff.mp H
  refine ple hE (.cl en54 (past_reader_list.calls k t46.2 _ _ _ _ _ _ (Own.left (X := [box b7 #[.slice A49 t46.2.f0.length c50, .bool t46.2.f1] 116]) hS.own) g51 h58)) ?_
  rintro _ u56 a ⟨F59, A60, c61, A64, c65, rfl, hC, g66⟩ hE
  have hs := hC.sub
  replace hS := hS.called (X := [box b7 #[.slice A49 t46.2.f0.length c50, .bool t46.2.f1] 116]) hC
  replace g0_0 := g0_0.mono hs
  replace g0_1 := g0_1.mono hs
  replace g51 := g51.mono hs
  refine plc hE (.r 2 1 .nil) (fun a hE => ?_)
  replace hS := hS.front 2 rfl
  refine ple hE (.sto hS [.int .i64 t11.1, .int .i64 t18.1, .int .i64 t25.1, .int .i64 t32.1, .int .i64 t39.1, .int .i64 t46.1, .slice A60 t57.1.length c61]) ?_
  rintro _ u67 a ⟨rfl, hb52, hS, hz⟩ hE
  refine pld ?_
  refine hK55 _ _ ?_
  refine wp_seq_k fun K68 hK68 => ?_
  refine wp_seq_k fun K69 hK69 => ?_
  have J80 : ∀ kq78, kq78 ≤ k → ∀ (G : Nat → Value) (y76 : Bool) (a : Act) (w' : World), Env 51 G a → At G [(2, .pointer (some ⟨b4, 0, none⟩)), (5, .pointer (some ⟨b52, 0, none⟩)), (48, .bool y76)] → St W (mine W []) F w' F59 [box b52 #[.int .i64 t11.1, .int .i64 t18.1, .int .i64 t25.1, .int .i64 t32.1, .int .i64 t39.1, .int .i64 t46.1, .slice A60 t57.1.length c61] 33, box b7 #[.slice A64 t57.2.f0.length c65, .bool t57.2.f1] 116, box b4 #[.int .i64 0, .int .i64 0, .int .i64 0, .int .i64 0, .int .i64 0, .int .i64 0, .slice none 0 0] 33, box b2 #[.slice A0_0 x0_.f0.length c0_0, .slice A0_1 x0_.f1.length c0_1] 36, row (Kn.int .i64) 3 (.slice A60 t57.1.length c61) t57.1] → past_ReadDelta.j77 kq78 t11 t18 t25 t32 t39 t46 t57 y76 = some r → K69 a w' := by
    intro kq78 hkq G y76 a u81 hE hA hS H
    cases kq78 with
    | zero => cases (show none = some r from H)
    | succ k79 =>
      rw [past_ReadDelta.j77_s] at H
      obtain ⟨J, hE⟩ := hE.at hA
      refine hK69 _ _ ?_
      by_cases c82 : y76 = true
      · rw [if_pos c82] at H
        replace hE := hE.bt 48 c82
        refine ct hE ?_
        refine wp_seq_k fun K83 hK83 => ?_
        refine pl0 ?_
        refine plc hE (.r 0 1 .nil) (fun a hE => ?_)
        replace hS := hS.front 2 rfl
        refine ple hE (.sto hS [.int .i64 0, .int .i64 0, .int .i64 0, .int .i64 0, .int .i64 0, .int .i64 0, .slice none 0 0]) ?_
        rintro _ u84 a ⟨rfl, hb4, hS, hz⟩ hE
        refine plc hE (.r 2 1 .nil) (fun a hE => ?_)
        refine pld ?_
        refine hK83 _ _ ?_
        refine wp_ret (then_ret ?_)
        replace hS := hS.nilrow (Kn.int .i64) 3
        replace hS := hS.front 1 rfl
        replace hS := hS.tail
        replace hS := hS.front 1 rfl
        replace hS := hS.tail
        replace hS := hS.front 1 rfl
        replace hS := hS.tail
        replace hS := hS.front 1 rfl
        replace hS := hS.tail
        replace hS := hS.front 1 rfl
        replace hS := hS.tail
        obtain rfl := Option.some.inj H
        exact retN hE rfl (of_decide_eq_true rfl) (.cell (by kernel_rfl) (res_blk [.int .i64 0, .int .i64 0, .int .i64 0, .int .i64 0, .int .i64 0, .int .i64 0, .slice none 0 0] ag33 sz33 hb4 rfl) (.tmp (by kernel_rfl) .nil)) ⟨_, rfl, _, _, _, rfl, hS⟩
      · rw [if_neg c82] at H
        replace hE := hE.bf 48 c82
        refine cf hE ?_
        refine wp_skip ?_
        refine hK68 _ _ ?_
        refine wp_seq_k fun K86 hK86 => ?_
        refine pl0 ?_
        have hb52 := hS.blk_at (i := 0) rfl
        refine plc hE (.bn 0 0 7 hb52 .nil) (fun a hE => ?_)
        replace hS := hS.front 2 rfl
        refine ple hE (.sto hS [.int .i64 t11.1, .int .i64 t18.1, .int .i64 t25.1, .int .i64 t32.1, .int .i64 t39.1, .int .i64 t46.1, .slice A60 t57.1.length c61]) ?_
        rintro _ u87 a ⟨rfl, hb4, hS, hz⟩ hE
        refine plc hE (.r 2 1 .nil) (fun a hE => ?_)
        refine pld ?_
        refine hK86 _ _ ?_
        refine wp_ret ?_
        replace hS := hS.tail
        replace hS := hS.tail
        replace hS := hS.tail
        replace hS := hS.tail
        obtain rfl := Option.some.inj H
        exact retN hE rfl (of_decide_eq_true rfl) (.cell (by kernel_rfl) (res_blk [.int .i64 t11.1, .int .i64 t18.1, .int .i64 t25.1, .int .i64 t32.1, .int .i64 t39.1, .int .i64 t46.1, .slice A60 t57.1.length c61] ag33 sz33 hb4 rfl) (.tmp (by kernel_rfl) .nil)) ⟨_, rfl, _, _, _, rfl, hS⟩
  refine pl0 ?_
  have hb7 := hS.blk_at (i := 1) rfl
  refine plc hE (.r 0 3 <| .b 3 1 hb7 <| .r 4 1 <| .nil) (fun a hE => ?_)
  by_cases c70 : t57.2.f1 = true
  · rw [if_pos c70] at H
    replace hE := hE.bt 30 c70
    refine plc hE (.r 5 18 .nil) (fun a hE => ?_)
    refine pld ?_
    replace hS := hS.front 2 rfl
    replace hS := hS.front 4 rfl
    replace hS := hS.front 4 rfl
    replace hS := hS.front 4 rfl
    replace hS := hS.front 4 rfl
    exact J80 _ (by omega) _ true _ _ hE .of hS H
  · rw [if_neg c70] at H
    replace hE := hE.bf 30 c70
    refine plc hE (.r 5 3 <| .b 8 0 hb7 <| .r 9 4 <| .nil) (fun a hE => ?_)
    by_cases c71 : (t57.2.f0.length : Int) > 0
    · rw [if_pos c71] at H
      replace hE := hE.kt 38 c71
      refine plc hE (.r 13 10 .nil) (fun a hE => ?_)
      refine pld ?_
      replace hS := hS.front 2 rfl
      replace hS := hS.front 4 rfl
      replace hS := hS.front 4 rfl
      replace hS := hS.front 4 rfl
      replace hS := hS.front 4 rfl
      exact J80 _ (by omega) _ true _ _ hE .of hS H
    · rw [if_neg c71] at H
      replace hE := hE.kf 38 c71
      have hb2 := hS.blk_at (i := 4) rfl
      refine plc hE (.r 13 1 <| .b 14 1 hb2 <| .r 15 4 <| .nil) (fun a hE => ?_)
      by_cases c72 : (x0_.f1.length : Int) > 0
      · rw [if_pos c72] at H
        replace hE := hE.kt 44 c72
        refine plc hE (.r 19 4 .nil) (fun a hE => ?_)
        refine pld ?_
        replace hS := hS.front 2 rfl
        replace hS := hS.front 4 rfl
        replace hS := hS.front 4 rfl
        replace hS := hS.front 4 rfl
        replace hS := hS.front 4 rfl
        exact J80 _ (by omega) _ true _ _ hE .of hS H
      · rw [if_neg c72] at H
        replace hE := hE.kf 44 c72
        refine plc hE (.bn 19 0 7 hb52 .nil) (fun a hE => ?_)
        obtain ⟨t74, h75, H⟩ := Option.bind_eq_some_iff.mp H
        refine ple hE (.cl en55 (acceptor_CheckDelta.calls k (⟨t11.1, t18.1, t25.1, t32.1, t39.1, t46.1, t57.1⟩ : T_api_Delta) _ _ _ _ _ (Sub.refl _) (hS.rd_at (i := 2) rfl) h75)) ?_
        rintro _ u73 a ⟨_, rfl, hC⟩ hE
        replace hS := hS.lent hC
        refine plc hE (.r 21 2 .nil) (fun a hE => ?_)
        refine pld ?_
        replace hS := hS.front 2 rfl
        replace hS := hS.front 4 rfl
        replace hS := hS.front 4 rfl
        replace hS := hS.front 4 rfl
        replace hS := hS.front 4 rfl
        exact J80 _ (by omega) _ (!(t74 == 0)) _ _ hE .of hS H

/-! ### windrose/windroseref08.Deltas: function 19 -/
def windroseref08_Deltas.f (k : Nat) (x0_ : T_api_Delta) (x1_ : T_api_Delta) : Option Bool := if x0_.f0 = x1_.f0 then (if x0_.f1 = x1_.f1 then (if x0_.f2 = x1_.f2 then (if x0_.f3 = x1_.f3 then (if x0_.f4 = x1_.f4 then (if x0_.f5 = x1_.f5 then ((windroseref02_Ints.f k x0_.f6 x1_.f6).bind fun t14 => (some t14)) else (some false)) else (some false)) else (some false)) else (some false)) else (some false)) else (some false)
def windroseref08_Deltas.Post (W F : World) (r : Bool) (v : Value) (w' : World) : Prop := ∃ (F' : World), v = .bool r ∧ St W (mine W []) F w' F' []
set_option maxHeartbeats 4000000 in
set_option maxRecDepth 100000 in
theorem windroseref08_Deltas.calls (k : Nat) (x0_ : T_api_Delta) (x1_ : T_api_Delta) (A0_6 : Option Addr) (c0_6 : Nat) (A1_6 : Option Addr) (c1_6 : Nat) (r : Bool) (W F : World) (hown : Sub F W) (g0_6 : Rd (Kn.int .i64) F A0_6 c0_6 x0_.f6) (g1_6 : Rd (Kn.int .i64) F A1_6 c1_6 x1_.f6) (H : windroseref08_Deltas.f k x0_ x1_ = some r) :
    Calls Try.prog 19 #[.agg #[.int .i64 x0_.f0, .int .i64 x0_.f1, .int .i64 x0_.f2, .int .i64 x0_.f3, .int .i64 x0_.f4, .int .i64 x0_.f5, .slice A0_6 x0_.f6.length c0_6], .agg #[.int .i64 x1_.f0, .int .i64 x1_.f1, .int .i64 x1_.f2, .int .i64 x1_.f3, .int .i64 x1_.f4, .int .i64 x1_.f5, .slice A1_6 x1_.f6.length c1_6]] W fun e w' => ∃ v, e = .returned v ∧ windroseref08_Deltas.Post W F r v w' := by
  have hS := St.start (Own.nil hown)
  unfold windroseref08_Deltas.f at H
  refine enter (n := 52) rfl rfl rfl (Nat.le_of_ble_eq_true rfl) (fun a hE => ?_)
  refine wp_seq_k fun K1 hK1 => ?_
  refine pl0 ?_
  refine ple hE (.bx (t := 33) hS [.int .i64 x0_.f0, .int .i64 x0_.f1, .int .i64 x0_.f2, .int .i64 x0_.f3, .int .i64 x0_.f4, .int .i64 x0_.f5, .slice A0_6 x0_.f6.length c0_6]) ?_
  rintro _ u3 a ⟨b2, rfl, hb2, hS, hg⟩ hE
  refine ple hE (.bx (t := 33) hS [.int .i64 x1_.f0, .int .i64 x1_.f1, .int .i64 x1_.f2, .int .i64 x1_.f3, .int .i64 x1_.f4, .int .i64 x1_.f5, .slice A1_6 x1_.f6.length c1_6]) ?_
  rintro _ u5 a ⟨b4, rfl, hb4, hS, hg⟩ hE
  refine plc hE (.r 2 1 .nil) (fun a hE => ?_)
  refine pld ?_
  refine hK1 _ _ ?_
  refine wp_seq_k fun K6 hK6 => ?_
  refine pl0 ?_
  have hb2 := hS.blk_at (i := 1) rfl
  refine plc hE (.r 0 1 <| .b 1 0 hb2 <| .r 2 1 <| .b 3 0 hb4 <| .r 4 2 <| .nil) (fun a hE => ?_)
  by_cases c7 : x0_.f0 = x1_.f0
  · rw [if_pos c7] at H
    replace hE := hE.kt 10 c7
    refine plc hE (.r 6 1 <| .b 7 1 hb2 <| .r 8 1 <| .b 9 1 hb4 <| .r 10 3 <| .nil) (fun a hE => ?_)
    by_cases c8 : x0_.f1 = x1_.f1
    · rw [if_pos c8] at H
      replace hE := hE.kt 17 c8
      refine plc hE (.r 13 1 <| .b 14 2 hb2 <| .r 15 1 <| .b 16 2 hb4 <| .r 17 3 <| .nil) (fun a hE => ?_)
      by_cases c9 : x0_.f2 = x1_.f2
      · rw [if_pos c9] at H
        replace hE := hE.kt 24 c9
        refine plc hE (.r 20 1 <| .b 21 3 hb2 <| .r 22 1 <| .b 23 3 hb4 <| .r 24 3 <| .nil) (fun a hE => ?_)
        by_cases c10 : x0_.f3 = x1_.f3
        · rw [if_pos c10] at H
          replace hE := hE.kt 31 c10
          refine plc hE (.r 27 1 <| .b 28 4 hb2 <| .r 29 1 <| .b 30 4 hb4 <| .r 31 3 <| .nil) (fun a hE => ?_)
          by_cases c11 : x0_.f4 = x1_.f4
          · rw [if_pos c11] at H
            replace hE := hE.kt 38 c11
            refine plc hE (.r 34 1 <| .b 35 5 hb2 <| .r 36 1 <| .b 37 5 hb4 <| .r 38 3 <| .nil) (fun a hE => ?_)
            by_cases c12 : x0_.f5 = x1_.f5
            · rw [if_pos c12] at H
              replace hE := hE.kt 45 c12
              refine plc hE (.r 41 1 <| .b 42 6 hb2 <| .r 43 1 <| .b 44 6 hb4 <| .nil) (fun a hE => ?_)
              obtain ⟨t14, h15, H⟩ := Option.bind_eq_some_iff.mp H
              refine ple hE (.cl en44 (windroseref02_Ints.calls k x0_.f6 x1_.f6 _ _ _ _ _ _ _ hS.own.sub g0_6 g1_6 h15)) ?_
              rintro _ u13 a ⟨_, rfl, hC⟩ hE
              replace hS := hS.lent hC
              refine plc hE (.r 46 2 .nil) (fun a hE => ?_)
              refine pld ?_
              refine hK6 _ _ ?_
              refine wp_ret ?_
              replace hS := hS.tail
              replace hS := hS.tail
              obtain rfl := Option.some.inj H
              exact rt1 hE ⟨_, rfl, _, rfl, hS⟩
            · rw [if_neg c12] at H
              replace hE := hE.kf 45 c12
              refine plc hE (.r 41 7 .nil) (fun a hE => ?_)
              refine pld ?_
              refine hK6 _ _ ?_
              refine wp_ret ?_
              replace hS := hS.tail
              replace hS := hS.tail
              obtain rfl := Option.some.inj H
              exact rt1 hE ⟨_, rfl, _, rfl, hS⟩
          · rw [if_neg c11] at H
            replace hE := hE.kf 38 c11
            refine plc hE (.r 34 14 .nil) (fun a hE => ?_)
            refine pld ?_
            refine hK6 _ _ ?_
            refine wp_ret ?_
            replace hS := hS.tail
            replace hS := hS.tail
            obtain rfl := Option.some.inj H
            exact rt1 hE ⟨_, rfl, _, rfl, hS⟩
        · rw [if_neg c10] at H
          replace hE := hE.kf 31 c10
          refine plc hE (.r 27 21 .nil) (fun a hE => ?_)
          refine pld ?_
          refine hK6 _ _ ?_
          refine wp_ret ?_
          replace hS := hS.tail
          replace hS := hS.tail
          obtain rfl := Option.some.inj H
          exact rt1 hE ⟨_, rfl, _, rfl, hS⟩
      · rw [if_neg c9] at H
        replace hE := hE.kf 24 c9
        refine plc hE (.r 20 28 .nil) (fun a hE => ?_)
        refine pld ?_
        refine hK6 _ _ ?_
        refine wp_ret ?_
        replace hS := hS.tail
        replace hS := hS.tail
        obtain rfl := Option.some.inj H
        exact rt1 hE ⟨_, rfl, _, rfl, hS⟩
    · rw [if_neg c8] at H
      replace hE := hE.kf 17 c8
      refine plc hE (.r 13 35 .nil) (fun a hE => ?_)
      refine pld ?_
      refine hK6 _ _ ?_
      refine wp_ret ?_
      replace hS := hS.tail
      replace hS := hS.tail
      obtain rfl := Option.some.inj H
      exact rt1 hE ⟨_, rfl, _, rfl, hS⟩
  · rw [if_neg c7] at H
    replace hE := hE.kf 10 c7
    refine plc hE (.r 6 42 .nil) (fun a hE => ?_)
    refine pld ?_
    refine hK6 _ _ ?_
    refine wp_ret ?_
    replace hS := hS.tail
    replace hS := hS.tail
    obtain rfl := Option.some.inj H
    exact rt1 hE ⟨_, rfl, _, rfl, hS⟩

/-! ### windrose/windroseref16.in: function 57 -/
def windroseref16_in.f (x0_ : Int) : Option Bool := if x0_ ≥ 0 then (some (decide (x0_ < 2147483648))) else (some false)
def windroseref16_in.Post (W F : World) (r : Bool) (v : Value) (w' : World) : Prop := ∃ (F' : World), v = .bool r ∧ St W (mine W []) F w' F' []
set_option maxHeartbeats 4000000 in
set_option maxRecDepth 100000 in
theorem windroseref16_in.calls (x0_ : Int) (r : Bool) (W F : World) (hown : Sub F W) (H : windroseref16_in.f x0_ = some r) :
    Calls Try.prog 57 #[.int .i64 x0_] W fun e w' => ∃ v, e = .returned v ∧ windroseref16_in.Post W F r v w' := by
  have hS := St.start (Own.nil hown)
  unfold windroseref16_in.f at H
  refine enter (n := 9) rfl rfl rfl (Nat.le_of_ble_eq_true rfl) (fun a hE => ?_)
  refine wp_seq_k fun K1 hK1 => ?_
  refine pl0 ?_
  refine plc hE (.r 0 1 .nil) (fun a hE => ?_)
  refine pld ?_
  refine hK1 _ _ ?_
  refine wp_seq_k fun K2 hK2 => ?_
  refine pl0 ?_
  refine plc hE (.r 0 3 .nil) (fun a hE => ?_)
  by_cases c3 : x0_ ≥ 0
  · rw [if_pos c3] at H
    replace hE := hE.kt 5 c3
    refine plc hE (.r 3 4 .nil) (fun a hE => ?_)
    refine pld ?_
    refine hK2 _ _ ?_
    refine wp_ret ?_
    obtain rfl := Option.some.inj H
    exact rt1 hE ⟨_, rfl, _, rfl, hS⟩
  · rw [if_neg c3] at H
    replace hE := hE.kf 5 c3
    refine plc hE (.r 3 4 .nil) (fun a hE => ?_)
    refine pld ?_
    refine hK2 _ _ ?_
    refine wp_ret ?_
    obtain rfl := Option.some.inj H
    exact rt1 hE ⟨_, rfl, _, rfl, hS⟩

/-! ### windrose/windroseref08.Bare: function 58 -/
def windroseref08_Bare.f (x0_ : T_api_Delta) : Option T_api_Delta := if x0_.f0 = 1 then (some (⟨x0_.f0, x0_.f1, x0_.f2, x0_.f3, x0_.f4, 0, []⟩ : T_api_Delta)) else (if x0_.f0 = 2 then (some (⟨x0_.f0, x0_.f1, 0, 0, x0_.f4, 0, []⟩ : T_api_Delta)) else (if x0_.f0 = 8 then (some (⟨x0_.f0, 0, 0, 0, 0, x0_.f5, x0_.f6⟩ : T_api_Delta)) else (if x0_.f0 = 9 then (some (⟨x0_.f0, 0, 0, 0, 0, 0, []⟩ : T_api_Delta)) else (if x0_.f0 = 10 then (some (⟨x0_.f0, 0, 0, 0, x0_.f4, x0_.f5, []⟩ : T_api_Delta)) else (some (⟨x0_.f0, x0_.f1, 0, 0, 0, 0, []⟩ : T_api_Delta))))))
def windroseref08_Bare.Post (W F : World) (r : T_api_Delta) (v : Value) (w' : World) : Prop := ∃ (F' : World) (RA0_6 : Option Addr) (rc0_6 : Nat), v = .agg #[.int .i64 r.f0, .int .i64 r.f1, .int .i64 r.f2, .int .i64 r.f3, .int .i64 r.f4, .int .i64 r.f5, .slice RA0_6 r.f6.length rc0_6] ∧ St W (mine W []) F w' F' [] ∧ Rd (Kn.int .i64) F' RA0_6 rc0_6 r.f6
set_option maxHeartbeats 4000000 in
set_option maxRecDepth 100000 in
theorem windroseref08_Bare.calls (x0_ : T_api_Delta) (A0_6 : Option Addr) (c0_6 : Nat) (r : T_api_Delta) (W F : World) (hown : Sub F W) (g0_6 : Rd (Kn.int .i64) F A0_6 c0_6 x0_.f6) (H : windroseref08_Bare.f x0_ = some r) :
    Calls Try.prog 58 #[.agg #[.int .i64 x0_.f0, .int .i64 x0_.f1, .int .i64 x0_.f2, .int .i64 x0_.f3, .int .i64 x0_.f4, .int .i64 x0_.f5, .slice A0_6 x0_.f6.length c0_6]] W fun e w' => ∃ v, e = .returned v ∧ windroseref08_Bare.Post W F r v w' := by
  have hS := St.start (Own.nil hown)
  unfold windroseref08_Bare.f at H
  refine enter (n := 55) rfl rfl rfl (Nat.le_of_ble_eq_true rfl) (fun a hE => ?_)
  refine wp_seq_k fun K1 hK1 => ?_
  refine pl0 ?_
  refine ple hE (.bx (t := 33) hS [.int .i64 x0_.f0, .int .i64 x0_.f1, .int .i64 x0_.f2, .int .i64 x0_.f3, .int .i64 x0_.f4, .int .i64 x0_.f5, .slice A0_6 x0_.f6.length c0_6]) ?_
  rintro _ u3 a ⟨b2, rfl, hb2, hS, hg⟩ hE
  refine ple hE (.al (t := 33) hS [.int .i64 0, .int .i64 0, .int .i64 0, .int .i64 0, .int .i64 0, .int .i64 0, .slice none 0 0]) ?_
  rintro _ u5 a ⟨b4, rfl, hb4, hS, hg⟩ hE
  refine pld ?_
  refine hK1 _ _ ?_
  refine wp_seq_k fun K6 hK6 => ?_
  refine wp_seq_k fun K7 hK7 => ?_
  refine pl0 ?_
  have hb2 := hS.blk_at (i := 1) rfl
  refine plc hE (.r 0 1 <| .b 1 0 hb2 <| .nil) (fun a hE => ?_)
  refine pld ?_
  refine hK7 _ _ ?_
  refine wp_block ?_
  refine wp_seq_k fun K8 hK8 => ?_
  refine pl0 ?_
  refine plc hE (.r 0 2 .nil) (fun a hE => ?_)
  refine pld ?_
  refine hK8 _ _ ?_
  by_cases c9 : x0_.f0 = 1
  · rw [if_pos c9] at H
    replace hE := hE.kt 5 c9
    refine ct hE ?_
    refine wp_seq_k fun K10 hK10 => ?_
    refine pl0 ?_
    refine plc hE (.r 0 1 <| .b 1 0 hb2 <| .r 2 1 <| .b 3 1 hb2 <| .r 4 1 <| .b 5 2 hb2 <| .r 6 1 <| .b 7 3 hb2 <| .r 8 1 <| .b 9 4 hb2 <| .r 10 1 <| .nil) (fun a hE => ?_)
    refine ple hE (.sto hS [.int .i64 x0_.f0, .int .i64 x0_.f1, .int .i64 x0_.f2, .int .i64 x0_.f3, .int .i64 x0_.f4, .int .i64 0, .slice none 0 0]) ?_
    rintro _ u11 a ⟨rfl, hb4, hS, hz⟩ hE
    refine pld ?_
    refine hK10 _ _ ?_
    refine wp_ret (block_ret (then_ret ?_))
    replace hS := hS.tail
    replace hS := hS.tail
    obtain rfl := Option.some.inj H
    exact ret1 hE rfl (.cell (by kernel_rfl) (res_blk [.int .i64 x0_.f0, .int .i64 x0_.f1, .int .i64 x0_.f2, .int .i64 x0_.f3, .int .i64 x0_.f4, .int .i64 0, .slice none 0 0] ag33 sz33 hb4 rfl) .nil) ⟨_, rfl, _, _, _, rfl, hS, (Rd.nil _ _)⟩
  · rw [if_neg c9] at H
    replace hE := hE.kf 5 c9
    refine cf hE ?_
    refine wp_seq_k fun K12 hK12 => ?_
    refine pl0 ?_
    refine plc hE (.r 0 2 .nil) (fun a hE => ?_)
    refine pld ?_
    refine hK12 _ _ ?_
    by_cases c13 : x0_.f0 = 2
    · rw [if_pos c13] at H
      replace hE := hE.kt 18 c13
      refine ct hE ?_
      refine wp_seq_k fun K14 hK14 => ?_
      refine pl0 ?_
      refine plc hE (.r 0 1 <| .b 1 0 hb2 <| .r 2 1 <| .b 3 1 hb2 <| .r 4 1 <| .b 5 4 hb2 <| .r 6 1 <| .nil) (fun a hE => ?_)
      refine ple hE (.sto hS [.int .i64 x0_.f0, .int .i64 x0_.f1, .int .i64 0, .int .i64 0, .int .i64 x0_.f4, .int .i64 0, .slice none 0 0]) ?_
      rintro _ u15 a ⟨rfl, hb4, hS, hz⟩ hE
      refine pld ?_
      refine hK14 _ _ ?_
      refine wp_ret (block_ret (then_ret ?_))
      replace hS := hS.tail
      replace hS := hS.tail
      obtain rfl := Option.some.inj H
      exact ret1 hE rfl (.cell (by kernel_rfl) (res_blk [.int .i64 x0_.f0, .int .i64 x0_.f1, .int .i64 0, .int .i64 0, .int .i64 x0_.f4, .int .i64 0, .slice none 0 0] ag33 sz33 hb4 rfl) .nil) ⟨_, rfl, _, _, _, rfl, hS, (Rd.nil _ _)⟩
    · rw [if_neg c13] at H
      replace hE := hE.kf 18 c13
      refine cf hE ?_
      refine wp_seq_k fun K16 hK16 => ?_
      refine pl0 ?_
      refine plc hE (.r 0 2 .nil) (fun a hE => ?_)
      refine pld ?_
      refine hK16 _ _ ?_
      by_cases c17 : x0_.f0 = 8
      · rw [if_pos c17] at H
        replace hE := hE.kt 27 c17
        refine ct hE ?_
        refine wp_seq_k fun K18 hK18 => ?_
        refine pl0 ?_
        refine plc hE (.r 0 1 <| .b 1 0 hb2 <| .r 2 1 <| .b 3 5 hb2 <| .r 4 1 <| .b 5 6 hb2 <| .r 6 1 <| .nil) (fun a hE => ?_)
        refine ple hE (.sto hS [.int .i64 x0_.f0, .int .i64 0, .int .i64 0, .int .i64 0, .int .i64 0, .int .i64 x0_.f5, .slice A0_6 x0_.f6.length c0_6]) ?_
        rintro _ u19 a ⟨rfl, hb4, hS, hz⟩ hE
        refine pld ?_
        refine hK18 _ _ ?_
        refine wp_ret (block_ret (then_ret ?_))
        replace hS := hS.tail
        replace hS := hS.tail
        obtain rfl := Option.some.inj H
        exact ret1 hE rfl (.cell (by kernel_rfl) (res_blk [.int .i64 x0_.f0, .int .i64 0, .int .i64 0, .int .i64 0, .int .i64 0, .int .i64 x0_.f5, .slice A0_6 x0_.f6.length c0_6] ag33 sz33 hb4 rfl) .nil) ⟨_, rfl, _, _, _, rfl, hS, g0_6⟩
      · rw [if_neg c17] at H
        replace hE := hE.kf 27 c17
        refine cf hE ?_
        refine wp_seq_k fun K20 hK20 => ?_
        refine pl0 ?_
        refine plc hE (.r 0 2 .nil) (fun a hE => ?_)
        refine pld ?_
        refine hK20 _ _ ?_
        by_cases c21 : x0_.f0 = 9
        · rw [if_pos c21] at H
          replace hE := hE.kt 36 c21
          refine ct hE ?_
          refine wp_seq_k fun K22 hK22 => ?_
          refine pl0 ?_
          refine plc hE (.r 0 1 <| .b 1 0 hb2 <| .r 2 1 <| .nil) (fun a hE => ?_)
          refine ple hE (.sto hS [.int .i64 x0_.f0, .int .i64 0, .int .i64 0, .int .i64 0, .int .i64 0, .int .i64 0, .slice none 0 0]) ?_
          rintro _ u23 a ⟨rfl, hb4, hS, hz⟩ hE
          refine pld ?_
          refine hK22 _ _ ?_
          refine wp_ret (block_ret (then_ret ?_))
          replace hS := hS.tail
          replace hS := hS.tail
          obtain rfl := Option.some.inj H
          exact ret1 hE rfl (.cell (by kernel_rfl) (res_blk [.int .i64 x0_.f0, .int .i64 0, .int .i64 0, .int .i64 0, .int .i64 0, .int .i64 0, .slice none 0 0] ag33 sz33 hb4 rfl) .nil) ⟨_, rfl, _, _, _, rfl, hS, (Rd.nil _ _)⟩
        · rw [if_neg c21] at H
          replace hE := hE.kf 36 c21
          refine cf hE ?_
          refine wp_seq_k fun K24 hK24 => ?_
          refine pl0 ?_
          refine plc hE (.r 0 2 .nil) (fun a hE => ?_)
          refine pld ?_
          refine hK24 _ _ ?_
          by_cases c25 : x0_.f0 = 10
          · rw [if_pos c25] at H
            replace hE := hE.kt 41 c25
            refine ct hE ?_
            refine wp_seq_k fun K26 hK26 => ?_
            refine pl0 ?_
            refine plc hE (.r 0 1 <| .b 1 0 hb2 <| .r 2 1 <| .b 3 5 hb2 <| .r 4 1 <| .b 5 4 hb2 <| .r 6 1 <| .nil) (fun a hE => ?_)
            refine ple hE (.sto hS [.int .i64 x0_.f0, .int .i64 0, .int .i64 0, .int .i64 0, .int .i64 x0_.f4, .int .i64 x0_.f5, .slice none 0 0]) ?_
            rintro _ u27 a ⟨rfl, hb4, hS, hz⟩ hE
            refine pld ?_
            refine hK26 _ _ ?_
            refine wp_ret (block_ret (then_ret ?_))
            replace hS := hS.tail
            replace hS := hS.tail
            obtain rfl := Option.some.inj H
            exact ret1 hE rfl (.cell (by kernel_rfl) (res_blk [.int .i64 x0_.f0, .int .i64 0, .int .i64 0, .int .i64 0, .int .i64 x0_.f4, .int .i64 x0_.f5, .slice none 0 0] ag33 sz33 hb4 rfl) .nil) ⟨_, rfl, _, _, _, rfl, hS, (Rd.nil _ _)⟩
          · rw [if_neg c25] at H
            replace hE := hE.kf 41 c25
            refine cf hE ?_
            refine wp_skip ?_
            refine hK6 _ _ ?_
            refine wp_seq_k fun K28 hK28 => ?_
            refine pl0 ?_
            refine plc hE (.r 0 1 <| .b 1 0 hb2 <| .r 2 1 <| .b 3 1 hb2 <| .r 4 1 <| .nil) (fun a hE => ?_)
            refine ple hE (.sto hS [.int .i64 x0_.f0, .int .i64 x0_.f1, .int .i64 0, .int .i64 0, .int .i64 0, .int .i64 0, .slice none 0 0]) ?_
            rintro _ u29 a ⟨rfl, hb4, hS, hz⟩ hE
            refine pld ?_
            refine hK28 _ _ ?_
            refine wp_ret ?_
            replace hS := hS.tail
            replace hS := hS.tail
            obtain rfl := Option.some.inj H
            exact ret1 hE rfl (.cell (by kernel_rfl) (res_blk [.int .i64 x0_.f0, .int .i64 x0_.f1, .int .i64 0, .int .i64 0, .int .i64 0, .int .i64 0, .slice none 0 0] ag33 sz33 hb4 rfl) .nil) ⟨_, rfl, _, _, _, rfl, hS, (Rd.nil _ _)⟩

/-! ### windrose/windroseref16.Delta: function 21 -/
def windroseref16_Delta.l7 : Nat → T_api_Delta → Int → Option Bool
  | 0, _, _ => none
  | k + 1, x0_, x6 => if x6 < (x0_.f6.length : Int) then (if 0 ≤ x6 ∧ x6 < (x0_.f6.length : Int) then ((windroseref16_in.f (nth 0 x0_.f6 x6)).bind fun t22 => (if t22 = true then (windroseref16_Delta.l7 k x0_ (w64 (x6 + 1))) else (some false))) else (none)) else (if x0_.f0 ≥ 1 then (if x0_.f0 ≤ 10 then ((windroseref08_Bare.f x0_).bind fun t30 => ((windroseref08_Deltas.f k x0_ t30).bind fun t37 => (if t37 = true then (if (x0_.f6.length : Int) ≤ 3 then ((windroseref16_in.f x0_.f1).bind fun t42 => (if t42 = true then ((windroseref16_in.f x0_.f2).bind fun t46 => (if t46 = true then ((windroseref16_in.f x0_.f3).bind fun t50 => (if t50 = true then ((windroseref16_in.f x0_.f4).bind fun t54 => (if t54 = true then ((windroseref16_in.f x0_.f5).bind fun t58 => (some t58)) else (some false))) else (some false))) else (some false))) else (some false))) else (some false)) else (some false)))) else (some false)) else (some false))
theorem windroseref16_Delta.l7_s (k : Nat) (x0_ : T_api_Delta) (x6 : Int) : windroseref16_Delta.l7 (k + 1) x0_ x6 = (if x6 < (x0_.f6.length : Int) then (if 0 ≤ x6 ∧ x6 < (x0_.f6.length : Int) then ((windroseref16_in.f (nth 0 x0_.f6 x6)).bind fun t22 => (if t22 = true then (windroseref16_Delta.l7 k x0_ (w64 (x6 + 1))) else (some false))) else (none)) else (if x0_.f0 ≥ 1 then (if x0_.f0 ≤ 10 then ((windroseref08_Bare.f x0_).bind fun t30 => ((windroseref08_Deltas.f k x0_ t30).bind fun t37 => (if t37 = true then (if (x0_.f6.length : Int) ≤ 3 then ((windroseref16_in.f x0_.f1).bind fun t42 => (if t42 = true then ((windroseref16_in.f x0_.f2).bind fun t46 => (if t46 = true then ((windroseref16_in.f x0_.f3).bind fun t50 => (if t50 = true then ((windroseref16_in.f x0_.f4).bind fun t54 => (if t54 = true then ((windroseref16_in.f x0_.f5).bind fun t58 => (some t58)) else (some false))) else (some false))) else (some false))) else (some false))) else (some false)) else (some false)))) else (some false)) else (some false))) := by kernel_rfl
def windroseref16_Delta.f (k : Nat) (x0_ : T_api_Delta) : Option Bool := windroseref16_Delta.l7 k x0_ 0
def windroseref16_Delta.Post (W F : World) (r : Bool) (v : Value) (w' : World) : Prop := ∃ (F' : World), v = .bool r ∧ St W (mine W []) F w' F' []
set_option maxHeartbeats 4000000 in
set_option maxRecDepth 100000 in
theorem windroseref16_Delta.calls (k : Nat) (x0_ : T_api_Delta) (A0_6 : Option Addr) (c0_6 : Nat) (r : Bool) (W F : World) (hown : Sub F W) (g0_6 : Rd (Kn.int .i64) F A0_6 c0_6 x0_.f6) (H : windroseref16_Delta.f k x0_ = some r) :
    Calls Try.prog 21 #[.agg #[.int .i64 x0_.f0, .int .i64 x0_.f1, .int .i64 x0_.f2, .int .i64 x0_.f3, .int .i64 x0_.f4, .int .i64 x0_.f5, .slice A0_6 x0_.f6.length c0_6]] W fun e w' => ∃ v, e = .returned v ∧ windroseref16_Delta.Post W F r v w' := by
  have hS := St.start (Own.nil hown)
  unfold windroseref16_Delta.f at H
  refine enter (n := 63) rfl rfl rfl (Nat.le_of_ble_eq_true rfl) (fun a hE => ?_)
  refine wp_seq_k fun K1 hK1 => ?_
  refine pl0 ?_
  refine ple hE (.bx (t := 33) hS [.int .i64 x0_.f0, .int .i64 x0_.f1, .int .i64 x0_.f2, .int .i64 x0_.f3, .int .i64 x0_.f4, .int .i64 x0_.f5, .slice A0_6 x0_.f6.length c0_6]) ?_
  rintro _ u3 a ⟨b2, rfl, hb2, hS, hg⟩ hE
  refine plc hE (.r 1 1 .nil) (fun a hE => ?_)
  refine pld ?_
  refine hK1 _ _ ?_
  refine wp_seq_k fun K4 hK4 => ?_
  refine wp_seq_k fun K5 hK5 => ?_
  refine pl0 ?_
  refine plc hE (.r 0 1 .nil) (fun a hE => ?_)
  refine pld ?_
  refine hK5 _ _ ?_
  refine wp_block ?_
  refine wp_loop_ghost (fun kq8 a w' => ∃ (G : Nat → Value) (x6 : Int), Env 63 G a ∧ At G [(1, .pointer (some ⟨b2, 0, none⟩)), (3, .int .i64 x6)] ∧ St W (mine W []) F w' F [box b2 #[.int .i64 x0_.f0, .int .i64 x0_.f1, .int .i64 x0_.f2, .int .i64 x0_.f3, .int .i64 x0_.f4, .int .i64 x0_.f5, .slice A0_6 x0_.f6.length c0_6] 33] ∧  windroseref16_Delta.l7 kq8 x0_ x6 = some r) k ⟨_, 0, hE, .of, hS, H⟩ ?_
  rintro kq8 a u10 ⟨G, x6, hE, hA, hS, H⟩
  cases kq8 with
  | zero => cases (show none = some r from H)
  | succ k9 =>
    rw [windroseref16_Delta.l7_s] at H
    obtain ⟨J, hE⟩ := hE.at hA
    refine wp_seq_k fun K11 hK11 => ?_
    refine wp_seq_k fun K12 hK12 => ?_
    refine pl0 ?_
    have hb2 := hS.blk_at (i := 0) rfl
    refine plc hE (.r 0 2 <| .b 2 6 hb2 <| .r 3 2 <| .nil) (fun a hE => ?_)
    refine pld ?_
    refine hK12 _ _ ?_
    by_cases c13 : x6 < (x0_.f6.length : Int)
    · rw [if_pos c13] at H
      replace hE := hE.kt 8 c13
      refine ct hE ?_
      refine wp_skip ?_
      refine hK11 _ _ ?_
      refine wp_seq_k fun K14 hK14 => ?_
      refine wp_block ?_
      refine wp_seq_k fun K15 hK15 => ?_
      refine pl0 ?_
      by_cases c16 : 0 ≤ x6 ∧ x6 < (x0_.f6.length : Int)
      rotate_left
      · rw [if_neg c16] at H; cases H
      rw [if_pos c16] at H
      obtain ⟨ad17, rfl⟩ := g0_6.addr c16.1 c16.2
      obtain ⟨cs19, rfl, hc20⟩ := g0_6.el 0 x6 c16.1 c16.2
      refine plc hE (.r 0 1 <| .b 1 6 hb2 <| .r 2 1 <| .x 3 c16 <| .c 4 (hS.fc hc20 0) <| .nil) (fun a hE => ?_)
      obtain ⟨t22, h23, H⟩ := Option.bind_eq_some_iff.mp H
      refine ple hE (.cl en57 (windroseref16_in.calls (nth 0 x0_.f6 x6) _ _ _ hS.own.sub h23)) ?_
      rintro _ u21 a ⟨_, rfl, hC⟩ hE
      replace hS := hS.lent hC
      refine plc hE (.r 6 1 .nil) (fun a hE => ?_)
      refine pld ?_
      refine hK15 _ _ ?_
      by_cases c24 : t22 = true
      · rw [if_pos c24] at H
        replace hE := hE.btn 17 c24
        refine cf hE ?_
        refine wp_skip ?_
        refine hK14 _ _ ?_
        refine pl0 ?_
        refine plc hE (.r 0 3 .nil) (fun a hE => ?_)
        refine pld ?_
        exact then_n ⟨k9, by omega, _, (w64 (x6 + 1)), hE, .of, hS, H⟩
      · rw [if_neg c24] at H
        replace hE := hE.bfn 17 c24
        refine ct hE ?_
        refine wp_seq_k fun K25 hK25 => ?_
        refine pl0 ?_
        refine plc hE (.r 0 1 .nil) (fun a hE => ?_)
        refine pld ?_
        refine hK25 _ _ ?_
        refine wp_ret (block_ret (then_ret (then_ret (block_ret (then_ret ?_)))))
        replace hS := hS.tail
        obtain rfl := Option.some.inj H
        exact rt1 hE ⟨_, rfl, _, rfl, hS⟩
    · rw [if_neg c13] at H
      replace hE := hE.kf 8 c13
      refine cf hE ?_
      refine wp_exit ?_
      refine hK4 _ _ ?_
      refine wp_seq_k fun K26 hK26 => ?_
      refine drawn 46 [] mixed rfl (by kernel_rfl) (fun hst => ?_)
      replace hS := hS.drew
      have hb2 := hS.blk_at (i := 0) rfl
      refine mny hst hE (.r 0 1 <| .b 1 0 hb2 <| .r 2 2 <| .nil) (fun a hE => ?_)
      by_cases c27 : x0_.f0 ≥ 1
      · rw [if_pos c27] at H
        replace hE := hE.kt 21 c27
        refine mny hst hE (.r 4 1 <| .b 5 0 hb2 <| .r 6 3 <| .nil) (fun a hE => ?_)
        by_cases c28 : x0_.f0 ≤ 10
        · rw [if_pos c28] at H
          replace hE := hE.kt 26 c28
          refine mny hst hE (.bn 9 0 7 hb2 <| .bn 10 0 7 hb2 <| .nil) (fun a hE => ?_)
          obtain ⟨t30, h31, H⟩ := Option.bind_eq_some_iff.mp H
          refine on1 11 hE (.cl en58 (windroseref08_Bare.calls x0_ _ _ _ _ _ hS.own.sub g0_6 h31)) ?_
          rintro _ u29 a ⟨F32, A33, c34, rfl, hC, g35⟩ hE
          refine ⟨fun _ => hC.agr, ?_⟩
          have hs := hC.sub
          replace hS := hS.called (X := []) hC
          replace g0_6 := g0_6.mono hs
          obtain ⟨t37, h38, H⟩ := Option.bind_eq_some_iff.mp H
          refine on1 12 hE (.cl en19 (windroseref08_Deltas.calls k9 x0_ t30 _ _ _ _ _ _ _ hS.own.sub g0_6 g35 h38)) ?_
          rintro _ u36 a ⟨_, rfl, hC⟩ hE
          refine ⟨fun _ => hC.agr, ?_⟩
          replace hS := hS.lent hC
          refine mny hst hE (.r 13 2 .nil) (fun a hE => ?_)
          by_cases c39 : t37 = true
          · rw [if_pos c39] at H
            replace hE := hE.bt 32 c39
            have hb2 := hS.blk_at (i := 0) rfl
            refine mny hst hE (.r 15 1 <| .b 16 6 hb2 <| .r 17 4 <| .nil) (fun a hE => ?_)
            by_cases c40 : (x0_.f6.length : Int) ≤ 3
            · rw [if_pos c40] at H
              replace hE := hE.kt 38 c40
              refine mny hst hE (.r 21 1 <| .b 22 1 hb2 <| .nil) (fun a hE => ?_)
              obtain ⟨t42, h43, H⟩ := Option.bind_eq_some_iff.mp H
              refine on1 23 hE (.cl en57 (windroseref16_in.calls x0_.f1 _ _ _ hS.own.sub h43)) ?_
              rintro _ u41 a ⟨_, rfl, hC⟩ hE
              refine ⟨fun _ => hC.agr, ?_⟩
              replace hS := hS.lent hC
              refine mny hst hE (.r 24 2 .nil) (fun a hE => ?_)
              by_cases c44 : t42 = true
              · rw [if_pos c44] at H
                replace hE := hE.bt 43 c44
                have hb2 := hS.blk_at (i := 0) rfl
                refine mny hst hE (.r 26 1 <| .b 27 2 hb2 <| .nil) (fun a hE => ?_)
                obtain ⟨t46, h47, H⟩ := Option.bind_eq_some_iff.mp H
                refine on1 28 hE (.cl en57 (windroseref16_in.calls x0_.f2 _ _ _ hS.own.sub h47)) ?_
                rintro _ u45 a ⟨_, rfl, hC⟩ hE
                refine ⟨fun _ => hC.agr, ?_⟩
                replace hS := hS.lent hC
                refine mny hst hE (.r 29 2 .nil) (fun a hE => ?_)
                by_cases c48 : t46 = true
                · rw [if_pos c48] at H
                  replace hE := hE.bt 48 c48
                  have hb2 := hS.blk_at (i := 0) rfl
                  refine mny hst hE (.r 31 1 <| .b 32 3 hb2 <| .nil) (fun a hE => ?_)
                  obtain ⟨t50, h51, H⟩ := Option.bind_eq_some_iff.mp H
                  refine on1 33 hE (.cl en57 (windroseref16_in.calls x0_.f3 _ _ _ hS.own.sub h51)) ?_
                  rintro _ u49 a ⟨_, rfl, hC⟩ hE
                  refine ⟨fun _ => hC.agr, ?_⟩
                  replace hS := hS.lent hC
                  refine mny hst hE (.r 34 2 .nil) (fun a hE => ?_)
                  by_cases c52 : t50 = true
                  · rw [if_pos c52] at H
                    replace hE := hE.bt 53 c52
                    have hb2 := hS.blk_at (i := 0) rfl
                    refine mny hst hE (.r 36 1 <| .b 37 4 hb2 <| .nil) (fun a hE => ?_)
                    obtain ⟨t54, h55, H⟩ := Option.bind_eq_some_iff.mp H
                    refine on1 38 hE (.cl en57 (windroseref16_in.calls x0_.f4 _ _ _ hS.own.sub h55)) ?_
                    rintro _ u53 a ⟨_, rfl, hC⟩ hE
                    refine ⟨fun _ => hC.agr, ?_⟩
                    replace hS := hS.lent hC
                    refine mny hst hE (.r 39 2 .nil) (fun a hE => ?_)
                    by_cases c56 : t54 = true
                    · rw [if_pos c56] at H
                      replace hE := hE.bt 58 c56
                      have hb2 := hS.blk_at (i := 0) rfl
                      refine mny hst hE (.r 41 1 <| .b 42 5 hb2 <| .nil) (fun a hE => ?_)
                      obtain ⟨t58, h59, H⟩ := Option.bind_eq_some_iff.mp H
                      refine on1 43 hE (.cl en57 (windroseref16_in.calls x0_.f5 _ _ _ hS.own.sub h59)) ?_
                      rintro _ u57 a ⟨_, rfl, hC⟩ hE
                      refine ⟨fun _ => hC.agr, ?_⟩
                      replace hS := hS.lent hC
                      refine mny hst hE (.r 44 2 .nil) (fun a hE => ?_)
                      refine dn ?_
                      refine hK26 _ _ ?_
                      refine wp_ret ?_
                      replace hS := hS.tail
                      obtain rfl := Option.some.inj H
                      exact rt1 hE ⟨_, rfl, _, rfl, hS⟩
                    · rw [if_neg c56] at H
                      replace hE := hE.bf 58 c56
                      refine mny hst hE (.r 41 5 .nil) (fun a hE => ?_)
                      refine dn ?_
                      refine hK26 _ _ ?_
                      refine wp_ret ?_
                      replace hS := hS.tail
                      obtain rfl := Option.some.inj H
                      exact rt1 hE ⟨_, rfl, _, rfl, hS⟩
                  · rw [if_neg c52] at H
                    replace hE := hE.bf 53 c52
                    refine mny hst hE (.r 36 10 .nil) (fun a hE => ?_)
                    refine dn ?_
                    refine hK26 _ _ ?_
                    refine wp_ret ?_
                    replace hS := hS.tail
                    obtain rfl := Option.some.inj H
                    exact rt1 hE ⟨_, rfl, _, rfl, hS⟩
                · rw [if_neg c48] at H
                  replace hE := hE.bf 48 c48
                  refine mny hst hE (.r 31 15 .nil) (fun a hE => ?_)
                  refine dn ?_
                  refine hK26 _ _ ?_
                  refine wp_ret ?_
                  replace hS := hS.tail
                  obtain rfl := Option.some.inj H
                  exact rt1 hE ⟨_, rfl, _, rfl, hS⟩
              · rw [if_neg c44] at H
                replace hE := hE.bf 43 c44
                refine mny hst hE (.r 26 20 .nil) (fun a hE => ?_)
                refine dn ?_
                refine hK26 _ _ ?_
                refine wp_ret ?_
                replace hS := hS.tail
                obtain rfl := Option.some.inj H
                exact rt1 hE ⟨_, rfl, _, rfl, hS⟩
            · rw [if_neg c40] at H
              replace hE := hE.kf 38 c40
              refine mny hst hE (.r 21 25 .nil) (fun a hE => ?_)
              refine dn ?_
              refine hK26 _ _ ?_
              refine wp_ret ?_
              replace hS := hS.tail
              obtain rfl := Option.some.inj H
              exact rt1 hE ⟨_, rfl, _, rfl, hS⟩
          · rw [if_neg c39] at H
            replace hE := hE.bf 32 c39
            refine mny hst hE (.r 15 31 .nil) (fun a hE => ?_)
            refine dn ?_
            refine hK26 _ _ ?_
            refine wp_ret ?_
            replace hS := hS.tail
            obtain rfl := Option.some.inj H
            exact rt1 hE ⟨_, rfl, _, rfl, hS⟩
        · rw [if_neg c28] at H
          replace hE := hE.kf 26 c28
          refine mny hst hE (.r 9 37 .nil) (fun a hE => ?_)
          refine dn ?_
          refine hK26 _ _ ?_
          refine wp_ret ?_
          replace hS := hS.tail
          obtain rfl := Option.some.inj H
          exact rt1 hE ⟨_, rfl, _, rfl, hS⟩
      · rw [if_neg c27] at H
        replace hE := hE.kf 21 c27
        refine mny hst hE (.r 4 42 .nil) (fun a hE => ?_)
        refine dn ?_
        refine hK26 _ _ ?_
        refine wp_ret ?_
        replace hS := hS.tail
        obtain rfl := Option.some.inj H
        exact rt1 hE ⟨_, rfl, _, rfl, hS⟩

end Go.Proofs.Ytihjknnhbgkinaa.SQ
