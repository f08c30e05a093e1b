/- Functions of the program, what each computes (written by wip/s/sl.py). -/
import Derived.Test.YtihjknnhbgkinaaSR0
namespace Go.Proofs.Ytihjknnhbgkinaa.SR
open Go Go.RowKit Go.Proofs.Ytihjknnhbgkinaa.Sl
set_option linter.unusedVariables false
set_option linter.unusedSimpArgs false
/-! ### windrose/acceptor.in: function 63 -/
def acceptor_in.f (x0_ : Int) (x1_ : Int) (x2_ : Int) : Option Bool := if x0_ ≥ x1_ then (some (decide (x0_ ≤ x2_))) else (some false)
def acceptor_in.Post (W F : World) (r : Bool) (v : Value) (w' : World) : Prop := ∃ (F' : World), v = .bool r ∧ St W (mine W []) F w' F' []
set_option maxHeartbeats 4000000 in
set_option maxRecDepth 100000 in
theorem acceptor_in.calls (x0_ : Int) (x1_ : Int) (x2_ : Int) (r : Bool) (W F : World) (hown : Sub F W) (H : acceptor_in.f x0_ x1_ x2_ = some r) :
    Calls Try.prog 63 #[.int .i64 x0_, .int .i64 x1_, .int .i64 x2_] W fun e w' => ∃ v, e = .returned v ∧ acceptor_in.Post W F r v w' := by
  have hS := St.start (Own.nil hown)
  unfold acceptor_in.f at H
  refine enter (n := 15) rfl rfl rfl (Nat.le_of_ble_eq_true rfl) (fun a hE => ?_)
  refine wp_seq_k fun K1 hK1 => ?_
  refine pl0 ?_
  refine plc hE (.r 0 1 .nil) (fun a hE => ?_)
  refine pld ?_
  refine hK1 _ _ ?_
  refine wp_seq_k fun K2 hK2 => ?_
  refine pl0 ?_
  refine plc hE (.r 0 4 .nil) (fun a hE => ?_)
  by_cases c3 : x0_ ≥ x1_
  · rw [if_pos c3] at H
    replace hE := hE.kt 10 c3
    refine plc hE (.r 4 5 .nil) (fun a hE => ?_)
    refine pld ?_
    refine hK2 _ _ ?_
    refine wp_ret ?_
    obtain rfl := Option.some.inj H
    exact rt1 hE ⟨_, rfl, _, rfl, hS⟩
  · rw [if_neg c3] at H
    replace hE := hE.kf 10 c3
    refine plc hE (.r 4 5 .nil) (fun a hE => ?_)
    refine pld ?_
    refine hK2 _ _ ?_
    refine wp_ret ?_
    obtain rfl := Option.some.inj H
    exact rt1 hE ⟨_, rfl, _, rfl, hS⟩

/-! ### slices.Equal[[]int,int]: function 110 -/
def slices_Equal__int_int.l9 : Nat → List Int → List Int → Int → Option Bool
  | 0, _, _, _ => none
  | k + 1, x0_, x1_, x8 => if x8 < (x0_.length : Int) then (if 0 ≤ x8 ∧ x8 < (x0_.length : Int) then (if 0 ≤ x8 ∧ x8 < (x1_.length : Int) then (if (nth 0 x0_ x8) = (nth 0 x1_ x8) then (slices_Equal__int_int.l9 k x0_ x1_ (w64 (x8 + 1))) else (some false)) else (none)) else (none)) else (some true)
theorem slices_Equal__int_int.l9_s (k : Nat) (x0_ : List Int) (x1_ : List Int) (x8 : Int) : slices_Equal__int_int.l9 (k + 1) x0_ x1_ x8 = (if x8 < (x0_.length : Int) then (if 0 ≤ x8 ∧ x8 < (x0_.length : Int) then (if 0 ≤ x8 ∧ x8 < (x1_.length : Int) then (if (nth 0 x0_ x8) = (nth 0 x1_ x8) then (slices_Equal__int_int.l9 k x0_ x1_ (w64 (x8 + 1))) else (some false)) else (none)) else (none)) else (some true)) := by kernel_rfl
def slices_Equal__int_int.f (k : Nat) (x0_ : List Int) (x1_ : List Int) : Option Bool := if (x0_.length : Int) = (x1_.length : Int) then (slices_Equal__int_int.l9 k x0_ x1_ 0) else (some false)
def slices_Equal__int_int.Post (W F : World) (r : Bool) (v : Value) (w' : World) : Prop := ∃ (F' : World), v = .bool r ∧ St W (mine W []) F w' F' []
set_option maxHeartbeats 4000000 in
set_option maxRecDepth 100000 in
theorem slices_Equal__int_int.calls (k : Nat) (x0_ : List Int) (x1_ : List Int) (A0_0 : Option Addr) (c0_0 : Nat) (A1_0 : Option Addr) (c1_0 : Nat) (r : Bool) (W F : World) (hown : Sub F W) (g0_0 : Rd (Kn.int .i64) F A0_0 c0_0 x0_) (g1_0 : Rd (Kn.int .i64) F A1_0 c1_0 x1_) (H : slices_Equal__int_int.f k x0_ x1_ = some r) :
    Calls Try.prog 110 #[.slice A0_0 x0_.length c0_0, .slice A1_0 x1_.length c1_0] W fun e w' => ∃ v, e = .returned v ∧ slices_Equal__int_int.Post W F r v w' := by
  have hS := St.start (Own.nil hown)
  unfold slices_Equal__int_int.f at H
  refine enter (n := 26) rfl rfl rfl (Nat.le_of_ble_eq_true rfl) (fun a hE => ?_)
  refine wp_seq_k fun K1 hK1 => ?_
  refine pl0 ?_
  refine plc hE (.r 0 1 .nil) (fun a hE => ?_)
  refine pld ?_
  refine hK1 _ _ ?_
  refine wp_seq_k fun K2 hK2 => ?_
  refine wp_seq_k fun K3 hK3 => ?_
  refine pl0 ?_
  refine plc hE (.r 0 5 .nil) (fun a hE => ?_)
  refine pld ?_
  refine hK3 _ _ ?_
  by_cases c4 : (x0_.length : Int) = (x1_.length : Int)
  · rw [if_pos c4] at H
    replace hE := hE.ktn 10 c4
    refine cf hE ?_
    refine wp_skip ?_
    refine hK2 _ _ ?_
    refine wp_seq_k fun K6 hK6 => ?_
    refine wp_seq_k fun K7 hK7 => ?_
    refine pl0 ?_
    refine plc hE (.r 0 3 .nil) (fun a hE => ?_)
    refine pld ?_
    refine hK7 _ _ ?_
    refine wp_block ?_
    refine wp_loop_ghost (fun kq10 a w' => ∃ (G : Nat → Value) (x8 : Int), kq10 ≤ k ∧ Env 26 G a ∧ At G [(0, .slice A0_0 x0_.length c0_0), (1, .slice A1_0 x1_.length c1_0), (12, .int .i64 (x0_.length : Int)), (13, .int .i64 x8)] ∧ St W (mine W []) F w' F [] ∧  slices_Equal__int_int.l9 kq10 x0_ x1_ x8 = some r) k ⟨_, 0, Nat.le_refl _, hE, .of, hS, H⟩ ?_
    rintro kq10 a u12 ⟨G, x8, hkq, hE, hA, hS, H⟩
    cases kq10 with
    | zero => cases (show none = some r from H)
    | succ k11 =>
      rw [slices_Equal__int_int.l9_s] at H
      obtain ⟨J, hE⟩ := hE.at hA
      refine wp_seq_k fun K13 hK13 => ?_
      refine pl0 ?_
      refine plc hE (.r 0 1 .nil) (fun a hE => ?_)
      refine pld ?_
      refine hK13 _ _ ?_
      refine wp_seq_k fun K14 hK14 => ?_
      by_cases c15 : x8 < (x0_.length : Int)
      · rw [if_pos c15] at H
        replace hE := hE.kt 14 c15
        refine ct hE ?_
        refine wp_skip ?_
        refine hK14 _ _ ?_
        refine wp_seq_k fun K16 hK16 => ?_
        refine wp_block ?_
        refine wp_seq_k fun K17 hK17 => ?_
        refine pl0 ?_
        refine plc hE (.r 0 2 .nil) (fun a hE => ?_)
        refine pld ?_
        refine hK17 _ _ ?_
        refine wp_seq_k fun K18 hK18 => ?_
        refine drawn 9 ⟨[], [], fun q => False⟩ mixed rfl (by kernel_rfl) (fun hst => ?_)
        replace hS := hS.drew
        by_cases c19 : 0 ≤ x8 ∧ x8 < (x0_.length : Int)
        rotate_left
        · rw [if_neg c19] at H; cases H
        rw [if_pos c19] at H
        have hE_ := hE
        obtain ⟨ad20, rfl⟩ := g0_0.addr c19.1 c19.2
        replace hE := hE_
        obtain ⟨cs22, rfl, hc23⟩ := g0_0.el 0 x8 c19.1 c19.2
        by_cases c24 : 0 ≤ x8 ∧ x8 < (x1_.length : Int)
        rotate_left
        · rw [if_neg c24] at H; cases H
        rw [if_pos c24] at H
        have hE_ := hE
        obtain ⟨ad25, rfl⟩ := g1_0.addr c24.1 c24.2
        replace hE := hE_
        obtain ⟨cs27, rfl, hc28⟩ := g1_0.el 0 x8 c24.1 c24.2
        refine mny 0 hst hE (.r 0 2 <| .x 2 c19 <| .c 3 (hS.fc hc23 0) <| .r 4 2 <| .x 6 c24 <| .c 7 (hS.fc hc28 0) <| .r 8 1 <| .nil) (fun a hE => ?_)
        refine dn ?_
        refine hK18 _ _ ?_
        by_cases c29 : (nth 0 x0_ x8) = (nth 0 x1_ x8)
        · rw [if_pos c29] at H
          replace hE := hE.ktn 24 c29
          refine cf hE ?_
          refine wp_skip ?_
          refine hK16 _ _ ?_
          refine pl0 ?_
          refine plc hE (.r 0 2 .nil) (fun a hE => ?_)
          refine pld ?_
          exact then_n ⟨k11, by omega, _, (w64 (x8 + 1)), by omega, hE, .of, hS, H⟩
        · rw [if_neg c29] at H
          replace hE := hE.kfn 24 c29
          refine ct hE ?_
          refine wp_seq_k fun K30 hK30 => ?_
          refine pl0 ?_
          refine plc hE (.r 0 1 .nil) (fun a hE => ?_)
          refine pld ?_
          refine hK30 _ _ ?_
          refine wp_ret (block_ret (then_ret (then_ret (block_ret (then_ret ?_)))))
          obtain rfl := Option.some.inj H
          exact rt1 hE ⟨_, rfl, _, rfl, hS⟩
      · rw [if_neg c15] at H
        replace hE := hE.kf 14 c15
        refine cf hE ?_
        refine wp_exit ?_
        refine hK6 _ _ ?_
        refine wp_seq_k fun K31 hK31 => ?_
        refine pl0 ?_
        refine plc hE (.r 0 1 .nil) (fun a hE => ?_)
        refine pld ?_
        refine hK31 _ _ ?_
        refine wp_ret ?_
        obtain rfl := Option.some.inj H
        exact rt1 hE ⟨_, rfl, _, rfl, hS⟩
  · rw [if_neg c4] at H
    replace hE := hE.kfn 10 c4
    refine ct hE ?_
    refine wp_seq_k fun K5 hK5 => ?_
    refine pl0 ?_
    refine plc hE (.r 0 1 .nil) (fun a hE => ?_)
    refine pld ?_
    refine hK5 _ _ ?_
    refine wp_ret (then_ret ?_)
    obtain rfl := Option.some.inj H
    exact rt1 hE ⟨_, rfl, _, rfl, hS⟩

/-! ### windrose/acceptor.SameDelta: function 88 -/
def acceptor_SameDelta.f (k : Nat) (x0_ : T_api_Delta) (x1_ : T_api_Delta) : Option Bool := if x0_.f0 = x1_.f0 then (if x0_.f1 = x1_.f1 then (if x0_.f2 = x1_.f2 then (if x0_.f3 = x1_.f3 then (if x0_.f4 = x1_.f4 then (if x0_.f5 = x1_.f5 then ((slices_Equal__int_int.f k x0_.f6 x1_.f6).bind fun t14 => (some t14)) else (some false)) else (some false)) else (some false)) else (some false)) else (some false)) else (some false)
def acceptor_SameDelta.Post (W F : World) (r : Bool) (v : Value) (w' : World) : Prop := ∃ (F' : World), v = .bool r ∧ St W (mine W []) F w' F' []
set_option maxHeartbeats 4000000 in
set_option maxRecDepth 100000 in
theorem acceptor_SameDelta.calls (k : Nat) (x0_ : T_api_Delta) (x1_ : T_api_Delta) (A0_6 : Option Addr) (c0_6 : Nat) (A1_6 : Option Addr) (c1_6 : Nat) (r : Bool) (W F : World) (hown : Sub F W) (g0_6 : Rd (Kn.int .i64) F A0_6 c0_6 x0_.f6) (g1_6 : Rd (Kn.int .i64) F A1_6 c1_6 x1_.f6) (H : acceptor_SameDelta.f k x0_ x1_ = some r) :
    Calls Try.prog 88 #[.agg #[.int .i64 x0_.f0, .int .i64 x0_.f1, .int .i64 x0_.f2, .int .i64 x0_.f3, .int .i64 x0_.f4, .int .i64 x0_.f5, .slice A0_6 x0_.f6.length c0_6], .agg #[.int .i64 x1_.f0, .int .i64 x1_.f1, .int .i64 x1_.f2, .int .i64 x1_.f3, .int .i64 x1_.f4, .int .i64 x1_.f5, .slice A1_6 x1_.f6.length c1_6]] W fun e w' => ∃ v, e = .returned v ∧ acceptor_SameDelta.Post W F r v w' := by
  have hS := St.start (Own.nil hown)
  unfold acceptor_SameDelta.f at H
  refine enter (n := 52) rfl rfl rfl (Nat.le_of_ble_eq_true rfl) (fun a hE => ?_)
  refine wp_seq_k fun K1 hK1 => ?_
  refine pl0 ?_
  refine ple hE (.bx (t := 33) hS [.int .i64 x0_.f0, .int .i64 x0_.f1, .int .i64 x0_.f2, .int .i64 x0_.f3, .int .i64 x0_.f4, .int .i64 x0_.f5, .slice A0_6 x0_.f6.length c0_6]) ?_
  rintro _ u3 a ⟨b2, rfl, hb2, hS, hg⟩ hE
  refine ple hE (.bx (t := 33) hS [.int .i64 x1_.f0, .int .i64 x1_.f1, .int .i64 x1_.f2, .int .i64 x1_.f3, .int .i64 x1_.f4, .int .i64 x1_.f5, .slice A1_6 x1_.f6.length c1_6]) ?_
  rintro _ u5 a ⟨b4, rfl, hb4, hS, hg⟩ hE
  refine plc hE (.r 2 1 .nil) (fun a hE => ?_)
  refine pld ?_
  refine hK1 _ _ ?_
  refine wp_seq_k fun K6 hK6 => ?_
  refine pl0 ?_
  have hb2 := hS.blk_at (i := 1) rfl
  refine plc hE (.r 0 1 <| .b 1 0 hb2 <| .r 2 1 <| .b 3 0 hb4 <| .r 4 2 <| .nil) (fun a hE => ?_)
  by_cases c7 : x0_.f0 = x1_.f0
  · rw [if_pos c7] at H
    replace hE := hE.kt 10 c7
    refine plc hE (.r 6 1 <| .b 7 1 hb2 <| .r 8 1 <| .b 9 1 hb4 <| .r 10 3 <| .nil) (fun a hE => ?_)
    by_cases c8 : x0_.f1 = x1_.f1
    · rw [if_pos c8] at H
      replace hE := hE.kt 17 c8
      refine plc hE (.r 13 1 <| .b 14 2 hb2 <| .r 15 1 <| .b 16 2 hb4 <| .r 17 3 <| .nil) (fun a hE => ?_)
      by_cases c9 : x0_.f2 = x1_.f2
      · rw [if_pos c9] at H
        replace hE := hE.kt 24 c9
        refine plc hE (.r 20 1 <| .b 21 3 hb2 <| .r 22 1 <| .b 23 3 hb4 <| .r 24 3 <| .nil) (fun a hE => ?_)
        by_cases c10 : x0_.f3 = x1_.f3
        · rw [if_pos c10] at H
          replace hE := hE.kt 31 c10
          refine plc hE (.r 27 1 <| .b 28 4 hb2 <| .r 29 1 <| .b 30 4 hb4 <| .r 31 3 <| .nil) (fun a hE => ?_)
          by_cases c11 : x0_.f4 = x1_.f4
          · rw [if_pos c11] at H
            replace hE := hE.kt 38 c11
            refine plc hE (.r 34 1 <| .b 35 5 hb2 <| .r 36 1 <| .b 37 5 hb4 <| .r 38 3 <| .nil) (fun a hE => ?_)
            by_cases c12 : x0_.f5 = x1_.f5
            · rw [if_pos c12] at H
              replace hE := hE.kt 45 c12
              refine plc hE (.r 41 1 <| .b 42 6 hb2 <| .r 43 1 <| .b 44 6 hb4 <| .nil) (fun a hE => ?_)
              obtain ⟨t14, h15, H⟩ := Option.bind_eq_some_iff.mp H
              refine ple hE (.cl en110 (slices_Equal__int_int.calls k x0_.f6 x1_.f6 _ _ _ _ _ _ _ hS.own.sub g0_6 g1_6 h15)) ?_
              rintro _ u13 a ⟨_, rfl, hC⟩ hE
              replace hS := hS.lent hC
              refine plc hE (.r 46 2 .nil) (fun a hE => ?_)
              refine pld ?_
              refine hK6 _ _ ?_
              refine wp_ret ?_
              replace hS := hS.tail
              replace hS := hS.tail
              obtain rfl := Option.some.inj H
              exact rt1 hE ⟨_, rfl, _, rfl, hS⟩
            · rw [if_neg c12] at H
              replace hE := hE.kf 45 c12
              refine plc hE (.r 41 7 .nil) (fun a hE => ?_)
              refine pld ?_
              refine hK6 _ _ ?_
              refine wp_ret ?_
              replace hS := hS.tail
              replace hS := hS.tail
              obtain rfl := Option.some.inj H
              exact rt1 hE ⟨_, rfl, _, rfl, hS⟩
          · rw [if_neg c11] at H
            replace hE := hE.kf 38 c11
            refine plc hE (.r 34 14 .nil) (fun a hE => ?_)
            refine pld ?_
            refine hK6 _ _ ?_
            refine wp_ret ?_
            replace hS := hS.tail
            replace hS := hS.tail
            obtain rfl := Option.some.inj H
            exact rt1 hE ⟨_, rfl, _, rfl, hS⟩
        · rw [if_neg c10] at H
          replace hE := hE.kf 31 c10
          refine plc hE (.r 27 21 .nil) (fun a hE => ?_)
          refine pld ?_
          refine hK6 _ _ ?_
          refine wp_ret ?_
          replace hS := hS.tail
          replace hS := hS.tail
          obtain rfl := Option.some.inj H
          exact rt1 hE ⟨_, rfl, _, rfl, hS⟩
      · rw [if_neg c9] at H
        replace hE := hE.kf 24 c9
        refine plc hE (.r 20 28 .nil) (fun a hE => ?_)
        refine pld ?_
        refine hK6 _ _ ?_
        refine wp_ret ?_
        replace hS := hS.tail
        replace hS := hS.tail
        obtain rfl := Option.some.inj H
        exact rt1 hE ⟨_, rfl, _, rfl, hS⟩
    · rw [if_neg c8] at H
      replace hE := hE.kf 17 c8
      refine plc hE (.r 13 35 .nil) (fun a hE => ?_)
      refine pld ?_
      refine hK6 _ _ ?_
      refine wp_ret ?_
      replace hS := hS.tail
      replace hS := hS.tail
      obtain rfl := Option.some.inj H
      exact rt1 hE ⟨_, rfl, _, rfl, hS⟩
  · rw [if_neg c7] at H
    replace hE := hE.kf 10 c7
    refine plc hE (.r 6 42 .nil) (fun a hE => ?_)
    refine pld ?_
    refine hK6 _ _ ?_
    refine wp_ret ?_
    replace hS := hS.tail
    replace hS := hS.tail
    obtain rfl := Option.some.inj H
    exact rt1 hE ⟨_, rfl, _, rfl, hS⟩

/-! ### windrose/acceptor.bare: function 89 -/
def acceptor_bare.j34 : Nat → T_api_Delta → Int → Int → Int → Int → Int → List Int → Option T_api_Delta
  | 0, _, _, _, _, _, _, _ => none
  | k + 1, x0_, x25, x26, x27, x28, x29, l32 => some (⟨x0_.f0, x25, x26, x27, x28, x29, l32⟩ : T_api_Delta)
theorem acceptor_bare.j34_s (k : Nat) (x0_ : T_api_Delta) (x25 : Int) (x26 : Int) (x27 : Int) (x28 : Int) (x29 : Int) (l32 : List Int) : acceptor_bare.j34 (k + 1) x0_ x25 x26 x27 x28 x29 l32 = (some (⟨x0_.f0, x25, x26, x27, x28, x29, l32⟩ : T_api_Delta)) := by kernel_rfl
def acceptor_bare.f (k : Nat) (x0_ : T_api_Delta) : Option T_api_Delta := if x0_.f0 = 1 then (acceptor_bare.j34 k x0_ x0_.f1 x0_.f2 x0_.f3 x0_.f4 0 []) else (if x0_.f0 = 2 then (acceptor_bare.j34 k x0_ x0_.f1 0 0 x0_.f4 0 []) else (if x0_.f0 = 8 then (acceptor_bare.j34 k x0_ 0 0 0 0 x0_.f5 x0_.f6) else (if x0_.f0 = 9 then (acceptor_bare.j34 k x0_ 0 0 0 0 0 []) else (if x0_.f0 = 10 then (acceptor_bare.j34 k x0_ 0 0 0 x0_.f4 x0_.f5 []) else (acceptor_bare.j34 k x0_ x0_.f1 0 0 0 0 [])))))
def acceptor_bare.Post (W F : World) (r : T_api_Delta) (v : Value) (w' : World) : Prop := ∃ (F' : World) (RA0_6 : Option Addr) (rc0_6 : Nat), v = .agg #[.int .i64 r.f0, .int .i64 r.f1, .int .i64 r.f2, .int .i64 r.f3, .int .i64 r.f4, .int .i64 r.f5, .slice RA0_6 r.f6.length rc0_6] ∧ St W (mine W []) F w' F' [] ∧ Rd (Kn.int .i64) F' RA0_6 rc0_6 r.f6
set_option maxHeartbeats 4000000 in
set_option maxRecDepth 100000 in
theorem acceptor_bare.calls (k : Nat) (x0_ : T_api_Delta) (A0_6 : Option Addr) (c0_6 : Nat) (r : T_api_Delta) (W F : World) (hown : Sub F W) (g0_6 : Rd (Kn.int .i64) F A0_6 c0_6 x0_.f6) (H : acceptor_bare.f k x0_ = some r) :
    Calls Try.prog 89 #[.agg #[.int .i64 x0_.f0, .int .i64 x0_.f1, .int .i64 x0_.f2, .int .i64 x0_.f3, .int .i64 x0_.f4, .int .i64 x0_.f5, .slice A0_6 x0_.f6.length c0_6]] W fun e w' => ∃ v, e = .returned v ∧ acceptor_bare.Post W F r v w' := by
  have hS := St.start (Own.nil hown)
  unfold acceptor_bare.f at H
  refine enter (n := 47) rfl rfl rfl (Nat.le_of_ble_eq_true rfl) (fun a hE => ?_)
  refine wp_seq_k fun K1 hK1 => ?_
  refine pl0 ?_
  refine ple hE (.bx (t := 33) hS [.int .i64 x0_.f0, .int .i64 x0_.f1, .int .i64 x0_.f2, .int .i64 x0_.f3, .int .i64 x0_.f4, .int .i64 x0_.f5, .slice A0_6 x0_.f6.length c0_6]) ?_
  rintro _ u3 a ⟨b2, rfl, hb2, hS, hg⟩ hE
  refine ple hE (.al (t := 33) hS [.int .i64 0, .int .i64 0, .int .i64 0, .int .i64 0, .int .i64 0, .int .i64 0, .slice none 0 0]) ?_
  rintro _ u5 a ⟨b4, rfl, hb4, hS, hg⟩ hE
  refine pld ?_
  refine hK1 _ _ ?_
  refine wp_seq_k fun K6 hK6 => ?_
  have J37 : ∀ kq35, kq35 ≤ k → ∀ (G : Nat → Value) (x25 : Int) (x26 : Int) (x27 : Int) (x28 : Int) (x29 : Int) (A30 : Option Addr) (c31 : Nat) (l32 : List Int) (a : Act) (w' : World), Env 47 G a → At G [(1, .pointer (some ⟨b2, 0, none⟩)), (2, .pointer (some ⟨b4, 0, none⟩))] → St W (mine W []) F w' F [box b2 #[.int .i64 x0_.f0, .int .i64 x25, .int .i64 x26, .int .i64 x27, .int .i64 x28, .int .i64 x29, .slice A30 l32.length c31] 33, box b4 #[.int .i64 0, .int .i64 0, .int .i64 0, .int .i64 0, .int .i64 0, .int .i64 0, .slice none 0 0] 33] → Rd (Kn.int .i64) F A30 c31 l32 → acceptor_bare.j34 kq35 x0_ x25 x26 x27 x28 x29 l32 = some r → K6 a w' := by
    intro kq35 hkq G x25 x26 x27 x28 x29 A30 c31 l32 a u38 hE hA hS g33 H
    cases kq35 with
    | zero => cases (show none = some r from H)
    | succ k36 =>
      rw [acceptor_bare.j34_s] at H
      obtain ⟨J, hE⟩ := hE.at hA
      refine hK6 _ _ ?_
      refine wp_seq_k fun K39 hK39 => ?_
      refine pl0 ?_
      have hb2 := hS.blk_at (i := 0) rfl
      refine plc hE (.bn 0 0 7 hb2 .nil) (fun a hE => ?_)
      replace hS := hS.front 1 rfl
      refine ple hE (.sto hS [.int .i64 x0_.f0, .int .i64 x25, .int .i64 x26, .int .i64 x27, .int .i64 x28, .int .i64 x29, .slice A30 l32.length c31]) ?_
      rintro _ u40 a ⟨rfl, hb4, hS, hz⟩ hE
      refine pld ?_
      refine hK39 _ _ ?_
      refine wp_ret ?_
      replace hS := hS.tail
      replace hS := hS.tail
      obtain rfl := Option.some.inj H
      exact ret1 hE rfl (.cell (by kernel_rfl) (res_blk [.int .i64 x0_.f0, .int .i64 x25, .int .i64 x26, .int .i64 x27, .int .i64 x28, .int .i64 x29, .slice A30 l32.length c31] ag33 sz33 hb4 rfl) .nil) ⟨_, rfl, _, _, _, rfl, hS, g33⟩
  refine wp_seq_k fun K7 hK7 => ?_
  refine pl0 ?_
  have hb2 := hS.blk_at (i := 1) rfl
  refine plc hE (.r 0 1 <| .b 1 0 hb2 <| .nil) (fun a hE => ?_)
  refine pld ?_
  refine hK7 _ _ ?_
  refine wp_block ?_
  refine wp_seq_k fun K8 hK8 => ?_
  refine pl0 ?_
  refine plc hE (.r 0 2 .nil) (fun a hE => ?_)
  refine pld ?_
  refine hK8 _ _ ?_
  by_cases c9 : x0_.f0 = 1
  · rw [if_pos c9] at H
    replace hE := hE.kt 10 c9
    refine ct hE ?_
    refine pl0 ?_
    refine plc hE (.r 0 1 .nil) (fun a hE => ?_)
    replace hS := hS.front 1 rfl
    refine ple hE (.sto hS [.int .i64 x0_.f0, .int .i64 x0_.f1, .int .i64 x0_.f2, .int .i64 x0_.f3, .int .i64 x0_.f4, .int .i64 0, .slice A0_6 x0_.f6.length c0_6]) ?_
    rintro _ u10 a ⟨rfl, hb2, hS, hz⟩ hE
    refine plc hE (.r 2 1 .nil) (fun a hE => ?_)
    refine ple hE (.sto hS [.int .i64 x0_.f0, .int .i64 x0_.f1, .int .i64 x0_.f2, .int .i64 x0_.f3, .int .i64 x0_.f4, .int .i64 0, .slice none 0 0]) ?_
    rintro _ u11 a ⟨rfl, hb2, hS, hz⟩ hE
    refine pld ?_
    exact J37 _ (by omega) _ x0_.f1 x0_.f2 x0_.f3 x0_.f4 0 none 0 [] _ _ hE .of hS (Rd.nil _ _) H
  · rw [if_neg c9] at H
    replace hE := hE.kf 10 c9
    refine cf hE ?_
    refine wp_seq_k fun K12 hK12 => ?_
    refine pl0 ?_
    refine plc hE (.r 0 2 .nil) (fun a hE => ?_)
    refine pld ?_
    refine hK12 _ _ ?_
    by_cases c13 : x0_.f0 = 2
    · rw [if_pos c13] at H
      replace hE := hE.kt 14 c13
      refine ct hE ?_
      refine pl0 ?_
      refine plc hE (.r 0 1 <| .b 1 0 hb2 <| .r 2 1 <| .b 3 1 hb2 <| .r 4 1 <| .b 5 4 hb2 <| .r 6 1 <| .nil) (fun a hE => ?_)
      replace hS := hS.front 1 rfl
      refine ple hE (.sto hS [.int .i64 x0_.f0, .int .i64 x0_.f1, .int .i64 0, .int .i64 0, .int .i64 x0_.f4, .int .i64 0, .slice none 0 0]) ?_
      rintro _ u14 a ⟨rfl, hb2, hS, hz⟩ hE
      refine pld ?_
      exact J37 _ (by omega) _ x0_.f1 0 0 x0_.f4 0 none 0 [] _ _ hE .of hS (Rd.nil _ _) H
    · rw [if_neg c13] at H
      replace hE := hE.kf 14 c13
      refine cf hE ?_
      refine wp_seq_k fun K15 hK15 => ?_
      refine pl0 ?_
      refine plc hE (.r 0 2 .nil) (fun a hE => ?_)
      refine pld ?_
      refine hK15 _ _ ?_
      by_cases c16 : x0_.f0 = 8
      · rw [if_pos c16] at H
        replace hE := hE.kt 23 c16
        refine ct hE ?_
        refine pl0 ?_
        refine plc hE (.r 0 1 <| .b 1 0 hb2 <| .r 2 1 <| .b 3 5 hb2 <| .r 4 1 <| .b 5 6 hb2 <| .r 6 1 <| .nil) (fun a hE => ?_)
        replace hS := hS.front 1 rfl
        refine ple hE (.sto hS [.int .i64 x0_.f0, .int .i64 0, .int .i64 0, .int .i64 0, .int .i64 0, .int .i64 x0_.f5, .slice A0_6 x0_.f6.length c0_6]) ?_
        rintro _ u17 a ⟨rfl, hb2, hS, hz⟩ hE
        refine pld ?_
        exact J37 _ (by omega) _ 0 0 0 0 x0_.f5 A0_6 c0_6 x0_.f6 _ _ hE .of hS g0_6 H
      · rw [if_neg c16] at H
        replace hE := hE.kf 23 c16
        refine cf hE ?_
        refine wp_seq_k fun K18 hK18 => ?_
        refine pl0 ?_
        refine plc hE (.r 0 2 .nil) (fun a hE => ?_)
        refine pld ?_
        refine hK18 _ _ ?_
        by_cases c19 : x0_.f0 = 9
        · rw [if_pos c19] at H
          replace hE := hE.kt 32 c19
          refine ct hE ?_
          refine pl0 ?_
          refine plc hE (.r 0 1 <| .b 1 0 hb2 <| .r 2 1 <| .nil) (fun a hE => ?_)
          replace hS := hS.front 1 rfl
          refine ple hE (.sto hS [.int .i64 x0_.f0, .int .i64 0, .int .i64 0, .int .i64 0, .int .i64 0, .int .i64 0, .slice none 0 0]) ?_
          rintro _ u20 a ⟨rfl, hb2, hS, hz⟩ hE
          refine pld ?_
          exact J37 _ (by omega) _ 0 0 0 0 0 none 0 [] _ _ hE .of hS (Rd.nil _ _) H
        · rw [if_neg c19] at H
          replace hE := hE.kf 32 c19
          refine cf hE ?_
          refine wp_seq_k fun K21 hK21 => ?_
          refine pl0 ?_
          refine plc hE (.r 0 2 .nil) (fun a hE => ?_)
          refine pld ?_
          refine hK21 _ _ ?_
          by_cases c22 : x0_.f0 = 10
          · rw [if_pos c22] at H
            replace hE := hE.kt 37 c22
            refine ct hE ?_
            refine pl0 ?_
            refine plc hE (.r 0 1 <| .b 1 0 hb2 <| .r 2 1 <| .b 3 5 hb2 <| .r 4 1 <| .b 5 4 hb2 <| .r 6 1 <| .nil) (fun a hE => ?_)
            replace hS := hS.front 1 rfl
            refine ple hE (.sto hS [.int .i64 x0_.f0, .int .i64 0, .int .i64 0, .int .i64 0, .int .i64 x0_.f4, .int .i64 x0_.f5, .slice none 0 0]) ?_
            rintro _ u23 a ⟨rfl, hb2, hS, hz⟩ hE
            refine pld ?_
            exact J37 _ (by omega) _ 0 0 0 x0_.f4 x0_.f5 none 0 [] _ _ hE .of hS (Rd.nil _ _) H
          · rw [if_neg c22] at H
            replace hE := hE.kf 37 c22
            refine cf hE ?_
            refine pl0 ?_
            refine plc hE (.r 0 1 <| .b 1 0 hb2 <| .r 2 1 <| .b 3 1 hb2 <| .r 4 1 <| .nil) (fun a hE => ?_)
            replace hS := hS.front 1 rfl
            refine ple hE (.sto hS [.int .i64 x0_.f0, .int .i64 x0_.f1, .int .i64 0, .int .i64 0, .int .i64 0, .int .i64 0, .slice none 0 0]) ?_
            rintro _ u24 a ⟨rfl, hb2, hS, hz⟩ hE
            refine pld ?_
            exact J37 _ (by omega) _ x0_.f1 0 0 0 0 none 0 [] _ _ hE .of hS (Rd.nil _ _) H

/-! ### windrose/acceptor.CheckDelta: function 55 -/
mutual
def acceptor_CheckDelta.j23 : Nat → T_api_Delta → Bool → Option Int
  | 0, _, _ => none
  | k + 1, x0_, y21 => if y21 = true then (some 1) else (if (([x0_.f1, x0_.f2, x0_.f3, x0_.f4, x0_.f5].length : Int) + (x0_.f6.length : Int)) * 8 ≤ 140737488355328 then (acceptor_CheckDelta.l41 k x0_ 0) else (none))
def acceptor_CheckDelta.l41 : Nat → T_api_Delta → Int → Option Int
  | 0, _, _ => none
  | k + 1, x0_, x40 => if x40 < (([x0_.f1, x0_.f2, x0_.f3, x0_.f4, x0_.f5] ++ x0_.f6).length : Int) then (if 0 ≤ x40 ∧ x40 < (([x0_.f1, x0_.f2, x0_.f3, x0_.f4, x0_.f5] ++ x0_.f6).length : Int) then ((acceptor_in.f (nth 0 ([x0_.f1, x0_.f2, x0_.f3, x0_.f4, x0_.f5] ++ x0_.f6) x40) 0 2147483647).bind fun t58 => (if t58 = true then (acceptor_CheckDelta.l41 k x0_ (w64 (x40 + 1))) else (some 1))) else (none)) else (some 0)
end
theorem acceptor_CheckDelta.j23_s (k : Nat) (x0_ : T_api_Delta) (y21 : Bool) : acceptor_CheckDelta.j23 (k + 1) x0_ y21 = (if y21 = true then (some 1) else (if (([x0_.f1, x0_.f2, x0_.f3, x0_.f4, x0_.f5].length : Int) + (x0_.f6.length : Int)) * 8 ≤ 140737488355328 then (acceptor_CheckDelta.l41 k x0_ 0) else (none))) := by kernel_rfl
theorem acceptor_CheckDelta.l41_s (k : Nat) (x0_ : T_api_Delta) (x40 : Int) : acceptor_CheckDelta.l41 (k + 1) x0_ x40 = (if x40 < (([x0_.f1, x0_.f2, x0_.f3, x0_.f4, x0_.f5] ++ x0_.f6).length : Int) then (if 0 ≤ x40 ∧ x40 < (([x0_.f1, x0_.f2, x0_.f3, x0_.f4, x0_.f5] ++ x0_.f6).length : Int) then ((acceptor_in.f (nth 0 ([x0_.f1, x0_.f2, x0_.f3, x0_.f4, x0_.f5] ++ x0_.f6) x40) 0 2147483647).bind fun t58 => (if t58 = true then (acceptor_CheckDelta.l41 k x0_ (w64 (x40 + 1))) else (some 1))) else (none)) else (some 0)) := by kernel_rfl
def acceptor_CheckDelta.f (k : Nat) (x0_ : T_api_Delta) : Option Int := (acceptor_in.f x0_.f0 1 10).bind fun t7 => (if t7 = true then ((acceptor_bare.f k x0_).bind fun t11 => ((acceptor_SameDelta.f k x0_ t11).bind fun t18 => (if t18 = true then (acceptor_CheckDelta.j23 k x0_ (decide ((x0_.f6.length : Int) > 3))) else (acceptor_CheckDelta.j23 k x0_ true)))) else (acceptor_CheckDelta.j23 k x0_ true))
def acceptor_CheckDelta.Post (W F : World) (r : Int) (v : Value) (w' : World) : Prop := ∃ (F' : World), v = .int .i64 r ∧ St W (mine W []) F w' F' []
set_option maxHeartbeats 4000000 in
set_option maxRecDepth 100000 in
theorem acceptor_CheckDelta.calls (k : Nat) (x0_ : T_api_Delta) (A0_6 : Option Addr) (c0_6 : Nat) (r : Int) (W F : World) (hown : Sub F W) (g0_6 : Rd (Kn.int .i64) F A0_6 c0_6 x0_.f6) (H : acceptor_CheckDelta.f k x0_ = some r) :
    Calls Try.prog 55 #[.agg #[.int .i64 x0_.f0, .int .i64 x0_.f1, .int .i64 x0_.f2, .int .i64 x0_.f3, .int .i64 x0_.f4, .int .i64 x0_.f5, .slice A0_6 x0_.f6.length c0_6]] W fun e w' => ∃ v, e = .returned v ∧ acceptor_CheckDelta.Post W F r v w' := by
  have hS := St.start (Own.nil hown)
  unfold acceptor_CheckDelta.f at H
  refine enter (n := 45) rfl rfl rfl (Nat.le_of_ble_eq_true rfl) (fun a hE => ?_)
  refine wp_seq_k fun K1 hK1 => ?_
  refine pl0 ?_
  refine ple hE (.bx (t := 33) hS [.int .i64 x0_.f0, .int .i64 x0_.f1, .int .i64 x0_.f2, .int .i64 x0_.f3, .int .i64 x0_.f4, .int .i64 x0_.f5, .slice A0_6 x0_.f6.length c0_6]) ?_
  rintro _ u3 a ⟨b2, rfl, hb2, hS, hg⟩ hE
  refine plc hE (.r 1 1 .nil) (fun a hE => ?_)
  refine pld ?_
  refine hK1 _ _ ?_
  refine wp_seq_k fun K4 hK4 => ?_
  refine wp_seq_k fun K5 hK5 => ?_
  have J26 : ∀ kq24, kq24 ≤ k → ∀ (G : Nat → Value) (y21 : Bool) (F22 : World) (a : Act) (w' : World), Env 45 G a → At G [(1, .pointer (some ⟨b2, 0, none⟩)), (21, .bool y21)] → St W (mine W []) F w' F22 [box b2 #[.int .i64 x0_.f0, .int .i64 x0_.f1, .int .i64 x0_.f2, .int .i64 x0_.f3, .int .i64 x0_.f4, .int .i64 x0_.f5, .slice A0_6 x0_.f6.length c0_6] 33] → Rd (Kn.int .i64) F22 A0_6 c0_6 x0_.f6 → acceptor_CheckDelta.j23 kq24 x0_ y21 = some r → K5 a w' := by
    intro kq24 hkq G y21 F22 a u27 hE hA hS g0_6 H
    cases kq24 with
    | zero => cases (show none = some r from H)
    | succ k25 =>
      rw [acceptor_CheckDelta.j23_s] at H
      obtain ⟨J, hE⟩ := hE.at hA
      refine hK5 _ _ ?_
      by_cases c28 : y21 = true
      · rw [if_pos c28] at H
        replace hE := hE.bt 21 c28
        refine ct hE ?_
        refine wp_seq_k fun K29 hK29 => ?_
        refine pl0 ?_
        refine plc hE (.r 0 1 .nil) (fun a hE => ?_)
        refine pld ?_
        refine hK29 _ _ ?_
        refine wp_ret (then_ret ?_)
        replace hS := hS.tail
        obtain rfl := Option.some.inj H
        exact rt1 hE ⟨_, rfl, _, rfl, hS⟩
      · rw [if_neg c28] at H
        replace hE := hE.bf 21 c28
        refine cf hE ?_
        refine wp_skip ?_
        refine hK4 _ _ ?_
        refine wp_seq_k fun K30 hK30 => ?_
        refine wp_seq_k fun K31 hK31 => ?_
        refine pl0 ?_
        have hb2 := hS.blk_at (i := 0) rfl
        refine plc hE (.r 0 1 <| .b 1 1 hb2 <| .r 2 1 <| .b 3 2 hb2 <| .r 4 1 <| .b 5 3 hb2 <| .r 6 1 <| .b 7 4 hb2 <| .r 8 1 <| .b 9 5 hb2 <| .nil) (fun a hE => ?_)
        refine ple hE (.lit (d := (Kn.int .i64)) (e := 3) hS [x0_.f1, x0_.f2, x0_.f3, x0_.f4, x0_.f5] (.cons rfl <| .cons rfl <| .cons rfl <| .cons rfl <| .cons rfl .nil)) ?_
        rintro _ u32 a ⟨A33, c34, rfl, hS, hg⟩ hE
        have hb2 := hS.blk_at (i := 1) rfl
        refine plc hE (.r 11 1 <| .b 12 6 hb2 <| .nil) (fun a hE => ?_)
        by_cases c36 : (([x0_.f1, x0_.f2, x0_.f3, x0_.f4, x0_.f5].length : Int) + (x0_.f6.length : Int)) * 8 ≤ 140737488355328
        rotate_left
        · rw [if_neg c36] at H; cases H
        rw [if_pos c36] at H
        refine ple hE (.ap (d := (Kn.int .i64)) 8 hS (g0_6.src hS.own.sub) c36 c0_6) ?_
        rintro _ u39 a ⟨A37, c38, rfl, hS, hz⟩ hE
        refine plc hE (.r 14 2 .nil) (fun a hE => ?_)
        refine pld ?_
        refine hK31 _ _ ?_
        refine wp_block ?_
        replace hS := hS.front 1 rfl
        refine wp_loop_ghost (fun kq42 a w' => ∃ (G : Nat → Value) (x40 : Int), kq42 ≤ k25 ∧ Env 45 G a ∧ At G [(35, .slice A37 (([x0_.f1, x0_.f2, x0_.f3, x0_.f4, x0_.f5] ++ x0_.f6).length) c38), (36, .int .i64 (([x0_.f1, x0_.f2, x0_.f3, x0_.f4, x0_.f5] ++ x0_.f6).length : Int)), (37, .int .i64 x40)] ∧ St W (mine W []) F w' F22 [box b2 #[.int .i64 x0_.f0, .int .i64 x0_.f1, .int .i64 x0_.f2, .int .i64 x0_.f3, .int .i64 x0_.f4, .int .i64 x0_.f5, .slice A0_6 x0_.f6.length c0_6] 33, row (Kn.int .i64) 3 (.slice A37 (([x0_.f1, x0_.f2, x0_.f3, x0_.f4, x0_.f5] ++ x0_.f6).length) c38) ([x0_.f1, x0_.f2, x0_.f3, x0_.f4, x0_.f5] ++ x0_.f6)] ∧  acceptor_CheckDelta.l41 kq42 x0_ x40 = some r) k25 ⟨_, 0, Nat.le_refl _, hE, .of, hS, H⟩ ?_
        rintro kq42 a u44 ⟨G, x40, hkq, hE, hA, hS, H⟩
        cases kq42 with
        | zero => cases (show none = some r from H)
        | succ k43 =>
          rw [acceptor_CheckDelta.l41_s] at H
          obtain ⟨J, hE⟩ := hE.at hA
          refine wp_seq_k fun K45 hK45 => ?_
          refine pl0 ?_
          refine plc hE (.r 0 1 .nil) (fun a hE => ?_)
          refine pld ?_
          refine hK45 _ _ ?_
          refine wp_seq_k fun K46 hK46 => ?_
          by_cases c47 : x40 < (([x0_.f1, x0_.f2, x0_.f3, x0_.f4, x0_.f5] ++ x0_.f6).length : Int)
          · rw [if_pos c47] at H
            replace hE := hE.kt 38 c47
            refine ct hE ?_
            refine wp_skip ?_
            refine hK46 _ _ ?_
            refine wp_seq_k fun K48 hK48 => ?_
            refine wp_block ?_
            refine wp_seq_k fun K49 hK49 => ?_
            refine pl0 ?_
            by_cases c50 : 0 ≤ x40 ∧ x40 < (([x0_.f1, x0_.f2, x0_.f3, x0_.f4, x0_.f5] ++ x0_.f6).length : Int)
            rotate_left
            · rw [if_neg c50] at H; cases H
            rw [if_pos c50] at H
            have hr51 := hS.row_at (i := 1) rfl
            have hE_ := hE
            obtain ⟨b52, rfl⟩ := row_addr hr51 c50.1 c50.2
            replace hE := hE_
            have hr_ := hS.row_at (i := 1) rfl
            obtain ⟨cs54, rfl, hc55⟩ := row_el hr_ 0 x40 c50.1 c50.2
            refine plc hE (.x 0 c50 <| .c 1 (hc55 0 _ rfl) <| .r 2 1 <| .nil) (fun a hE => ?_)
            refine pld ?_
            refine hK49 _ _ ?_
            refine wp_seq_k fun K56 hK56 => ?_
            refine pl0 ?_
            refine plc hE (.r 0 1 .nil) (fun a hE => ?_)
            obtain ⟨t58, h59, H⟩ := Option.bind_eq_some_iff.mp H
            refine ple hE (.cl en63 (acceptor_in.calls (nth 0 ([x0_.f1, x0_.f2, x0_.f3, x0_.f4, x0_.f5] ++ x0_.f6) x40) 0 2147483647 _ _ _ hS.own.sub h59)) ?_
            rintro _ u57 a ⟨_, rfl, hC⟩ hE
            replace hS := hS.lent hC
            refine plc hE (.r 2 1 .nil) (fun a hE => ?_)
            refine pld ?_
            refine hK56 _ _ ?_
            by_cases c60 : t58 = true
            · rw [if_pos c60] at H
              replace hE := hE.btn 43 c60
              refine cf hE ?_
              refine wp_skip ?_
              refine hK48 _ _ ?_
              refine pl0 ?_
              refine plc hE (.r 0 2 .nil) (fun a hE => ?_)
              refine pld ?_
              exact then_n ⟨k43, by omega, _, (w64 (x40 + 1)), by omega, hE, .of, hS, H⟩
            · rw [if_neg c60] at H
              replace hE := hE.bfn 43 c60
              refine ct hE ?_
              refine wp_seq_k fun K61 hK61 => ?_
              refine pl0 ?_
              refine plc hE (.r 0 1 .nil) (fun a hE => ?_)
              refine pld ?_
              refine hK61 _ _ ?_
              refine wp_ret (block_ret (then_ret (then_ret (block_ret (then_ret ?_)))))
              replace hS := hS.tail
              replace hS := hS.tail
              obtain rfl := Option.some.inj H
              exact rt1 hE ⟨_, rfl, _, rfl, hS⟩
          · rw [if_neg c47] at H
            replace hE := hE.kf 38 c47
            refine cf hE ?_
            refine wp_exit ?_
            refine hK30 _ _ ?_
            refine wp_seq_k fun K62 hK62 => ?_
            refine pl0 ?_
            refine plc hE (.r 0 1 .nil) (fun a hE => ?_)
            refine pld ?_
            refine hK62 _ _ ?_
            refine wp_ret ?_
            replace hS := hS.tail
            replace hS := hS.tail
            obtain rfl := Option.some.inj H
            exact rt1 hE ⟨_, rfl, _, rfl, hS⟩
  refine drawn 17 ⟨[], [], fun q => False⟩ mixed rfl (by kernel_rfl) (fun hst => ?_)
  replace hS := hS.drew
  have hb2 := hS.blk_at (i := 0) rfl
  refine mny 15 hst hE (.r 0 1 <| .b 1 0 hb2 <| .nil) (fun a hE => ?_)
  obtain ⟨t7, h8, H⟩ := Option.bind_eq_some_iff.mp H
  refine on1 2 hE (.cl en63 (acceptor_in.calls x0_.f0 1 10 _ _ _ hS.own.sub h8)) ?_
  rintro _ u6 a ⟨_, rfl, hC⟩ hE
  refine ⟨.of hC.agr, ?_⟩
  replace hS := hS.lent hC
  refine mny 12 hst hE (.r 3 2 .nil) (fun a hE => ?_)
  by_cases c9 : t7 = true
  · rw [if_pos c9] at H
    replace hE := hE.btn 9 c9
    have hb2 := hS.blk_at (i := 0) rfl
    refine mny 10 hst hE (.bn 5 0 7 hb2 <| .bn 6 0 7 hb2 <| .nil) (fun a hE => ?_)
    obtain ⟨t11, h12, H⟩ := Option.bind_eq_some_iff.mp H
    refine on1 7 hE (.cl en89 (acceptor_bare.calls k x0_ _ _ _ _ _ hS.own.sub g0_6 h12)) ?_
    rintro _ u10 a ⟨F13, A14, c15, rfl, hC, g16⟩ hE
    refine ⟨.of hC.agr, ?_⟩
    have hs := hC.sub
    replace hS := hS.called (X := []) hC
    replace g0_6 := g0_6.mono hs
    obtain ⟨t18, h19, H⟩ := Option.bind_eq_some_iff.mp H
    refine on1 8 hE (.cl en88 (acceptor_SameDelta.calls k x0_ t11 _ _ _ _ _ _ _ hS.own.sub g0_6 g16 h19)) ?_
    rintro _ u17 a ⟨_, rfl, hC⟩ hE
    refine ⟨.of hC.agr, ?_⟩
    replace hS := hS.lent hC
    refine mny 5 hst hE (.r 9 3 .nil) (fun a hE => ?_)
    by_cases c20 : t18 = true
    · rw [if_pos c20] at H
      replace hE := hE.btn 16 c20
      have hb2 := hS.blk_at (i := 0) rfl
      refine mny 0 hst hE (.r 12 1 <| .b 13 6 hb2 <| .r 14 3 <| .nil) (fun a hE => ?_)
      refine dn ?_
      exact J26 _ (by omega) _ (decide ((x0_.f6.length : Int) > 3)) F13 _ _ hE .of hS g0_6 H
    · rw [if_neg c20] at H
      replace hE := hE.bfn 16 c20
      refine mny 0 hst hE (.r 12 5 .nil) (fun a hE => ?_)
      refine dn ?_
      exact J26 _ (by omega) _ true F13 _ _ hE .of hS g0_6 H
  · rw [if_neg c9] at H
    replace hE := hE.bfn 9 c9
    refine mny 0 hst hE (.r 5 12 .nil) (fun a hE => ?_)
    refine dn ?_
    exact J26 _ (by omega) _ true F _ _ hE .of hS g0_6 H

/-! ### windrose/past.counted: function 74 -/
def past_counted.f (x0_ : List Int) : Option (List Int) := if (([(x0_.length : Int)].length : Int) + (x0_.length : Int)) * 8 ≤ 140737488355328 then (some ([(x0_.length : Int)] ++ x0_)) else (none)
def past_counted.Post (W F : World) (r : List Int) (v : Value) (w' : World) : Prop := ∃ (F' : World) (RA0_0 : Option Addr) (rc0_0 : Nat), v = .slice RA0_0 r.length rc0_0 ∧ St W (mine W []) F w' F' [row (Kn.int .i64) 3 (.slice RA0_0 r.length rc0_0) r]
set_option maxHeartbeats 4000000 in
set_option maxRecDepth 100000 in
theorem past_counted.calls (x0_ : List Int) (A0_0 : Option Addr) (c0_0 : Nat) (r : List Int) (W F : World) (hown : Sub F W) (g0_0 : Rd (Kn.int .i64) F A0_0 c0_0 x0_) (H : past_counted.f x0_ = some r) :
    Calls Try.prog 74 #[.slice A0_0 x0_.length c0_0] W fun e w' => ∃ v, e = .returned v ∧ past_counted.Post W F r v w' := by
  have hS := St.start (Own.nil hown)
  unfold past_counted.f at H
  refine enter (n := 8) rfl rfl rfl (Nat.le_of_ble_eq_true rfl) (fun a hE => ?_)
  refine wp_seq_k fun K1 hK1 => ?_
  refine pl0 ?_
  refine plc hE (.r 0 1 .nil) (fun a hE => ?_)
  refine pld ?_
  refine hK1 _ _ ?_
  refine wp_seq_k fun K2 hK2 => ?_
  refine pl0 ?_
  refine plc hE (.r 0 2 .nil) (fun a hE => ?_)
  refine ple hE (.lit (d := (Kn.int .i64)) (e := 3) hS [(x0_.length : Int)] (.cons rfl .nil)) ?_
  rintro _ u3 a ⟨A4, c5, rfl, hS, hg⟩ hE
  refine plc hE (.r 3 1 .nil) (fun a hE => ?_)
  by_cases c7 : (([(x0_.length : Int)].length : Int) + (x0_.length : Int)) * 8 ≤ 140737488355328
  rotate_left
  · rw [if_neg c7] at H; cases H
  rw [if_pos c7] at H
  refine ple hE (.ap (d := (Kn.int .i64)) 8 hS (g0_0.src hS.own.sub) c7 c0_0) ?_
  rintro _ u10 a ⟨A8, c9, rfl, hS, hz⟩ hE
  refine plc hE (.r 5 1 .nil) (fun a hE => ?_)
  refine pld ?_
  refine hK2 _ _ ?_
  refine wp_ret ?_
  obtain rfl := Option.some.inj H
  exact rt1 hE ⟨_, rfl, _, _, _, rfl, hS⟩

/-! ### windrose/past.delta: function 56 -/
def past_delta.f (x0_ : T_api_Delta) : Option (List Int) := (past_counted.f x0_.f6).bind fun t5 => (if (([x0_.f0, x0_.f1, x0_.f2, x0_.f3, x0_.f4, x0_.f5].length : Int) + (t5.length : Int)) * 8 ≤ 140737488355328 then (some ([x0_.f0, x0_.f1, x0_.f2, x0_.f3, x0_.f4, x0_.f5] ++ t5)) else (none))
def past_delta.Post (W F : World) (r : List Int) (v : Value) (w' : World) : Prop := ∃ (F' : World) (RA0_0 : Option Addr) (rc0_0 : Nat), v = .slice RA0_0 r.length rc0_0 ∧ St W (mine W []) F w' F' [row (Kn.int .i64) 3 (.slice RA0_0 r.length rc0_0) r]
set_option maxHeartbeats 4000000 in
set_option maxRecDepth 100000 in
theorem past_delta.calls (x0_ : T_api_Delta) (A0_6 : Option Addr) (c0_6 : Nat) (r : List Int) (W F : World) (hown : Sub F W) (g0_6 : Rd (Kn.int .i64) F A0_6 c0_6 x0_.f6) (H : past_delta.f x0_ = some r) :
    Calls Try.prog 56 #[.agg #[.int .i64 x0_.f0, .int .i64 x0_.f1, .int .i64 x0_.f2, .int .i64 x0_.f3, .int .i64 x0_.f4, .int .i64 x0_.f5, .slice A0_6 x0_.f6.length c0_6]] W fun e w' => ∃ v, e = .returned v ∧ past_delta.Post W F r v w' := by
  have hS := St.start (Own.nil hown)
  unfold past_delta.f at H
  refine enter (n := 20) rfl rfl rfl (Nat.le_of_ble_eq_true rfl) (fun a hE => ?_)
  refine wp_seq_k fun K1 hK1 => ?_
  refine pl0 ?_
  refine ple hE (.bx (t := 33) hS [.int .i64 x0_.f0, .int .i64 x0_.f1, .int .i64 x0_.f2, .int .i64 x0_.f3, .int .i64 x0_.f4, .int .i64 x0_.f5, .slice A0_6 x0_.f6.length c0_6]) ?_
  rintro _ u3 a ⟨b2, rfl, hb2, hS, hg⟩ hE
  refine plc hE (.r 1 1 .nil) (fun a hE => ?_)
  refine pld ?_
  refine hK1 _ _ ?_
  refine wp_seq_k fun K4 hK4 => ?_
  refine drawn 18 ⟨[16], [], fun q => False⟩ mixed rfl (by kernel_rfl) (fun hst => ?_)
  replace hS := hS.drew
  have hb2 := hS.blk_at (i := 0) rfl
  refine mny 4 hst hE (.r 0 1 <| .b 1 0 hb2 <| .r 2 1 <| .b 3 1 hb2 <| .r 4 1 <| .b 5 2 hb2 <| .r 6 1 <| .b 7 3 hb2 <| .r 8 1 <| .b 9 4 hb2 <| .r 10 1 <| .b 11 5 hb2 <| .r 13 1 <| .b 14 6 hb2 <| .nil) (fun a hE => ?_)
  obtain ⟨t5, h6, H⟩ := Option.bind_eq_some_iff.mp H
  refine meet2 (fun a w' => ∃ (G : Nat → Value) (A13 : Option Addr) (c14 : Nat) (A8 : Option Addr) (c9 : Nat) (F18 : World), Env 20 G a ∧ At G [(2, .slice none 0 0), (15, .slice A8 ([x0_.f0, x0_.f1, x0_.f2, x0_.f3, x0_.f4, x0_.f5].length) c9), (18, .slice A13 t5.length c14)] ∧ St W (mine W []) F w' F18 [box b2 #[.int .i64 x0_.f0, .int .i64 x0_.f1, .int .i64 x0_.f2, .int .i64 x0_.f3, .int .i64 x0_.f4, .int .i64 x0_.f5, .slice A0_6 x0_.f6.length c0_6] 33, row (Kn.int .i64) 3 (.slice A13 t5.length c14) t5, row (Kn.int .i64) 3 (.slice A8 ([x0_.f0, x0_.f1, x0_.f2, x0_.f3, x0_.f4, x0_.f5].length) c9) [x0_.f0, x0_.f1, x0_.f2, x0_.f3, x0_.f4, x0_.f5]] ∧ Rd (Kn.int .i64) F18 A0_6 c0_6 x0_.f6) 2 65535 ?_ (fun hJ => ?_)
  · rintro a u19 ⟨G, A13, c14, A8, c9, F18, hE, hA, hS, g0_6⟩
    obtain ⟨J, hE⟩ := hE.at hA
    by_cases c20 : (([x0_.f0, x0_.f1, x0_.f2, x0_.f3, x0_.f4, x0_.f5].length : Int) + (t5.length : Int)) * 8 ≤ 140737488355328
    rotate_left
    · rw [if_neg c20] at H; cases H
    rw [if_pos c20] at H
    replace hS := hS.front 2 rfl
    refine on1 16 hE (.ap (d := (Kn.int .i64)) 8 hS (row_src (hS.row_at (i := 2) rfl)) c20 c14) ?_
    rintro _ u23 a ⟨A21, c22, rfl, hS, hz⟩ hE
    refine ⟨.d, ?_⟩
    refine mny 0 hst hE (.r 17 1 .nil) (fun a hE => ?_)
    refine dn ?_
    refine hK4 _ _ ?_
    refine wp_ret ?_
    replace hS := hS.front 1 rfl
    replace hS := hS.tail
    replace hS := hS.front 1 rfl
    replace hS := hS.tail
    obtain rfl := Option.some.inj H
    exact rt1 hE ⟨_, rfl, _, _, _, rfl, hS⟩
  · refine pk2 12 15 ?_ ?_
    · skip
      refine pk1 12 hE (.lit (d := (Kn.int .i64)) (e := 3) hS [x0_.f0, x0_.f1, x0_.f2, x0_.f3, x0_.f4, x0_.f5] (.cons rfl <| .cons rfl <| .cons rfl <| .cons rfl <| .cons rfl <| .cons rfl .nil)) ?_
      rintro _ u7 a ⟨A8, c9, rfl, hS, hg⟩ hE
      refine ⟨.of hg, ?_⟩
      refine on1 15 hE (.cl en74 (past_counted.calls x0_.f6 _ _ _ _ _ hS.own.sub g0_6 h6)) ?_
      rintro _ u11 a ⟨F12, A13, c14, rfl, hC⟩ hE
      refine ⟨.of hC.agr, ?_⟩
      have hs := hC.sub
      replace hS := hS.called (X := []) hC
      replace g0_6 := g0_6.mono hs
      replace hS := hS.front 1 rfl
      replace hS := hS.front 1 rfl
      replace hS := hS.front 2 rfl
      exact hJ _ _ ⟨_, A13, c14, A8, c9, F12, hE, .of, hS, g0_6⟩
    · skip
      refine pk1 15 hE (.cl en74 (past_counted.calls x0_.f6 _ _ _ _ _ hS.own.sub g0_6 h6)) ?_
      rintro _ u11 a ⟨F12, A13, c14, rfl, hC⟩ hE
      refine ⟨.of hC.agr, ?_⟩
      have hs := hC.sub
      replace hS := hS.called (X := []) hC
      replace g0_6 := g0_6.mono hs
      refine on1 12 hE (.lit (d := (Kn.int .i64)) (e := 3) hS [x0_.f0, x0_.f1, x0_.f2, x0_.f3, x0_.f4, x0_.f5] (.cons rfl <| .cons rfl <| .cons rfl <| .cons rfl <| .cons rfl <| .cons rfl .nil)) ?_
      rintro _ u7 a ⟨A8, c9, rfl, hS, hg⟩ hE
      refine ⟨.of hg, ?_⟩
      replace hS := hS.front 1 rfl
      replace hS := hS.front 2 rfl
      exact hJ _ _ ⟨_, A13, c14, A8, c9, F12, hE, .of, hS, g0_6⟩

/-! ### windrose/past.Delta: function 20 -/
def past_Delta.f (k : Nat) (x0_ : T_api_Delta) : Option (T_api_Data × Int) := (acceptor_CheckDelta.f k x0_).bind fun t9 => (if t9 = 0 then ((past_delta.f x0_).bind fun t18 => (some ((⟨t18, []⟩ : T_api_Data), 0))) else (some ((⟨[], []⟩ : T_api_Data), t9)))
def past_Delta.Post (W F : World) (r : T_api_Data × Int) (v : Value) (w' : World) : Prop := ∃ (F' : World) (RA0_0 : Option Addr) (rc0_0 : Nat) (RA0_1 : Option Addr) (rc0_1 : Nat), v = .tuple #[.agg #[.slice RA0_0 r.1.f0.length rc0_0, .slice RA0_1 r.1.f1.length rc0_1], .int .i64 r.2] ∧ St W (mine W []) F w' F' [row (Kn.int .i64) 3 (.slice RA0_0 r.1.f0.length rc0_0) r.1.f0] ∧ Rd Kn.string F' RA0_1 rc0_1 r.1.f1
set_option maxHeartbeats 4000000 in
set_option maxRecDepth 100000 in
theorem past_Delta.calls (k : Nat) (x0_ : T_api_Delta) (A0_6 : Option Addr) (c0_6 : Nat) (r : T_api_Data × Int) (W F : World) (hown : Sub F W) (g0_6 : Rd (Kn.int .i64) F A0_6 c0_6 x0_.f6) (H : past_Delta.f k x0_ = some r) :
    Calls Try.prog 20 #[.agg #[.int .i64 x0_.f0, .int .i64 x0_.f1, .int .i64 x0_.f2, .int .i64 x0_.f3, .int .i64 x0_.f4, .int .i64 x0_.f5, .slice A0_6 x0_.f6.length c0_6]] W fun e w' => ∃ v, e = .returned v ∧ past_Delta.Post W F r v w' := by
  have hS := St.start (Own.nil hown)
  unfold past_Delta.f at H
  refine enter (n := 14) rfl rfl rfl (Nat.le_of_ble_eq_true rfl) (fun a hE => ?_)
  refine wp_seq_k fun K1 hK1 => ?_
  refine pl0 ?_
  refine ple hE (.bx (t := 33) hS [.int .i64 x0_.f0, .int .i64 x0_.f1, .int .i64 x0_.f2, .int .i64 x0_.f3, .int .i64 x0_.f4, .int .i64 x0_.f5, .slice A0_6 x0_.f6.length c0_6]) ?_
  rintro _ u3 a ⟨b2, rfl, hb2, hS, hg⟩ hE
  refine ple hE (.al (t := 36) hS [.slice none 0 0, .slice none 0 0]) ?_
  rintro _ u5 a ⟨b4, rfl, hb4, hS, hg⟩ hE
  refine plc hE (.r 2 1 .nil) (fun a hE => ?_)
  refine pld ?_
  refine hK1 _ _ ?_
  refine wp_seq_k fun K6 hK6 => ?_
  refine wp_seq_k fun K7 hK7 => ?_
  refine pl0 ?_
  have hb2 := hS.blk_at (i := 1) rfl
  refine plc hE (.bn 0 0 7 hb2 .nil) (fun a hE => ?_)
  obtain ⟨t9, h10, H⟩ := Option.bind_eq_some_iff.mp H
  refine ple hE (.cl en55 (acceptor_CheckDelta.calls k x0_ _ _ _ _ _ hS.own.sub g0_6 h10)) ?_
  rintro _ u8 a ⟨_, rfl, hC⟩ hE
  replace hS := hS.lent hC
  refine plc hE (.r 2 1 .nil) (fun a hE => ?_)
  refine pld ?_
  refine hK7 _ _ ?_
  refine wp_seq_k fun K11 hK11 => ?_
  refine pl0 ?_
  refine plc hE (.r 0 2 .nil) (fun a hE => ?_)
  refine pld ?_
  refine hK11 _ _ ?_
  by_cases c12 : t9 = 0
  · rw [if_pos c12] at H
    replace hE := hE.ktn 8 c12
    refine cf hE ?_
    refine wp_skip ?_
    refine hK6 _ _ ?_
    refine wp_seq_k fun K16 hK16 => ?_
    refine pl0 ?_
    have hb2 := hS.blk_at (i := 1) rfl
    refine plc hE (.bn 0 0 7 hb2 .nil) (fun a hE => ?_)
    obtain ⟨t18, h19, H⟩ := Option.bind_eq_some_iff.mp H
    refine ple hE (.cl en56 (past_delta.calls x0_ _ _ _ _ _ hS.own.sub g0_6 h19)) ?_
    rintro _ u17 a ⟨F20, A21, c22, rfl, hC⟩ hE
    have hs := hC.sub
    replace hS := hS.called (X := []) hC
    replace g0_6 := g0_6.mono hs
    refine plc hE (.r 2 1 .nil) (fun a hE => ?_)
    replace hS := hS.front 1 rfl
    refine ple hE (.sto hS [.slice A21 t18.length c22, .slice none 0 0]) ?_
    rintro _ u25 a ⟨rfl, hb4, hS, hz⟩ hE
    refine plc hE (.r 4 1 .nil) (fun a hE => ?_)
    refine pld ?_
    refine hK16 _ _ ?_
    refine wp_ret ?_
    replace hS := hS.tail
    replace hS := hS.front 1 rfl
    replace hS := hS.tail
    obtain rfl := Option.some.inj H
    exact retN hE rfl (of_decide_eq_true rfl) (.cell (by kernel_rfl) (res_blk [.slice A21 t18.length c22, .slice none 0 0] ag36 sz36 hb4 rfl) (.tmp (by kernel_rfl) .nil)) ⟨_, rfl, _, _, _, _, _, rfl, hS, (Rd.nil _ _)⟩
  · rw [if_neg c12] at H
    replace hE := hE.kfn 8 c12
    refine ct hE ?_
    refine wp_seq_k fun K13 hK13 => ?_
    refine pl0 ?_
    refine plc hE (.r 0 2 .nil) (fun a hE => ?_)
    refine ple hE (.sto hS [.slice none 0 0, .slice none 0 0]) ?_
    rintro _ u14 a ⟨rfl, hb4, hS, hz⟩ hE
    refine plc hE (.r 3 1 .nil) (fun a hE => ?_)
    refine pld ?_
    refine hK13 _ _ ?_
    refine wp_ret (then_ret ?_)
    replace hS := hS.nilrow (Kn.int .i64) 3
    replace hS := hS.front 1 rfl
    replace hS := hS.tail
    replace hS := hS.front 1 rfl
    replace hS := hS.tail
    obtain rfl := Option.some.inj H
    exact retN hE rfl (of_decide_eq_true rfl) (.cell (by kernel_rfl) (res_blk [.slice none 0 0, .slice none 0 0] ag36 sz36 hb4 rfl) (.tmp (by kernel_rfl) .nil)) ⟨_, rfl, _, _, _, _, _, rfl, hS, (Rd.nil _ _)⟩

/-! ### windrose/windroseref02.Ints: function 44 -/
def windroseref02_Ints.l9 : Nat → List Int → List Int → Int → Option Bool
  | 0, _, _, _ => none
  | k + 1, x0_, x1_, x8 => if x8 < (x0_.length : Int) then (if 0 ≤ x8 ∧ x8 < (x0_.length : Int) then (if 0 ≤ x8 ∧ x8 < (x1_.length : Int) then (if (nth 0 x0_ x8) = (nth 0 x1_ x8) then (windroseref02_Ints.l9 k x0_ x1_ (w64 (x8 + 1))) else (some false)) else (none)) else (none)) else (some true)
theorem windroseref02_Ints.l9_s (k : Nat) (x0_ : List Int) (x1_ : List Int) (x8 : Int) : windroseref02_Ints.l9 (k + 1) x0_ x1_ x8 = (if x8 < (x0_.length : Int) then (if 0 ≤ x8 ∧ x8 < (x0_.length : Int) then (if 0 ≤ x8 ∧ x8 < (x1_.length : Int) then (if (nth 0 x0_ x8) = (nth 0 x1_ x8) then (windroseref02_Ints.l9 k x0_ x1_ (w64 (x8 + 1))) else (some false)) else (none)) else (none)) else (some true)) := by kernel_rfl
def windroseref02_Ints.f (k : Nat) (x0_ : List Int) (x1_ : List Int) : Option Bool := if (x0_.length : Int) = (x1_.length : Int) then (windroseref02_Ints.l9 k x0_ x1_ 0) else (some false)
def windroseref02_Ints.Post (W F : World) (r : Bool) (v : Value) (w' : World) : Prop := ∃ (F' : World), v = .bool r ∧ St W (mine W []) F w' F' []
set_option maxHeartbeats 4000000 in
set_option maxRecDepth 100000 in
theorem windroseref02_Ints.calls (k : Nat) (x0_ : List Int) (x1_ : List Int) (A0_0 : Option Addr) (c0_0 : Nat) (A1_0 : Option Addr) (c1_0 : Nat) (r : Bool) (W F : World) (hown : Sub F W) (g0_0 : Rd (Kn.int .i64) F A0_0 c0_0 x0_) (g1_0 : Rd (Kn.int .i64) F A1_0 c1_0 x1_) (H : windroseref02_Ints.f k x0_ x1_ = some r) :
    Calls Try.prog 44 #[.slice A0_0 x0_.length c0_0, .slice A1_0 x1_.length c1_0] W fun e w' => ∃ v, e = .returned v ∧ windroseref02_Ints.Post W F r v w' := by
  have hS := St.start (Own.nil hown)
  unfold windroseref02_Ints.f at H
  refine enter (n := 26) rfl rfl rfl (Nat.le_of_ble_eq_true rfl) (fun a hE => ?_)
  refine wp_seq_k fun K1 hK1 => ?_
  refine pl0 ?_
  refine plc hE (.r 0 1 .nil) (fun a hE => ?_)
  refine pld ?_
  refine hK1 _ _ ?_
  refine wp_seq_k fun K2 hK2 => ?_
  refine wp_seq_k fun K3 hK3 => ?_
  refine pl0 ?_
  refine plc hE (.r 0 5 .nil) (fun a hE => ?_)
  refine pld ?_
  refine hK3 _ _ ?_
  by_cases c4 : (x0_.length : Int) = (x1_.length : Int)
  · rw [if_pos c4] at H
    replace hE := hE.ktn 10 c4
    refine cf hE ?_
    refine wp_skip ?_
    refine hK2 _ _ ?_
    refine wp_seq_k fun K6 hK6 => ?_
    refine wp_seq_k fun K7 hK7 => ?_
    refine pl0 ?_
    refine plc hE (.r 0 1 .nil) (fun a hE => ?_)
    refine pld ?_
    refine hK7 _ _ ?_
    refine wp_block ?_
    refine wp_loop_ghost (fun kq10 a w' => ∃ (G : Nat → Value) (x8 : Int), kq10 ≤ k ∧ Env 26 G a ∧ At G [(0, .slice A0_0 x0_.length c0_0), (1, .slice A1_0 x1_.length c1_0), (5, .int .i64 x8)] ∧ St W (mine W []) F w' F [] ∧  windroseref02_Ints.l9 kq10 x0_ x1_ x8 = some r) k ⟨_, 0, Nat.le_refl _, hE, .of, hS, H⟩ ?_
    rintro kq10 a u12 ⟨G, x8, hkq, hE, hA, hS, H⟩
    cases kq10 with
    | zero => cases (show none = some r from H)
    | succ k11 =>
      rw [windroseref02_Ints.l9_s] at H
      obtain ⟨J, hE⟩ := hE.at hA
      refine wp_seq_k fun K13 hK13 => ?_
      refine wp_seq_k fun K14 hK14 => ?_
      refine pl0 ?_
      refine plc hE (.r 0 4 .nil) (fun a hE => ?_)
      refine pld ?_
      refine hK14 _ _ ?_
      by_cases c15 : x8 < (x0_.length : Int)
      · rw [if_pos c15] at H
        replace hE := hE.kt 14 c15
        refine ct hE ?_
        refine wp_skip ?_
        refine hK13 _ _ ?_
        refine wp_seq_k fun K16 hK16 => ?_
        refine wp_block ?_
        refine wp_seq_k fun K17 hK17 => ?_
        refine drawn 9 ⟨[], [], fun q => False⟩ mixed rfl (by kernel_rfl) (fun hst => ?_)
        replace hS := hS.drew
        by_cases c18 : 0 ≤ x8 ∧ x8 < (x0_.length : Int)
        rotate_left
        · rw [if_neg c18] at H; cases H
        rw [if_pos c18] at H
        have hE_ := hE
        obtain ⟨ad19, rfl⟩ := g0_0.addr c18.1 c18.2
        replace hE := hE_
        obtain ⟨cs21, rfl, hc22⟩ := g0_0.el 0 x8 c18.1 c18.2
        by_cases c23 : 0 ≤ x8 ∧ x8 < (x1_.length : Int)
        rotate_left
        · rw [if_neg c23] at H; cases H
        rw [if_pos c23] at H
        have hE_ := hE
        obtain ⟨ad24, rfl⟩ := g1_0.addr c23.1 c23.2
        replace hE := hE_
        obtain ⟨cs26, rfl, hc27⟩ := g1_0.el 0 x8 c23.1 c23.2
        refine mny 0 hst hE (.r 0 2 <| .x 2 c18 <| .c 3 (hS.fc hc22 0) <| .r 4 2 <| .x 6 c23 <| .c 7 (hS.fc hc27 0) <| .r 8 1 <| .nil) (fun a hE => ?_)
        refine dn ?_
        refine hK17 _ _ ?_
        by_cases c28 : (nth 0 x0_ x8) = (nth 0 x1_ x8)
        · rw [if_pos c28] at H
          replace hE := hE.ktn 25 c28
          refine cf hE ?_
          refine wp_skip ?_
          refine hK16 _ _ ?_
          refine pl0 ?_
          refine plc hE (.r 0 3 .nil) (fun a hE => ?_)
          refine pld ?_
          exact then_n ⟨k11, by omega, _, (w64 (x8 + 1)), by omega, hE, .of, hS, H⟩
        · rw [if_neg c28] at H
          replace hE := hE.kfn 25 c28
          refine ct hE ?_
          refine wp_seq_k fun K29 hK29 => ?_
          refine pl0 ?_
          refine plc hE (.r 0 1 .nil) (fun a hE => ?_)
          refine pld ?_
          refine hK29 _ _ ?_
          refine wp_ret (block_ret (then_ret (then_ret (block_ret (then_ret ?_)))))
          obtain rfl := Option.some.inj H
          exact rt1 hE ⟨_, rfl, _, rfl, hS⟩
      · rw [if_neg c15] at H
        replace hE := hE.kf 14 c15
        refine cf hE ?_
        refine wp_exit ?_
        refine hK6 _ _ ?_
        refine wp_seq_k fun K30 hK30 => ?_
        refine pl0 ?_
        refine plc hE (.r 0 1 .nil) (fun a hE => ?_)
        refine pld ?_
        refine hK30 _ _ ?_
        refine wp_ret ?_
        obtain rfl := Option.some.inj H
        exact rt1 hE ⟨_, rfl, _, rfl, hS⟩
  · rw [if_neg c4] at H
    replace hE := hE.kfn 10 c4
    refine ct hE ?_
    refine wp_seq_k fun K5 hK5 => ?_
    refine pl0 ?_
    refine plc hE (.r 0 1 .nil) (fun a hE => ?_)
    refine pld ?_
    refine hK5 _ _ ?_
    refine wp_ret (then_ret ?_)
    obtain rfl := Option.some.inj H
    exact rt1 hE ⟨_, rfl, _, rfl, hS⟩

/-! ### windrose/windroselaw27.awake: function 16 -/
def windroselaw27_awake.f (k : Nat) : Option Bool := (past_Delta.f k (⟨3, 5, 0, 0, 0, 0, []⟩ : T_api_Delta)).bind fun t4 => (if t4.2 = 0 then ((windroseref02_Ints.f k t4.1.f0 [3, 5, 0, 0, 0, 0, 0]).bind fun t24 => (some t24)) else (some false))
def windroselaw27_awake.Post (W F : World) (r : Bool) (v : Value) (w' : World) : Prop := ∃ (F' : World), v = .bool r ∧ St W (mine W []) F w' F' []
set_option maxHeartbeats 4000000 in
set_option maxRecDepth 100000 in
theorem windroselaw27_awake.calls (k : Nat) (r : Bool) (W F : World) (hown : Sub F W) (H : windroselaw27_awake.f k = some r) :
    Calls Try.prog 16 #[] W fun e w' => ∃ v, e = .returned v ∧ windroselaw27_awake.Post W F r v w' := by
  have hS := St.start (Own.nil hown)
  unfold windroselaw27_awake.f at H
  refine enter (n := 16) rfl rfl rfl (Nat.le_of_ble_eq_true rfl) (fun a hE => ?_)
  refine wp_seq_k fun K1 hK1 => ?_
  refine pl0 ?_
  refine plc hE (.r 0 1 .nil) (fun a hE => ?_)
  refine pld ?_
  refine hK1 _ _ ?_
  refine wp_seq_k fun K2 hK2 => ?_
  refine pl0 ?_
  refine plc hE (.r 0 1 .nil) (fun a hE => ?_)
  obtain ⟨t4, h5, H⟩ := Option.bind_eq_some_iff.mp H
  refine ple hE (.cl en20 (past_Delta.calls k (⟨3, 5, 0, 0, 0, 0, []⟩ : T_api_Delta) _ _ _ _ _ hS.own.sub (Rd.nil _ _) h5)) ?_
  rintro _ u3 a ⟨F6, A7, c8, A11, c12, rfl, hC, g13⟩ hE
  have hs := hC.sub
  replace hS := hS.called (X := []) hC
  refine plc hE (.r 2 3 .nil) (fun a hE => ?_)
  refine ple hE (.al (t := 36) hS [.slice none 0 0, .slice none 0 0]) ?_
  rintro _ u15 a ⟨b14, rfl, hb14, hS, hg⟩ hE
  refine ple hE (.sto hS [.slice A7 t4.1.f0.length c8, .slice A11 t4.1.f1.length c12]) ?_
  rintro _ u16 a ⟨rfl, hb14, hS, hz⟩ hE
  refine plc hE (.r 7 1 .nil) (fun a hE => ?_)
  refine pld ?_
  refine hK2 _ _ ?_
  refine wp_seq_k fun K17 hK17 => ?_
  refine pl0 ?_
  refine plc hE (.r 0 3 .nil) (fun a hE => ?_)
  by_cases c18 : t4.2 = 0
  · rw [if_pos c18] at H
    replace hE := hE.kt 10 c18
    refine plc hE (.r 3 1 <| .b 4 0 hb14 <| .nil) (fun a hE => ?_)
    refine ple hE (.lit (d := (Kn.int .i64)) (e := 3) hS [3, 5, 0, 0, 0, 0, 0] (.cons rfl <| .cons rfl <| .cons rfl <| .cons rfl <| .cons rfl <| .cons rfl <| .cons rfl .nil)) ?_
    rintro _ u19 a ⟨A20, c21, rfl, hS, hg⟩ hE
    obtain ⟨t24, h25, H⟩ := Option.bind_eq_some_iff.mp H
    refine ple hE (.cl en44 (windroseref02_Ints.calls k t4.1.f0 [3, 5, 0, 0, 0, 0, 0] _ _ _ _ _ _ _ (Sub.refl _) (hS.rd_at (i := 2) rfl) (hS.rd_at (i := 0) rfl) h25)) ?_
    rintro _ u23 a ⟨_, rfl, hC⟩ hE
    replace hS := hS.lent hC
    refine plc hE (.r 7 2 .nil) (fun a hE => ?_)
    refine pld ?_
    refine hK17 _ _ ?_
    refine wp_ret ?_
    replace hS := hS.tail
    replace hS := hS.tail
    replace hS := hS.tail
    obtain rfl := Option.some.inj H
    exact rt1 hE ⟨_, rfl, _, rfl, hS⟩
  · rw [if_neg c18] at H
    replace hE := hE.kf 10 c18
    refine plc hE (.r 3 6 .nil) (fun a hE => ?_)
    refine pld ?_
    refine hK17 _ _ ?_
    refine wp_ret ?_
    replace hS := hS.tail
    replace hS := hS.tail
    obtain rfl := Option.some.inj H
    exact rt1 hE ⟨_, rfl, _, rfl, hS⟩

/-! ### (*windrose/past.reader).next: function 53 -/
def past_reader_next.f (x0_ : T_past_reader) : Option (Int × T_past_reader) := if (x0_.f0.length : Int) = 0 then (some (0, (⟨x0_.f0, true⟩ : T_past_reader))) else (if 0 ≤ (0 : Int) ∧ 0 < (x0_.f0.length : Int) then (if 0 ≤ (1 : Int) ∧ (1 : Int) ≤ (x0_.f0.length : Int) then (some ((nth 0 x0_.f0 0), (⟨(cutl x0_.f0 (1 : Int) (x0_.f0.length : Int)), x0_.f1⟩ : T_past_reader))) else (none)) else (none))
def past_reader_next.Post (x0_ : T_past_reader) (p0_ : Nat) (A0_0 : Option Addr) (c0_0 : Nat) (W F : World) (r : Int × T_past_reader) (v : Value) (w' : World) : Prop := ∃ (F' : World) (RA1_0 : Option Addr) (rc1_0 : Nat), v = .int .i64 r.1 ∧ St W (mine W [box p0_ #[.slice A0_0 x0_.f0.length c0_0, .bool x0_.f1] 116]) F w' F' [box p0_ #[.slice RA1_0 r.2.f0.length rc1_0, .bool r.2.f1] 116] ∧ Rd (Kn.int .i64) F' RA1_0 rc1_0 r.2.f0
set_option maxHeartbeats 4000000 in
set_option maxRecDepth 100000 in
theorem past_reader_next.calls (x0_ : T_past_reader) (p0_ : Nat) (A0_0 : Option Addr) (c0_0 : Nat) (r : Int × T_past_reader) (W F : World) (hown : Own W F [box p0_ #[.slice A0_0 x0_.f0.length c0_0, .bool x0_.f1] 116]) (g0_0 : Rd (Kn.int .i64) F A0_0 c0_0 x0_.f0) (H : past_reader_next.f x0_ = some r) :
    Calls Try.prog 53 #[.pointer (some ⟨p0_, 0, none⟩)] W fun e w' => ∃ v, e = .returned v ∧ past_reader_next.Post x0_ p0_ A0_0 c0_0 W F r v w' := by
  have hS := St.start hown
  unfold past_reader_next.f at H
  refine enter (n := 28) rfl rfl rfl (Nat.le_of_ble_eq_true rfl) (fun a hE => ?_)
  refine wp_seq_k fun K1 hK1 => ?_
  refine pl0 ?_
  refine plc hE (.r 0 1 .nil) (fun a hE => ?_)
  refine pld ?_
  refine hK1 _ _ ?_
  refine wp_seq_k fun K2 hK2 => ?_
  refine wp_seq_k fun K3 hK3 => ?_
  refine pl0 ?_
  have hp0_ := hS.blk_at (i := 0) rfl
  refine plc hE (.r 0 3 <| .b 3 0 hp0_ <| .r 4 2 <| .nil) (fun a hE => ?_)
  refine pld ?_
  refine hK3 _ _ ?_
  by_cases c4 : (x0_.f0.length : Int) = 0
  · rw [if_pos c4] at H
    replace hE := hE.kt 9 c4
    refine ct hE ?_
    refine wp_seq_k fun K5 hK5 => ?_
    refine pl0 ?_
    refine plc hE (.r 0 3 .nil) (fun a hE => ?_)
    refine ple hE (.sto hS [.slice A0_0 x0_.f0.length c0_0, .bool true]) ?_
    rintro _ u6 a ⟨rfl, hp0_, hS, hz⟩ hE
    refine pld ?_
    refine hK5 _ _ ?_
    refine wp_seq_k fun K7 hK7 => ?_
    refine pl0 ?_
    refine plc hE (.r 0 1 .nil) (fun a hE => ?_)
    refine pld ?_
    refine hK7 _ _ ?_
    refine wp_ret (then_ret ?_)
    obtain rfl := Option.some.inj H
    exact rt1 hE ⟨_, rfl, _, _, _, rfl, hS, g0_0⟩
  · rw [if_neg c4] at H
    replace hE := hE.kf 9 c4
    refine cf hE ?_
    refine wp_skip ?_
    refine hK2 _ _ ?_
    refine wp_seq_k fun K8 hK8 => ?_
    refine pl0 ?_
    by_cases c9 : 0 ≤ (0 : Int) ∧ 0 < (x0_.f0.length : Int)
    rotate_left
    · rw [if_neg c9] at H; cases H
    rw [if_pos c9] at H
    have hE_ := hE
    obtain ⟨ad10, rfl⟩ := g0_0.addr c9.1 c9.2
    replace hE := hE_
    obtain ⟨cs12, rfl, hc13⟩ := g0_0.el 0 0 c9.1 c9.2
    refine plc hE (.r 0 3 <| .b 3 0 hp0_ <| .x 4 c9 <| .c 5 (hS.fc hc13 0) <| .r 6 1 <| .nil) (fun a hE => ?_)
    refine pld ?_
    refine hK8 _ _ ?_
    refine wp_seq_k fun K14 hK14 => ?_
    refine pl0 ?_
    by_cases c15 : 0 ≤ (1 : Int) ∧ (1 : Int) ≤ (x0_.f0.length : Int)
    rotate_left
    · rw [if_neg c15] at H; cases H
    rw [if_pos c15] at H
    obtain ⟨A16, c17, g18, hv19⟩ := slK_run (P := Try.prog) g0_0 ⟨c15.1, c15.2, Int.le_refl _⟩ sz3
    refine plc hE (.r 0 4 <| .b 4 0 hp0_ <| .y 5 (hv19 (by kernel_rfl)) <| .r 6 2 <| .nil) (fun a hE => ?_)
    refine ple hE (.sto hS [.slice A16 ((cutl x0_.f0 (1 : Int) (x0_.f0.length : Int)).length) c17, .bool x0_.f1]) ?_
    rintro _ u20 a ⟨rfl, hp0_, hS, hz⟩ hE
    refine pld ?_
    refine hK14 _ _ ?_
    refine wp_seq_k fun K21 hK21 => ?_
    refine pl0 ?_
    refine plc hE (.r 0 2 .nil) (fun a hE => ?_)
    refine pld ?_
    refine hK21 _ _ ?_
    refine wp_ret ?_
    obtain rfl := Option.some.inj H
    exact rt1 hE ⟨_, rfl, _, _, _, rfl, hS, g18⟩

/-! ### slices.Clone[[]int,int]: function 64 -/
def slices_Clone__int_int.f (x0_ : List Int) : Option (List Int) := if ((([] : List Int).length : Int) + (x0_.length : Int)) * 8 ≤ 140737488355328 then (some (([] : List Int) ++ x0_)) else (none)
def slices_Clone__int_int.Post (W F : World) (r : List Int) (v : Value) (w' : World) : Prop := ∃ (F' : World) (RA0_0 : Option Addr) (rc0_0 : Nat), v = .slice RA0_0 r.length rc0_0 ∧ St W (mine W []) F w' F' [row (Kn.int .i64) 3 (.slice RA0_0 r.length rc0_0) r]
set_option maxHeartbeats 4000000 in
set_option maxRecDepth 100000 in
theorem slices_Clone__int_int.calls (x0_ : List Int) (A0_0 : Option Addr) (c0_0 : Nat) (r : List Int) (W F : World) (hown : Sub F W) (g0_0 : Rd (Kn.int .i64) F A0_0 c0_0 x0_) (H : slices_Clone__int_int.f x0_ = some r) :
    Calls Try.prog 64 #[.slice A0_0 x0_.length c0_0] W fun e w' => ∃ v, e = .returned v ∧ slices_Clone__int_int.Post W F r v w' := by
  have hS := St.start (Own.nil hown)
  unfold slices_Clone__int_int.f at H
  refine enter (n := 8) rfl rfl rfl (Nat.le_of_ble_eq_true rfl) (fun a hE => ?_)
  rcases A0_0 with _ | ad1
  · have hnil := g0_0.none_nil
    replace H : (some []) = some r := by simpa [hnil] using H
    refine wp_seq_k fun K2 hK2 => ?_
    refine pl0 ?_
    refine plc hE (.r 0 1 .nil) (fun a hE => ?_)
    refine pld ?_
    refine hK2 _ _ ?_
    refine wp_seq_k fun K3 hK3 => ?_
    refine wp_seq_k fun K4 hK4 => ?_
    refine pl0 ?_
    refine plc hE (.r 0 2 .nil) (fun a hE => ?_)
    refine pld ?_
    refine hK4 _ _ ?_
    refine ct hE ?_
    refine wp_seq_k fun K5 hK5 => ?_
    refine pl0 ?_
    refine plc hE (.r 0 1 .nil) (fun a hE => ?_)
    refine pld ?_
    refine hK5 _ _ ?_
    refine wp_ret (then_ret ?_)
    replace hS := hS.nilrow (Kn.int .i64) 3
    obtain rfl := Option.some.inj H
    exact rt1 hE ⟨_, rfl, _, _, _, rfl, hS⟩
  · skip
    refine wp_seq_k fun K7 hK7 => ?_
    refine pl0 ?_
    refine plc hE (.r 0 1 .nil) (fun a hE => ?_)
    refine pld ?_
    refine hK7 _ _ ?_
    refine wp_seq_k fun K8 hK8 => ?_
    refine wp_seq_k fun K9 hK9 => ?_
    refine pl0 ?_
    refine plc hE (.r 0 2 .nil) (fun a hE => ?_)
    refine pld ?_
    refine hK9 _ _ ?_
    refine cf hE ?_
    refine wp_skip ?_
    refine hK8 _ _ ?_
    refine wp_seq_k fun K10 hK10 => ?_
    refine pl0 ?_
    refine ple hE (.lit (d := (Kn.int .i64)) (e := 3) hS ([] : List Int) (.nil)) ?_
    rintro _ u11 a ⟨A12, c13, rfl, hS, hg⟩ hE
    refine plc hE (.r 1 1 .nil) (fun a hE => ?_)
    by_cases c15 : ((([] : List Int).length : Int) + (x0_.length : Int)) * 8 ≤ 140737488355328
    rotate_left
    · rw [if_neg c15] at H; cases H
    rw [if_pos c15] at H
    refine ple hE (.ap (d := (Kn.int .i64)) 8 hS (g0_0.src hS.own.sub) c15 c0_0) ?_
    rintro _ u18 a ⟨A16, c17, rfl, hS, hz⟩ hE
    refine plc hE (.r 3 1 .nil) (fun a hE => ?_)
    refine pld ?_
    refine hK10 _ _ ?_
    refine wp_ret ?_
    obtain rfl := Option.some.inj H
    exact rt1 hE ⟨_, rfl, _, _, _, rfl, hS⟩

/-! ### (*windrose/past.reader).count: function 65 -/
def past_reader_count.j15 : Nat → Int × T_past_reader → Bool → Option (Int × T_past_reader)
  | 0, _, _ => none
  | k + 1, t4, y14 => if y14 = true then (some (0, (⟨t4.2.f0, true⟩ : T_past_reader))) else (some (t4.1, t4.2))
theorem past_reader_count.j15_s (k : Nat) (t4 : Int × T_past_reader) (y14 : Bool) : past_reader_count.j15 (k + 1) t4 y14 = (if y14 = true then (some (0, (⟨t4.2.f0, true⟩ : T_past_reader))) else (some (t4.1, t4.2))) := by kernel_rfl
def past_reader_count.f (k : Nat) (x0_ : T_past_reader) (x1_ : Int) : Option (Int × T_past_reader) := (past_reader_next.f x0_).bind fun t4 => (if t4.1 < 0 then (past_reader_count.j15 k t4 true) else (if x1_ ≠ 0 then (past_reader_count.j15 k t4 (decide (t4.1 > (w64 ((t4.2.f0.length : Int).tdiv x1_))))) else (none)))
def past_reader_count.Post (x0_ : T_past_reader) (x1_ : Int) (p0_ : Nat) (A0_0 : Option Addr) (c0_0 : Nat) (W F : World) (r : Int × T_past_reader) (v : Value) (w' : World) : Prop := ∃ (F' : World) (RA1_0 : Option Addr) (rc1_0 : Nat), v = .int .i64 r.1 ∧ St W (mine W [box p0_ #[.slice A0_0 x0_.f0.length c0_0, .bool x0_.f1] 116]) F w' F' [box p0_ #[.slice RA1_0 r.2.f0.length rc1_0, .bool r.2.f1] 116] ∧ Rd (Kn.int .i64) F' RA1_0 rc1_0 r.2.f0
set_option maxHeartbeats 4000000 in
set_option maxRecDepth 100000 in
theorem past_reader_count.calls (k : Nat) (x0_ : T_past_reader) (x1_ : Int) (p0_ : Nat) (A0_0 : Option Addr) (c0_0 : Nat) (r : Int × T_past_reader) (W F : World) (hown : Own W F [box p0_ #[.slice A0_0 x0_.f0.length c0_0, .bool x0_.f1] 116]) (g0_0 : Rd (Kn.int .i64) F A0_0 c0_0 x0_.f0) (H : past_reader_count.f k x0_ x1_ = some r) :
    Calls Try.prog 65 #[.pointer (some ⟨p0_, 0, none⟩), .int .i64 x1_] W fun e w' => ∃ v, e = .returned v ∧ past_reader_count.Post x0_ x1_ p0_ A0_0 c0_0 W F r v w' := by
  have hS := St.start hown
  unfold past_reader_count.f at H
  refine enter (n := 25) rfl rfl rfl (Nat.le_of_ble_eq_true rfl) (fun a hE => ?_)
  refine wp_seq_k fun K1 hK1 => ?_
  refine pl0 ?_
  refine plc hE (.r 0 1 .nil) (fun a hE => ?_)
  refine pld ?_
  refine hK1 _ _ ?_
  refine wp_seq_k fun K2 hK2 => ?_
  refine pl0 ?_
  refine plc hE (.r 0 1 .nil) (fun a hE => ?_)
  obtain ⟨t4, h5, H⟩ := Option.bind_eq_some_iff.mp H
  refine ple hE (.cl en53 (past_reader_next.calls x0_ _ _ _ _ _ _ (Own.left (X := [box p0_ #[.slice A0_0 x0_.f0.length c0_0, .bool x0_.f1] 116]) hS.own) g0_0 h5)) ?_
  rintro _ u3 a ⟨F6, A7, c8, rfl, hC, g9⟩ hE
  have hs := hC.sub
  replace hS := hS.called (X := [box p0_ #[.slice A0_0 x0_.f0.length c0_0, .bool x0_.f1] 116]) hC
  replace g0_0 := g0_0.mono hs
  refine plc hE (.r 2 1 .nil) (fun a hE => ?_)
  refine pld ?_
  refine hK2 _ _ ?_
  refine wp_seq_k fun K10 hK10 => ?_
  refine wp_seq_k fun K11 hK11 => ?_
  have J18 : ∀ kq16, kq16 ≤ k → ∀ (G : Nat → Value) (y14 : Bool) (a : Act) (w' : World), Env 25 G a → At G [(0, .pointer (some ⟨p0_, 0, none⟩)), (5, .int .i64 t4.1), (20, .bool y14)] → St W (mine W [box p0_ #[.slice A0_0 x0_.f0.length c0_0, .bool x0_.f1] 116]) F w' F6 [box p0_ #[.slice A7 t4.2.f0.length c8, .bool t4.2.f1] 116] → past_reader_count.j15 kq16 t4 y14 = some r → K11 a w' := by
    intro kq16 hkq G y14 a u19 hE hA hS H
    cases kq16 with
    | zero => cases (show none = some r from H)
    | succ k17 =>
      rw [past_reader_count.j15_s] at H
      obtain ⟨J, hE⟩ := hE.at hA
      refine hK11 _ _ ?_
      by_cases c20 : y14 = true
      · rw [if_pos c20] at H
        replace hE := hE.bt 20 c20
        refine ct hE ?_
        refine wp_seq_k fun K21 hK21 => ?_
        refine pl0 ?_
        refine plc hE (.r 0 3 .nil) (fun a hE => ?_)
        refine ple hE (.sto hS [.slice A7 t4.2.f0.length c8, .bool true]) ?_
        rintro _ u22 a ⟨rfl, hp0_, hS, hz⟩ hE
        refine pld ?_
        refine hK21 _ _ ?_
        refine wp_seq_k fun K23 hK23 => ?_
        refine pl0 ?_
        refine plc hE (.r 0 1 .nil) (fun a hE => ?_)
        refine pld ?_
        refine hK23 _ _ ?_
        refine wp_ret (then_ret ?_)
        obtain rfl := Option.some.inj H
        exact rt1 hE ⟨_, rfl, _, _, _, rfl, hS, g9⟩
      · rw [if_neg c20] at H
        replace hE := hE.bf 20 c20
        refine cf hE ?_
        refine wp_skip ?_
        refine hK10 _ _ ?_
        refine wp_seq_k fun K24 hK24 => ?_
        refine pl0 ?_
        refine plc hE (.r 0 2 .nil) (fun a hE => ?_)
        refine pld ?_
        refine hK24 _ _ ?_
        refine wp_ret ?_
        obtain rfl := Option.some.inj H
        exact rt1 hE ⟨_, rfl, _, _, _, rfl, hS, g9⟩
  refine pl0 ?_
  refine plc hE (.r 0 3 .nil) (fun a hE => ?_)
  by_cases c12 : t4.1 < 0
  · rw [if_pos c12] at H
    replace hE := hE.kt 10 c12
    refine plc hE (.r 3 10 .nil) (fun a hE => ?_)
    refine pld ?_
    exact J18 _ (by omega) _ true _ _ hE .of hS H
  · rw [if_neg c12] at H
    replace hE := hE.kf 10 c12
    have hp0_ := hS.blk_at (i := 0) rfl
    by_cases c13 : x1_ ≠ 0
    rotate_left
    · rw [if_neg c13] at H; cases H
    rw [if_pos c13] at H
    refine plc hE (.r 3 4 <| .b 7 0 hp0_ <| .r 8 2 <| .y 10 (y_quo 3 .i64 (t4.2.f0.length : Int) c13) <| .r 11 2 <| .nil) (fun a hE => ?_)
    refine pld ?_
    exact J18 _ (by omega) _ (decide (t4.1 > (w64 ((t4.2.f0.length : Int).tdiv x1_)))) _ _ hE .of hS H

/-! ### (*windrose/past.reader).list: function 54 -/
def past_reader_list.f (k : Nat) (x0_ : T_past_reader) : Option ((List Int) × T_past_reader) := (past_reader_count.f k x0_ 1).bind fun t4 => (if 0 ≤ t4.1 ∧ t4.1 ≤ (t4.2.f0.length : Int) then ((slices_Clone__int_int.f (cutl t4.2.f0 0 t4.1)).bind fun t17 => (some (t17, (⟨(cutl t4.2.f0 t4.1 (t4.2.f0.length : Int)), t4.2.f1⟩ : T_past_reader)))) else (none))
def past_reader_list.Post (x0_ : T_past_reader) (p0_ : Nat) (A0_0 : Option Addr) (c0_0 : Nat) (W F : World) (r : (List Int) × T_past_reader) (v : Value) (w' : World) : Prop := ∃ (F' : World) (RA0_0 : Option Addr) (rc0_0 : Nat) (RA1_0 : Option Addr) (rc1_0 : Nat), v = .slice RA0_0 r.1.length rc0_0 ∧ St W (mine W [box p0_ #[.slice A0_0 x0_.f0.length c0_0, .bool x0_.f1] 116]) F w' F' [box p0_ #[.slice RA1_0 r.2.f0.length rc1_0, .bool r.2.f1] 116, row (Kn.int .i64) 3 (.slice RA0_0 r.1.length rc0_0) r.1] ∧ Rd (Kn.int .i64) F' RA1_0 rc1_0 r.2.f0
set_option maxHeartbeats 4000000 in
set_option maxRecDepth 100000 in
theorem past_reader_list.calls (k : Nat) (x0_ : T_past_reader) (p0_ : Nat) (A0_0 : Option Addr) (c0_0 : Nat) (r : (List Int) × T_past_reader) (W F : World) (hown : Own W F [box p0_ #[.slice A0_0 x0_.f0.length c0_0, .bool x0_.f1] 116]) (g0_0 : Rd (Kn.int .i64) F A0_0 c0_0 x0_.f0) (H : past_reader_list.f k x0_ = some r) :
    Calls Try.prog 54 #[.pointer (some ⟨p0_, 0, none⟩)] W fun e w' => ∃ v, e = .returned v ∧ past_reader_list.Post x0_ p0_ A0_0 c0_0 W F r v w' := by
  have hS := St.start hown
  unfold past_reader_list.f at H
  refine enter (n := 24) rfl rfl rfl (Nat.le_of_ble_eq_true rfl) (fun a hE => ?_)
  refine wp_seq_k fun K1 hK1 => ?_
  refine pl0 ?_
  refine plc hE (.r 0 1 .nil) (fun a hE => ?_)
  refine pld ?_
  refine hK1 _ _ ?_
  refine wp_seq_k fun K2 hK2 => ?_
  refine pl0 ?_
  refine plc hE (.r 0 1 .nil) (fun a hE => ?_)
  obtain ⟨t4, h5, H⟩ := Option.bind_eq_some_iff.mp H
  refine ple hE (.cl en65 (past_reader_count.calls k x0_ 1 _ _ _ _ _ _ (Own.left (X := [box p0_ #[.slice A0_0 x0_.f0.length c0_0, .bool x0_.f1] 116]) hS.own) g0_0 h5)) ?_
  rintro _ u3 a ⟨F6, A7, c8, rfl, hC, g9⟩ hE
  have hs := hC.sub
  replace hS := hS.called (X := [box p0_ #[.slice A0_0 x0_.f0.length c0_0, .bool x0_.f1] 116]) hC
  replace g0_0 := g0_0.mono hs
  refine plc hE (.r 2 1 .nil) (fun a hE => ?_)
  refine pld ?_
  refine hK2 _ _ ?_
  refine wp_seq_k fun K10 hK10 => ?_
  refine pl0 ?_
  have hp0_ := hS.blk_at (i := 0) rfl
  by_cases c11 : 0 ≤ t4.1 ∧ t4.1 ≤ (t4.2.f0.length : Int)
  rotate_left
  · rw [if_neg c11] at H; cases H
  rw [if_pos c11] at H
  obtain ⟨A12, c13, g14, hv15⟩ := slK_run (P := Try.prog) g9 ⟨Int.le_refl _, c11.1, c11.2⟩ sz3
  refine plc hE (.r 0 3 <| .b 3 0 hp0_ <| .r 4 1 <| .y 5 (hv15 (by kernel_rfl)) <| .nil) (fun a hE => ?_)
  obtain ⟨t17, h18, H⟩ := Option.bind_eq_some_iff.mp H
  refine ple hE (.cl en64 (slices_Clone__int_int.calls (cutl t4.2.f0 0 t4.1) _ _ _ _ _ hS.own.sub g14 h18)) ?_
  rintro _ u16 a ⟨F19, A20, c21, rfl, hC⟩ hE
  have hs := hC.sub
  replace hS := hS.called (X := []) hC
  replace g9 := g9.mono hs
  replace g14 := g14.mono hs
  refine plc hE (.r 7 1 .nil) (fun a hE => ?_)
  refine pld ?_
  refine hK10 _ _ ?_
  refine wp_seq_k fun K24 hK24 => ?_
  refine pl0 ?_
  have hp0_ := hS.blk_at (i := 1) rfl
  obtain ⟨A25, c26, g27, hv28⟩ := slK_run (P := Try.prog) g9 ⟨c11.1, c11.2, Int.le_refl _⟩ sz3
  refine plc hE (.r 0 4 <| .b 4 0 hp0_ <| .r 5 1 <| .y 6 (hv28 (by kernel_rfl)) <| .r 7 2 <| .nil) (fun a hE => ?_)
  replace hS := hS.front 1 rfl
  refine ple hE (.sto hS [.slice A25 ((cutl t4.2.f0 t4.1 (t4.2.f0.length : Int)).length) c26, .bool t4.2.f1]) ?_
  rintro _ u29 a ⟨rfl, hp0_, hS, hz⟩ hE
  refine pld ?_
  refine hK24 _ _ ?_
  refine wp_seq_k fun K30 hK30 => ?_
  refine pl0 ?_
  refine plc hE (.r 0 2 .nil) (fun a hE => ?_)
  refine pld ?_
  refine hK30 _ _ ?_
  refine wp_ret ?_
  obtain rfl := Option.some.inj H
  exact rt1 hE ⟨_, rfl, _, _, _, _, _, rfl, hS, g27⟩

/-! ### (*windrose/past.reader).flag: function 66 -/
def past_reader_flag.f (x0_ : T_past_reader) : Option (Bool × T_past_reader) := (past_reader_next.f x0_).bind fun t4 => (if t4.2.f1 = true then (some ((t4.1 == 1), (⟨t4.2.f0, true⟩ : T_past_reader))) else (if t4.1 < 0 then (some ((t4.1 == 1), (⟨t4.2.f0, true⟩ : T_past_reader))) else (some ((t4.1 == 1), (⟨t4.2.f0, (decide (t4.1 > 1))⟩ : T_past_reader)))))
def past_reader_flag.Post (x0_ : T_past_reader) (p0_ : Nat) (A0_0 : Option Addr) (c0_0 : Nat) (W F : World) (r : Bool × T_past_reader) (v : Value) (w' : World) : Prop := ∃ (F' : World) (RA1_0 : Option Addr) (rc1_0 : Nat), v = .bool r.1 ∧ St W (mine W [box p0_ #[.slice A0_0 x0_.f0.length c0_0, .bool x0_.f1] 116]) F w' F' [box p0_ #[.slice RA1_0 r.2.f0.length rc1_0, .bool r.2.f1] 116] ∧ Rd (Kn.int .i64) F' RA1_0 rc1_0 r.2.f0
set_option maxHeartbeats 4000000 in
set_option maxRecDepth 100000 in
theorem past_reader_flag.calls (x0_ : T_past_reader) (p0_ : Nat) (A0_0 : Option Addr) (c0_0 : Nat) (r : Bool × T_past_reader) (W F : World) (hown : Own W F [box p0_ #[.slice A0_0 x0_.f0.length c0_0, .bool x0_.f1] 116]) (g0_0 : Rd (Kn.int .i64) F A0_0 c0_0 x0_.f0) (H : past_reader_flag.f x0_ = some r) :
    Calls Try.prog 66 #[.pointer (some ⟨p0_, 0, none⟩)] W fun e w' => ∃ v, e = .returned v ∧ past_reader_flag.Post x0_ p0_ A0_0 c0_0 W F r v w' := by
  have hS := St.start hown
  unfold past_reader_flag.f at H
  refine enter (n := 23) rfl rfl rfl (Nat.le_of_ble_eq_true rfl) (fun a hE => ?_)
  refine wp_seq_k fun K1 hK1 => ?_
  refine pl0 ?_
  refine plc hE (.r 0 1 .nil) (fun a hE => ?_)
  refine pld ?_
  refine hK1 _ _ ?_
  refine wp_seq_k fun K2 hK2 => ?_
  refine pl0 ?_
  refine plc hE (.r 0 1 .nil) (fun a hE => ?_)
  obtain ⟨t4, h5, H⟩ := Option.bind_eq_some_iff.mp H
  refine ple hE (.cl en53 (past_reader_next.calls x0_ _ _ _ _ _ _ (Own.left (X := [box p0_ #[.slice A0_0 x0_.f0.length c0_0, .bool x0_.f1] 116]) hS.own) g0_0 h5)) ?_
  rintro _ u3 a ⟨F6, A7, c8, rfl, hC, g9⟩ hE
  have hs := hC.sub
  replace hS := hS.called (X := [box p0_ #[.slice A0_0 x0_.f0.length c0_0, .bool x0_.f1] 116]) hC
  replace g0_0 := g0_0.mono hs
  refine plc hE (.r 2 1 .nil) (fun a hE => ?_)
  refine pld ?_
  refine hK2 _ _ ?_
  refine wp_seq_k fun K10 hK10 => ?_
  refine pl0 ?_
  have hp0_ := hS.blk_at (i := 0) rfl
  refine plc hE (.r 0 4 <| .b 4 1 hp0_ <| .r 5 1 <| .nil) (fun a hE => ?_)
  by_cases c11 : t4.2.f1 = true
  · rw [if_pos c11] at H
    replace hE := hE.bt 11 c11
    refine plc hE (.r 6 9 .nil) (fun a hE => ?_)
    refine ple hE (.sto hS [.slice A7 t4.2.f0.length c8, .bool true]) ?_
    rintro _ u12 a ⟨rfl, hp0_, hS, hz⟩ hE
    refine pld ?_
    refine hK10 _ _ ?_
    refine wp_seq_k fun K16 hK16 => ?_
    refine pl0 ?_
    refine plc hE (.r 0 3 .nil) (fun a hE => ?_)
    refine pld ?_
    refine hK16 _ _ ?_
    refine wp_ret ?_
    obtain rfl := Option.some.inj H
    exact rt1 hE ⟨_, rfl, _, _, _, rfl, hS, g9⟩
  · rw [if_neg c11] at H
    replace hE := hE.bf 11 c11
    refine plc hE (.r 6 4 .nil) (fun a hE => ?_)
    by_cases c13 : t4.1 < 0
    · rw [if_pos c13] at H
      replace hE := hE.kt 15 c13
      refine plc hE (.r 10 5 .nil) (fun a hE => ?_)
      refine ple hE (.sto hS [.slice A7 t4.2.f0.length c8, .bool true]) ?_
      rintro _ u14 a ⟨rfl, hp0_, hS, hz⟩ hE
      refine pld ?_
      refine hK10 _ _ ?_
      refine wp_seq_k fun K17 hK17 => ?_
      refine pl0 ?_
      refine plc hE (.r 0 3 .nil) (fun a hE => ?_)
      refine pld ?_
      refine hK17 _ _ ?_
      refine wp_ret ?_
      obtain rfl := Option.some.inj H
      exact rt1 hE ⟨_, rfl, _, _, _, rfl, hS, g9⟩
    · rw [if_neg c13] at H
      replace hE := hE.kf 15 c13
      refine plc hE (.r 10 5 .nil) (fun a hE => ?_)
      refine ple hE (.sto hS [.slice A7 t4.2.f0.length c8, .bool (decide (t4.1 > 1))]) ?_
      rintro _ u15 a ⟨rfl, hp0_, hS, hz⟩ hE
      refine pld ?_
      refine hK10 _ _ ?_
      refine wp_seq_k fun K18 hK18 => ?_
      refine pl0 ?_
      refine plc hE (.r 0 3 .nil) (fun a hE => ?_)
      refine pld ?_
      refine hK18 _ _ ?_
      refine wp_ret ?_
      obtain rfl := Option.some.inj H
      exact rt1 hE ⟨_, rfl, _, _, _, rfl, hS, g9⟩

/-! ### (*windrose/past.reader).trail: function 67 -/
def past_reader_trail.l35 : Nat → Int × T_past_reader → Int × T_past_reader → Int → List Int → Bool → List T_api_Span → Option (T_api_Trail × T_past_reader)
  | 0, _, _, _, _, _, _ => none
  | k + 1, t6, t18, x25, l28, y30, l33 => if x25 < t18.1 then ((past_reader_next.f (⟨l28, y30⟩ : T_past_reader)).bind fun t45 => ((past_reader_list.f k t45.2).bind fun t56 => (if ((l33.length : Int) + ((1 : Nat) : Int)) * 32 ≤ 140737488355328 then (past_reader_trail.l35 k t6 t18 (w64 (x25 + 1)) t56.2.f0 t56.2.f1 (l33 ++ [(⟨t45.1, t56.1⟩ : T_api_Span)])) else (none)))) else (some ((⟨t6.1, l33⟩ : T_api_Trail), (⟨l28, y30⟩ : T_past_reader)))
theorem past_reader_trail.l35_s (k : Nat) (t6 : Int × T_past_reader) (t18 : Int × T_past_reader) (x25 : Int) (l28 : List Int) (y30 : Bool) (l33 : List T_api_Span) : past_reader_trail.l35 (k + 1) t6 t18 x25 l28 y30 l33 = (if x25 < t18.1 then ((past_reader_next.f (⟨l28, y30⟩ : T_past_reader)).bind fun t45 => ((past_reader_list.f k t45.2).bind fun t56 => (if ((l33.length : Int) + ((1 : Nat) : Int)) * 32 ≤ 140737488355328 then (past_reader_trail.l35 k t6 t18 (w64 (x25 + 1)) t56.2.f0 t56.2.f1 (l33 ++ [(⟨t45.1, t56.1⟩ : T_api_Span)])) else (none)))) else (some ((⟨t6.1, l33⟩ : T_api_Trail), (⟨l28, y30⟩ : T_past_reader)))) := by kernel_rfl
def past_reader_trail.f (k : Nat) (x0_ : T_past_reader) : Option (T_api_Trail × T_past_reader) := (past_reader_next.f x0_).bind fun t6 => ((past_reader_count.f k t6.2 2).bind fun t18 => (past_reader_trail.l35 k t6 t18 0 t18.2.f0 t18.2.f1 []))
def past_reader_trail.Post (x0_ : T_past_reader) (p0_ : Nat) (A0_0 : Option Addr) (c0_0 : Nat) (W F : World) (r : T_api_Trail × T_past_reader) (v : Value) (w' : World) : Prop := ∃ (F' : World) (RA0_1 : Option Addr) (rc0_1 : Nat) (RA1_0 : Option Addr) (rc1_0 : Nat), v = .agg #[.int .i64 r.1.f0, .slice RA0_1 r.1.f1.length rc0_1] ∧ St W (mine W [box p0_ #[.slice A0_0 x0_.f0.length c0_0, .bool x0_.f1] 116]) F w' F' [box p0_ #[.slice RA1_0 r.2.f0.length rc1_0, .bool r.2.f1] 116, row T_api_Span.k 140 (.slice RA0_1 r.1.f1.length rc0_1) r.1.f1] ∧ Rd (Kn.int .i64) F' RA1_0 rc1_0 r.2.f0
set_option maxHeartbeats 4000000 in
set_option maxRecDepth 100000 in
theorem past_reader_trail.calls (k : Nat) (x0_ : T_past_reader) (p0_ : Nat) (A0_0 : Option Addr) (c0_0 : Nat) (r : T_api_Trail × T_past_reader) (W F : World) (hown : Own W F [box p0_ #[.slice A0_0 x0_.f0.length c0_0, .bool x0_.f1] 116]) (g0_0 : Rd (Kn.int .i64) F A0_0 c0_0 x0_.f0) (H : past_reader_trail.f k x0_ = some r) :
    Calls Try.prog 67 #[.pointer (some ⟨p0_, 0, none⟩)] W fun e w' => ∃ v, e = .returned v ∧ past_reader_trail.Post x0_ p0_ A0_0 c0_0 W F r v w' := by
  have hS := St.start hown
  unfold past_reader_trail.f at H
  refine enter (n := 26) rfl rfl rfl (Nat.le_of_ble_eq_true rfl) (fun a hE => ?_)
  refine wp_seq_k fun K1 hK1 => ?_
  refine pl0 ?_
  refine ple hE (.al (t := 133) hS [.int .i64 0, .slice none 0 0]) ?_
  rintro _ u3 a ⟨b2, rfl, hb2, hS, hg⟩ hE
  refine pld ?_
  refine hK1 _ _ ?_
  refine wp_seq_k fun K4 hK4 => ?_
  refine pl0 ?_
  refine plc hE (.r 0 1 .nil) (fun a hE => ?_)
  replace hS := hS.front 1 rfl
  obtain ⟨t6, h7, H⟩ := Option.bind_eq_some_iff.mp H
  refine ple hE (.cl en53 (past_reader_next.calls x0_ _ _ _ _ _ _ (Own.left (X := [box p0_ #[.slice A0_0 x0_.f0.length c0_0, .bool x0_.f1] 116]) hS.own) g0_0 h7)) ?_
  rintro _ u5 a ⟨F8, A9, c10, rfl, hC, g11⟩ hE
  have hs := hC.sub
  replace hS := hS.called (X := [box p0_ #[.slice A0_0 x0_.f0.length c0_0, .bool x0_.f1] 116]) hC
  replace g0_0 := g0_0.mono hs
  refine plc hE (.r 2 1 .nil) (fun a hE => ?_)
  refine ple hE (.al (t := 133) hS [.int .i64 0, .slice none 0 0]) ?_
  rintro _ u13 a ⟨b12, rfl, hb12, hS, hg⟩ hE
  refine ple hE (.sto hS [.int .i64 t6.1, .slice none 0 0]) ?_
  rintro _ u14 a ⟨rfl, hb12, hS, hz⟩ hE
  refine pld ?_
  refine hK4 _ _ ?_
  refine wp_seq_k fun K15 hK15 => ?_
  refine wp_seq_k fun K16 hK16 => ?_
  refine pl0 ?_
  refine plc hE (.r 0 1 .nil) (fun a hE => ?_)
  replace hS := hS.front 1 rfl
  obtain ⟨t18, h19, H⟩ := Option.bind_eq_some_iff.mp H
  refine ple hE (.cl en65 (past_reader_count.calls k t6.2 2 _ _ _ _ _ _ (Own.left (X := [box p0_ #[.slice A9 t6.2.f0.length c10, .bool t6.2.f1] 116]) hS.own) g11 h19)) ?_
  rintro _ u17 a ⟨F20, A21, c22, rfl, hC, g23⟩ hE
  have hs := hC.sub
  replace hS := hS.called (X := [box p0_ #[.slice A9 t6.2.f0.length c10, .bool t6.2.f1] 116]) hC
  replace g11 := g11.mono hs
  refine plc hE (.r 2 1 .nil) (fun a hE => ?_)
  refine pld ?_
  refine hK16 _ _ ?_
  refine wp_block ?_
  replace hS := hS.nilrow T_api_Span.k 140
  replace hS := hS.front 3 rfl
  replace hS := hS.front 3 rfl
  replace hS := hS.front 3 rfl
  refine wp_loop_ghost (fun kq36 a w' => ∃ (G : Nat → Value) (x25 : Int) (A26 : Option Addr) (c27 : Nat) (l28 : List Int) (y30 : Bool) (A31 : Option Addr) (c32 : Nat) (l33 : List T_api_Span) (F34 : World), kq36 ≤ k ∧ Env 26 G a ∧ At G [(0, .pointer (some ⟨p0_, 0, none⟩)), (2, .pointer (some ⟨b2, 0, none⟩)), (3, .pointer (some ⟨b12, 0, none⟩)), (9, .int .i64 t18.1), (10, .int .i64 x25)] ∧ St W (mine W [box p0_ #[.slice A0_0 x0_.f0.length c0_0, .bool x0_.f1] 116]) F w' F34 [box p0_ #[.slice A26 l28.length c27, .bool y30] 116, box b12 #[.int .i64 t6.1, .slice A31 l33.length c32] 133, box b2 #[.int .i64 0, .slice none 0 0] 133, row T_api_Span.k 140 (.slice A31 l33.length c32) l33] ∧ Rd (Kn.int .i64) F34 A26 c27 l28 ∧  past_reader_trail.l35 kq36 t6 t18 x25 l28 y30 l33 = some r) k ⟨_, 0, A21, c22, t18.2.f0, t18.2.f1, none, 0, [], F20, Nat.le_refl _, hE, .of, hS, g23, H⟩ ?_
  rintro kq36 a u38 ⟨G, x25, A26, c27, l28, y30, A31, c32, l33, F34, hkq, hE, hA, hS, g29, H⟩
  cases kq36 with
  | zero => cases (show none = some r from H)
  | succ k37 =>
    rw [past_reader_trail.l35_s] at H
    obtain ⟨J, hE⟩ := hE.at hA
    refine wp_seq_k fun K39 hK39 => ?_
    refine pl0 ?_
    refine plc hE (.r 0 1 .nil) (fun a hE => ?_)
    refine pld ?_
    refine hK39 _ _ ?_
    refine wp_seq_k fun K40 hK40 => ?_
    by_cases c41 : x25 < t18.1
    · rw [if_pos c41] at H
      replace hE := hE.kt 11 c41
      refine ct hE ?_
      refine wp_skip ?_
      refine hK40 _ _ ?_
      refine wp_seq_k fun K42 hK42 => ?_
      refine wp_block ?_
      refine wp_seq_k fun K43 hK43 => ?_
      refine pl0 ?_
      refine plc hE (.r 0 1 .nil) (fun a hE => ?_)
      obtain ⟨t45, h46, H⟩ := Option.bind_eq_some_iff.mp H
      refine ple hE (.cl en53 (past_reader_next.calls (⟨l28, y30⟩ : T_past_reader) _ _ _ _ _ _ (Own.left (X := [box p0_ #[.slice A26 l28.length c27, .bool y30] 116]) hS.own) g29 h46)) ?_
      rintro _ u44 a ⟨F47, A48, c49, rfl, hC, g50⟩ hE
      have hs := hC.sub
      replace hS := hS.called (X := [box p0_ #[.slice A26 l28.length c27, .bool y30] 116]) hC
      replace g29 := g29.mono hs
      refine plc hE (.r 2 1 .nil) (fun a hE => ?_)
      refine ple hE (.al (t := 140) hS [.int .i64 0, .slice none 0 0]) ?_
      rintro _ u52 a ⟨b51, rfl, hb51, hS, hg⟩ hE
      refine ple hE (.sto hS [.int .i64 t45.1, .slice none 0 0]) ?_
      rintro _ u53 a ⟨rfl, hb51, hS, hz⟩ hE
      refine pld ?_
      refine hK43 _ _ ?_
      refine wp_seq_k fun K54 hK54 => ?_
      refine pl0 ?_
      refine plc hE (.r 0 1 .nil) (fun a hE => ?_)
      replace hS := hS.front 1 rfl
      obtain ⟨t56, h57, H⟩ := Option.bind_eq_some_iff.mp H
      refine ple hE (.cl en54 (past_reader_list.calls k37 t45.2 _ _ _ _ _ _ (Own.left (X := [box p0_ #[.slice A48 t45.2.f0.length c49, .bool t45.2.f1] 116]) hS.own) g50 h57)) ?_
      rintro _ u55 a ⟨F58, A59, c60, A63, c64, rfl, hC, g65⟩ hE
      have hs := hC.sub
      replace hS := hS.called (X := [box p0_ #[.slice A48 t45.2.f0.length c49, .bool t45.2.f1] 116]) hC
      replace g50 := g50.mono hs
      refine plc hE (.r 2 1 .nil) (fun a hE => ?_)
      replace hS := hS.front 2 rfl
      refine ple hE (.sto hS [.int .i64 t45.1, .slice A59 t56.1.length c60]) ?_
      rintro _ u66 a ⟨rfl, hb51, hS, hz⟩ hE
      refine pld ?_
      refine hK54 _ _ ?_
      refine pl0 ?_
      have hb12 := hS.blk_at (i := 3) rfl
      refine plc hE (.r 0 1 <| .b 1 1 hb12 <| .bn 2 0 2 hb51 <| .nil) (fun a hE => ?_)
      replace hS := hS.front 2 rfl
      obtain ⟨F70, hs, g71, hS⟩ := hS.give
      replace g65 := g65.mono hs
      refine ple hE (.lit (d := T_api_Span.k) (e := 140) hS [(⟨t45.1, t56.1⟩ : T_api_Span)] (.cons ⟨_, _, rfl, g71⟩ .nil)) ?_
      rintro _ u67 a ⟨A68, c69, rfl, hS, hg⟩ hE
      by_cases c73 : ((l33.length : Int) + ((1 : Nat) : Int)) * 32 ≤ 140737488355328
      rotate_left
      · rw [if_neg c73] at H; cases H
      rw [if_pos c73] at H
      replace hS := hS.front 5 rfl
      refine ple hE (.ap (d := T_api_Span.k) 32 hS (row_src (hS.row_at (i := 1) rfl)) c73 c69) ?_
      rintro _ u76 a ⟨A74, c75, rfl, hS, hz⟩ hE
      refine plc hE (.r 5 1 .nil) (fun a hE => ?_)
      replace hS := hS.front 4 rfl
      refine ple hE (.sto hS [.int .i64 t6.1, .slice A74 ((l33 ++ [(⟨t45.1, t56.1⟩ : T_api_Span)]).length) c75]) ?_
      rintro _ u77 a ⟨rfl, hb12, hS, hz⟩ hE
      refine pld ?_
      refine hK42 _ _ ?_
      refine pl0 ?_
      refine plc hE (.r 0 2 .nil) (fun a hE => ?_)
      refine pld ?_
      replace hS := hS.front 2 rfl
      replace hS := hS.tail
      replace hS := hS.front 2 rfl
      replace hS := hS.tail
      replace hS := hS.front 1 rfl
      replace hS := hS.front 3 rfl
      replace hS := hS.front 2 rfl
      replace hS := hS.front 3 rfl
      exact then_n ⟨k37, by omega, _, (w64 (x25 + 1)), A63, c64, t56.2.f0, t56.2.f1, A74, c75, (l33 ++ [(⟨t45.1, t56.1⟩ : T_api_Span)]), F70, by omega, hE, .of, hS, g65, H⟩
    · rw [if_neg c41] at H
      replace hE := hE.kf 11 c41
      refine cf hE ?_
      refine wp_exit ?_
      refine hK15 _ _ ?_
      refine wp_seq_k fun K79 hK79 => ?_
      refine pl0 ?_
      have hb12 := hS.blk_at (i := 1) rfl
      refine plc hE (.bn 0 0 2 hb12 .nil) (fun a hE => ?_)
      replace hS := hS.front 2 rfl
      refine ple hE (.sto hS [.int .i64 t6.1, .slice A31 l33.length c32]) ?_
      rintro _ u80 a ⟨rfl, hb2, hS, hz⟩ hE
      refine pld ?_
      refine hK79 _ _ ?_
      refine wp_ret ?_
      replace hS := hS.tail
      replace hS := hS.front 1 rfl
      replace hS := hS.tail
      obtain rfl := Option.some.inj H
      exact ret1 hE rfl (.cell (by kernel_rfl) (res_blk [.int .i64 t6.1, .slice A31 l33.length c32] ag133 sz133 hb2 rfl) .nil) ⟨_, rfl, _, _, _, _, _, rfl, hS, g29⟩

/-! ### windrose/topo.in: function 100 -/
def topo_in.f (x0_ : Int) (x1_ : Int) (x2_ : Int) : Option Bool := if x0_ ≥ x1_ then (some (decide (x0_ ≤ x2_))) else (some false)
def topo_in.Post (W F : World) (r : Bool) (v : Value) (w' : World) : Prop := ∃ (F' : World), v = .bool r ∧ St W (mine W []) F w' F' []
set_option maxHeartbeats 4000000 in
set_option maxRecDepth 100000 in
theorem topo_in.calls (x0_ : Int) (x1_ : Int) (x2_ : Int) (r : Bool) (W F : World) (hown : Sub F W) (H : topo_in.f x0_ x1_ x2_ = some r) :
    Calls Try.prog 100 #[.int .i64 x0_, .int .i64 x1_, .int .i64 x2_] W fun e w' => ∃ v, e = .returned v ∧ topo_in.Post W F r v w' := by
  have hS := St.start (Own.nil hown)
  unfold topo_in.f at H
  refine enter (n := 15) rfl rfl rfl (Nat.le_of_ble_eq_true rfl) (fun a hE => ?_)
  refine wp_seq_k fun K1 hK1 => ?_
  refine pl0 ?_
  refine plc hE (.r 0 1 .nil) (fun a hE => ?_)
  refine pld ?_
  refine hK1 _ _ ?_
  refine wp_seq_k fun K2 hK2 => ?_
  refine pl0 ?_
  refine plc hE (.r 0 4 .nil) (fun a hE => ?_)
  by_cases c3 : x0_ ≥ x1_
  · rw [if_pos c3] at H
    replace hE := hE.kt 10 c3
    refine plc hE (.r 4 5 .nil) (fun a hE => ?_)
    refine pld ?_
    refine hK2 _ _ ?_
    refine wp_ret ?_
    obtain rfl := Option.some.inj H
    exact rt1 hE ⟨_, rfl, _, rfl, hS⟩
  · rw [if_neg c3] at H
    replace hE := hE.kf 10 c3
    refine plc hE (.r 4 5 .nil) (fun a hE => ?_)
    refine pld ?_
    refine hK2 _ _ ?_
    refine wp_ret ?_
    obtain rfl := Option.some.inj H
    exact rt1 hE ⟨_, rfl, _, rfl, hS⟩

/-! ### windrose/topo.Check: function 80 -/
mutual
def topo_Check.l9 : Nat → List T_api_Node → Int → Option Int
  | 0, _, _ => none
  | k + 1, x0_, x8 => if x8 < (x0_.length : Int) then (if 0 ≤ x8 ∧ x8 < (x0_.length : Int) then ((topo_in.f ((nth T_api_Node.z x0_ x8).f0) 1 999).bind fun t28 => (if t28 = true then ((topo_in.f ((nth T_api_Node.z x0_ x8).f1) 1 9).bind fun t32 => (if t32 = true then ((topo_in.f ((nth T_api_Node.z x0_ x8).f2) 1 9).bind fun t36 => (if t36 = true then ((topo_in.f ((nth T_api_Node.z x0_ x8).f3) 0 65536).bind fun t40 => (if t40 = true then (if x8 > 0 then (if 0 ≤ (w64 (x8 - 1)) ∧ (w64 (x8 - 1)) < (x0_.length : Int) then (topo_Check.j49 k x0_ x8 (decide ((nth T_api_Node.z x0_ x8).f0 ≤ (nth T_api_Node.z x0_ (w64 (x8 - 1))).f0))) else (none)) else (topo_Check.j49 k x0_ x8 false)) else (topo_Check.j49 k x0_ x8 true))) else (topo_Check.j49 k x0_ x8 true))) else (topo_Check.j49 k x0_ x8 true))) else (topo_Check.j49 k x0_ x8 true))) else (none)) else (some 0)
def topo_Check.j49 : Nat → List T_api_Node → Int → Bool → Option Int
  | 0, _, _, _ => none
  | k + 1, x0_, x8, y48 => if y48 = true then (some 1) else (topo_Check.l9 k x0_ (w64 (x8 + 1)))
end
theorem topo_Check.l9_s (k : Nat) (x0_ : List T_api_Node) (x8 : Int) : topo_Check.l9 (k + 1) x0_ x8 = (if x8 < (x0_.length : Int) then (if 0 ≤ x8 ∧ x8 < (x0_.length : Int) then ((topo_in.f ((nth T_api_Node.z x0_ x8).f0) 1 999).bind fun t28 => (if t28 = true then ((topo_in.f ((nth T_api_Node.z x0_ x8).f1) 1 9).bind fun t32 => (if t32 = true then ((topo_in.f ((nth T_api_Node.z x0_ x8).f2) 1 9).bind fun t36 => (if t36 = true then ((topo_in.f ((nth T_api_Node.z x0_ x8).f3) 0 65536).bind fun t40 => (if t40 = true then (if x8 > 0 then (if 0 ≤ (w64 (x8 - 1)) ∧ (w64 (x8 - 1)) < (x0_.length : Int) then (topo_Check.j49 k x0_ x8 (decide ((nth T_api_Node.z x0_ x8).f0 ≤ (nth T_api_Node.z x0_ (w64 (x8 - 1))).f0))) else (none)) else (topo_Check.j49 k x0_ x8 false)) else (topo_Check.j49 k x0_ x8 true))) else (topo_Check.j49 k x0_ x8 true))) else (topo_Check.j49 k x0_ x8 true))) else (topo_Check.j49 k x0_ x8 true))) else (none)) else (some 0)) := by kernel_rfl
theorem topo_Check.j49_s (k : Nat) (x0_ : List T_api_Node) (x8 : Int) (y48 : Bool) : topo_Check.j49 (k + 1) x0_ x8 y48 = (if y48 = true then (some 1) else (topo_Check.l9 k x0_ (w64 (x8 + 1)))) := by kernel_rfl
def topo_Check.f (k : Nat) (x0_ : List T_api_Node) : Option Int := if (x0_.length : Int) > 12 then (some 1) else (topo_Check.l9 k x0_ 0)
def topo_Check.Post (W F : World) (r : Int) (v : Value) (w' : World) : Prop := ∃ (F' : World), v = .int .i64 r ∧ St W (mine W []) F w' F' []
set_option maxHeartbeats 4000000 in
set_option maxRecDepth 100000 in
theorem topo_Check.calls (k : Nat) (x0_ : List T_api_Node) (A0_0 : Option Addr) (c0_0 : Nat) (r : Int) (W F : World) (hown : Sub F W) (g0_0 : Rd T_api_Node.k F A0_0 c0_0 x0_) (H : topo_Check.f k x0_ = some r) :
    Calls Try.prog 80 #[.slice A0_0 x0_.length c0_0] W fun e w' => ∃ v, e = .returned v ∧ topo_Check.Post W F r v w' := by
  have hS := St.start (Own.nil hown)
  unfold topo_Check.f at H
  refine enter (n := 53) rfl rfl rfl (Nat.le_of_ble_eq_true rfl) (fun a hE => ?_)
  refine wp_seq_k fun K1 hK1 => ?_
  refine pl0 ?_
  refine plc hE (.r 0 1 .nil) (fun a hE => ?_)
  refine pld ?_
  refine hK1 _ _ ?_
  refine wp_seq_k fun K2 hK2 => ?_
  refine wp_seq_k fun K3 hK3 => ?_
  refine pl0 ?_
  refine plc hE (.r 0 3 .nil) (fun a hE => ?_)
  refine pld ?_
  refine hK3 _ _ ?_
  by_cases c4 : (x0_.length : Int) > 12
  · rw [if_pos c4] at H
    replace hE := hE.kt 7 c4
    refine ct hE ?_
    refine wp_seq_k fun K5 hK5 => ?_
    refine pl0 ?_
    refine plc hE (.r 0 1 .nil) (fun a hE => ?_)
    refine pld ?_
    refine hK5 _ _ ?_
    refine wp_ret (then_ret ?_)
    obtain rfl := Option.some.inj H
    exact rt1 hE ⟨_, rfl, _, rfl, hS⟩
  · rw [if_neg c4] at H
    replace hE := hE.kf 7 c4
    refine cf hE ?_
    refine wp_skip ?_
    refine hK2 _ _ ?_
    refine wp_seq_k fun K6 hK6 => ?_
    refine wp_seq_k fun K7 hK7 => ?_
    refine pl0 ?_
    refine plc hE (.r 0 3 .nil) (fun a hE => ?_)
    refine pld ?_
    refine hK7 _ _ ?_
    refine wp_block ?_
    refine wp_loop_ghost (fun kq10 a w' => ∃ (G : Nat → Value) (x8 : Int), kq10 ≤ k ∧ Env 53 G a ∧ At G [(0, .slice A0_0 x0_.length c0_0), (8, .slice A0_0 x0_.length c0_0), (9, .int .i64 (x0_.length : Int)), (10, .int .i64 x8)] ∧ St W (mine W []) F w' F [] ∧  topo_Check.l9 kq10 x0_ x8 = some r) k ⟨_, 0, Nat.le_refl _, hE, .of, hS, H⟩ ?_
    rintro kq10 a u12 ⟨G, x8, hkq, hE, hA, hS, H⟩
    cases kq10 with
    | zero => cases (show none = some r from H)
    | succ k11 =>
      rw [topo_Check.l9_s] at H
      obtain ⟨J, hE⟩ := hE.at hA
      refine wp_seq_k fun K13 hK13 => ?_
      refine pl0 ?_
      refine plc hE (.r 0 1 .nil) (fun a hE => ?_)
      refine pld ?_
      refine hK13 _ _ ?_
      refine wp_seq_k fun K14 hK14 => ?_
      by_cases c15 : x8 < (x0_.length : Int)
      · rw [if_pos c15] at H
        replace hE := hE.kt 11 c15
        refine ct hE ?_
        refine wp_skip ?_
        refine hK14 _ _ ?_
        refine wp_seq_k fun K16 hK16 => ?_
        refine wp_block ?_
        refine wp_seq_k fun K17 hK17 => ?_
        refine pl0 ?_
        by_cases c18 : 0 ≤ x8 ∧ x8 < (x0_.length : Int)
        rotate_left
        · rw [if_neg c18] at H; cases H
        rw [if_pos c18] at H
        have hE_ := hE
        obtain ⟨ad19, rfl⟩ := g0_0.addr c18.1 c18.2
        replace hE := hE_
        obtain ⟨cs21, rfl, hc22⟩ := g0_0.el T_api_Node.z x8 c18.1 c18.2
        refine plc hE (.r 0 1 <| .x 1 c18 <| .cs 2 (hS.fcs hc22) <| .nil) (fun a hE => ?_)
        refine ple hE (.al (t := 102) hS [.int .i64 0, .int .i64 0, .int .i64 0, .int .i64 0, .bool false, .bool false]) ?_
        rintro _ u24 a ⟨b23, rfl, hb23, hS, hg⟩ hE
        refine plc hE (.r 4 1 .nil) (fun a hE => ?_)
        refine ple hE (.sto hS [.int .i64 ((nth T_api_Node.z x0_ x8).f0), .int .i64 ((nth T_api_Node.z x0_ x8).f1), .int .i64 ((nth T_api_Node.z x0_ x8).f2), .int .i64 ((nth T_api_Node.z x0_ x8).f3), .bool ((nth T_api_Node.z x0_ x8).f4), .bool ((nth T_api_Node.z x0_ x8).f5)]) ?_
        rintro _ u25 a ⟨rfl, hb23, hS, hz⟩ hE
        refine pld ?_
        refine hK17 _ _ ?_
        refine wp_seq_k fun K26 hK26 => ?_
        have J52 : ∀ kq50, kq50 ≤ k11 → ∀ (G : Nat → Value) (y48 : Bool) (a : Act) (w' : World), Env 53 G a → At G [(0, .slice (some ad19) x0_.length c0_0), (8, .slice (some ad19) x0_.length c0_0), (9, .int .i64 (x0_.length : Int)), (10, .int .i64 x8), (51, .bool y48)] → St W (mine W []) F w' F [box b23 #[.int .i64 ((nth T_api_Node.z x0_ x8).f0), .int .i64 ((nth T_api_Node.z x0_ x8).f1), .int .i64 ((nth T_api_Node.z x0_ x8).f2), .int .i64 ((nth T_api_Node.z x0_ x8).f3), .bool ((nth T_api_Node.z x0_ x8).f4), .bool ((nth T_api_Node.z x0_ x8).f5)] 102] → topo_Check.j49 kq50 x0_ x8 y48 = some r → K26 a w' := by
          intro kq50 hkq G y48 a u53 hE hA hS H
          cases kq50 with
          | zero => cases (show none = some r from H)
          | succ k51 =>
            rw [topo_Check.j49_s] at H
            obtain ⟨J, hE⟩ := hE.at hA
            refine hK26 _ _ ?_
            by_cases c54 : y48 = true
            · rw [if_pos c54] at H
              replace hE := hE.bt 51 c54
              refine ct hE ?_
              refine wp_seq_k fun K55 hK55 => ?_
              refine pl0 ?_
              refine plc hE (.r 0 1 .nil) (fun a hE => ?_)
              refine pld ?_
              refine hK55 _ _ ?_
              refine wp_ret (block_ret (then_ret (then_ret (block_ret (then_ret ?_)))))
              replace hS := hS.tail
              obtain rfl := Option.some.inj H
              exact rt1 hE ⟨_, rfl, _, rfl, hS⟩
            · rw [if_neg c54] at H
              replace hE := hE.bf 51 c54
              refine cf hE ?_
              refine wp_skip ?_
              refine hK16 _ _ ?_
              refine pl0 ?_
              refine plc hE (.r 0 2 .nil) (fun a hE => ?_)
              refine pld ?_
              replace hS := hS.tail
              exact then_n ⟨k51, by omega, _, (w64 (x8 + 1)), by omega, hE, .of, hS, H⟩
        refine drawn 37 ⟨[], [], fun q => False⟩ mixed rfl (by kernel_rfl) (fun hst => ?_)
        replace hS := hS.drew
        have hb23 := hS.blk_at (i := 0) rfl
        refine mny 35 hst hE (.r 0 1 <| .b 1 0 hb23 <| .nil) (fun a hE => ?_)
        obtain ⟨t28, h29, H⟩ := Option.bind_eq_some_iff.mp H
        refine on1 2 hE (.cl en100 (topo_in.calls ((nth T_api_Node.z x0_ x8).f0) 1 999 _ _ _ hS.own.sub h29)) ?_
        rintro _ u27 a ⟨_, rfl, hC⟩ hE
        refine ⟨.of hC.agr, ?_⟩
        replace hS := hS.lent hC
        refine mny 32 hst hE (.r 3 2 .nil) (fun a hE => ?_)
        by_cases c30 : t28 = true
        · rw [if_pos c30] at H
          replace hE := hE.btn 19 c30
          have hb23 := hS.blk_at (i := 0) rfl
          refine mny 30 hst hE (.r 5 1 <| .b 6 1 hb23 <| .nil) (fun a hE => ?_)
          obtain ⟨t32, h33, H⟩ := Option.bind_eq_some_iff.mp H
          refine on1 7 hE (.cl en100 (topo_in.calls ((nth T_api_Node.z x0_ x8).f1) 1 9 _ _ _ hS.own.sub h33)) ?_
          rintro _ u31 a ⟨_, rfl, hC⟩ hE
          refine ⟨.of hC.agr, ?_⟩
          replace hS := hS.lent hC
          refine mny 26 hst hE (.r 8 3 .nil) (fun a hE => ?_)
          by_cases c34 : t32 = true
          · rw [if_pos c34] at H
            replace hE := hE.btn 25 c34
            have hb23 := hS.blk_at (i := 0) rfl
            refine mny 24 hst hE (.r 11 1 <| .b 12 2 hb23 <| .nil) (fun a hE => ?_)
            obtain ⟨t36, h37, H⟩ := Option.bind_eq_some_iff.mp H
            refine on1 13 hE (.cl en100 (topo_in.calls ((nth T_api_Node.z x0_ x8).f2) 1 9 _ _ _ hS.own.sub h37)) ?_
            rintro _ u35 a ⟨_, rfl, hC⟩ hE
            refine ⟨.of hC.agr, ?_⟩
            replace hS := hS.lent hC
            refine mny 20 hst hE (.r 14 3 .nil) (fun a hE => ?_)
            by_cases c38 : t36 = true
            · rw [if_pos c38] at H
              replace hE := hE.btn 31 c38
              have hb23 := hS.blk_at (i := 0) rfl
              refine mny 18 hst hE (.r 17 1 <| .b 18 3 hb23 <| .nil) (fun a hE => ?_)
              obtain ⟨t40, h41, H⟩ := Option.bind_eq_some_iff.mp H
              refine on1 19 hE (.cl en100 (topo_in.calls ((nth T_api_Node.z x0_ x8).f3) 0 65536 _ _ _ hS.own.sub h41)) ?_
              rintro _ u39 a ⟨_, rfl, hC⟩ hE
              refine ⟨.of hC.agr, ?_⟩
              replace hS := hS.lent hC
              refine mny 14 hst hE (.r 20 3 .nil) (fun a hE => ?_)
              by_cases c42 : t40 = true
              · rw [if_pos c42] at H
                replace hE := hE.btn 37 c42
                refine mny 11 hst hE (.r 23 3 .nil) (fun a hE => ?_)
                by_cases c43 : x8 > 0
                · rw [if_pos c43] at H
                  replace hE := hE.kt 40 c43
                  have hb23 := hS.blk_at (i := 0) rfl
                  by_cases c44 : 0 ≤ (w64 (x8 - 1)) ∧ (w64 (x8 - 1)) < (x0_.length : Int)
                  rotate_left
                  · rw [if_neg c44] at H; cases H
                  rw [if_pos c44] at H
                  obtain ⟨cs46, rfl, hc47⟩ := g0_0.el T_api_Node.z (w64 (x8 - 1)) c44.1 c44.2
                  refine mny 0 hst hE (.r 26 1 <| .b 27 0 hb23 <| .r 28 3 <| .x 31 c44 <| .r 32 1 <| .c 33 (hS.fc hc47 0) <| .r 34 3 <| .nil) (fun a hE => ?_)
                  refine dn ?_
                  exact J52 _ (by omega) _ (decide ((nth T_api_Node.z x0_ x8).f0 ≤ (nth T_api_Node.z x0_ (w64 (x8 - 1))).f0)) _ _ hE .of hS H
                · rw [if_neg c43] at H
                  replace hE := hE.kf 40 c43
                  refine mny 0 hst hE (.r 26 11 .nil) (fun a hE => ?_)
                  refine dn ?_
                  exact J52 _ (by omega) _ false _ _ hE .of hS H
              · rw [if_neg c42] at H
                replace hE := hE.bfn 37 c42
                refine mny 0 hst hE (.r 23 14 .nil) (fun a hE => ?_)
                refine dn ?_
                exact J52 _ (by omega) _ true _ _ hE .of hS H
            · rw [if_neg c38] at H
              replace hE := hE.bfn 31 c38
              refine mny 0 hst hE (.r 17 20 .nil) (fun a hE => ?_)
              refine dn ?_
              exact J52 _ (by omega) _ true _ _ hE .of hS H
          · rw [if_neg c34] at H
            replace hE := hE.bfn 25 c34
            refine mny 0 hst hE (.r 11 26 .nil) (fun a hE => ?_)
            refine dn ?_
            exact J52 _ (by omega) _ true _ _ hE .of hS H
        · rw [if_neg c30] at H
          replace hE := hE.bfn 19 c30
          refine mny 0 hst hE (.r 5 32 .nil) (fun a hE => ?_)
          refine dn ?_
          exact J52 _ (by omega) _ true _ _ hE .of hS H
      · rw [if_neg c15] at H
        replace hE := hE.kf 11 c15
        refine cf hE ?_
        refine wp_exit ?_
        refine hK6 _ _ ?_
        refine wp_seq_k fun K56 hK56 => ?_
        refine pl0 ?_
        refine plc hE (.r 0 1 .nil) (fun a hE => ?_)
        refine pld ?_
        refine hK56 _ _ ?_
        refine wp_ret ?_
        obtain rfl := Option.some.inj H
        exact rt1 hE ⟨_, rfl, _, rfl, hS⟩

/-! ### windrose/maps.in: function 92 -/
def maps_in.f (x0_ : Int) (x1_ : Int) (x2_ : Int) : Option Bool := if x0_ ≥ x1_ then (some (decide (x0_ ≤ x2_))) else (some false)
def maps_in.Post (W F : World) (r : Bool) (v : Value) (w' : World) : Prop := ∃ (F' : World), v = .bool r ∧ St W (mine W []) F w' F' []
set_option maxHeartbeats 4000000 in
set_option maxRecDepth 100000 in
theorem maps_in.calls (x0_ : Int) (x1_ : Int) (x2_ : Int) (r : Bool) (W F : World) (hown : Sub F W) (H : maps_in.f x0_ x1_ x2_ = some r) :
    Calls Try.prog 92 #[.int .i64 x0_, .int .i64 x1_, .int .i64 x2_] W fun e w' => ∃ v, e = .returned v ∧ maps_in.Post W F r v w' := by
  have hS := St.start (Own.nil hown)
  unfold maps_in.f at H
  refine enter (n := 15) rfl rfl rfl (Nat.le_of_ble_eq_true rfl) (fun a hE => ?_)
  refine wp_seq_k fun K1 hK1 => ?_
  refine pl0 ?_
  refine plc hE (.r 0 1 .nil) (fun a hE => ?_)
  refine pld ?_
  refine hK1 _ _ ?_
  refine wp_seq_k fun K2 hK2 => ?_
  refine pl0 ?_
  refine plc hE (.r 0 4 .nil) (fun a hE => ?_)
  by_cases c3 : x0_ ≥ x1_
  · rw [if_pos c3] at H
    replace hE := hE.kt 10 c3
    refine plc hE (.r 4 5 .nil) (fun a hE => ?_)
    refine pld ?_
    refine hK2 _ _ ?_
    refine wp_ret ?_
    obtain rfl := Option.some.inj H
    exact rt1 hE ⟨_, rfl, _, rfl, hS⟩
  · rw [if_neg c3] at H
    replace hE := hE.kf 10 c3
    refine plc hE (.r 4 5 .nil) (fun a hE => ?_)
    refine pld ?_
    refine hK2 _ _ ?_
    refine wp_ret ?_
    obtain rfl := Option.some.inj H
    exact rt1 hE ⟨_, rfl, _, rfl, hS⟩

/-! ### slices.Index[[]int,int]: function 105 -/
def slices_Index__int_int.l5 : Nat → List Int → Int → Int → Option Int
  | 0, _, _, _ => none
  | k + 1, x0_, x1_, x4 => if x4 < (x0_.length : Int) then (if 0 ≤ x4 ∧ x4 < (x0_.length : Int) then (if x1_ = (nth 0 x0_ x4) then (some x4) else (slices_Index__int_int.l5 k x0_ x1_ (w64 (x4 + 1)))) else (none)) else (some (-1))
theorem slices_Index__int_int.l5_s (k : Nat) (x0_ : List Int) (x1_ : Int) (x4 : Int) : slices_Index__int_int.l5 (k + 1) x0_ x1_ x4 = (if x4 < (x0_.length : Int) then (if 0 ≤ x4 ∧ x4 < (x0_.length : Int) then (if x1_ = (nth 0 x0_ x4) then (some x4) else (slices_Index__int_int.l5 k x0_ x1_ (w64 (x4 + 1)))) else (none)) else (some (-1))) := by kernel_rfl
def slices_Index__int_int.f (k : Nat) (x0_ : List Int) (x1_ : Int) : Option Int := slices_Index__int_int.l5 k x0_ x1_ 0
def slices_Index__int_int.Post (W F : World) (r : Int) (v : Value) (w' : World) : Prop := ∃ (F' : World), v = .int .i64 r ∧ St W (mine W []) F w' F' []
set_option maxHeartbeats 4000000 in
set_option maxRecDepth 100000 in
theorem slices_Index__int_int.calls (k : Nat) (x0_ : List Int) (x1_ : Int) (A0_0 : Option Addr) (c0_0 : Nat) (r : Int) (W F : World) (hown : Sub F W) (g0_0 : Rd (Kn.int .i64) F A0_0 c0_0 x0_) (H : slices_Index__int_int.f k x0_ x1_ = some r) :
    Calls Try.prog 105 #[.slice A0_0 x0_.length c0_0, .int .i64 x1_] W fun e w' => ∃ v, e = .returned v ∧ slices_Index__int_int.Post W F r v w' := by
  have hS := St.start (Own.nil hown)
  unfold slices_Index__int_int.f at H
  refine enter (n := 19) rfl rfl rfl (Nat.le_of_ble_eq_true rfl) (fun a hE => ?_)
  refine wp_seq_k fun K1 hK1 => ?_
  refine pl0 ?_
  refine plc hE (.r 0 1 .nil) (fun a hE => ?_)
  refine pld ?_
  refine hK1 _ _ ?_
  refine wp_seq_k fun K2 hK2 => ?_
  refine wp_seq_k fun K3 hK3 => ?_
  refine pl0 ?_
  refine plc hE (.r 0 3 .nil) (fun a hE => ?_)
  refine pld ?_
  refine hK3 _ _ ?_
  refine wp_block ?_
  refine wp_loop_ghost (fun kq6 a w' => ∃ (G : Nat → Value) (x4 : Int), kq6 ≤ k ∧ Env 19 G a ∧ At G [(0, .slice A0_0 x0_.length c0_0), (1, .int .i64 x1_), (7, .int .i64 (x0_.length : Int)), (8, .int .i64 x4)] ∧ St W (mine W []) F w' F [] ∧  slices_Index__int_int.l5 kq6 x0_ x1_ x4 = some r) k ⟨_, 0, Nat.le_refl _, hE, .of, hS, H⟩ ?_
  rintro kq6 a u8 ⟨G, x4, hkq, hE, hA, hS, H⟩
  cases kq6 with
  | zero => cases (show none = some r from H)
  | succ k7 =>
    rw [slices_Index__int_int.l5_s] at H
    obtain ⟨J, hE⟩ := hE.at hA
    refine wp_seq_k fun K9 hK9 => ?_
    refine pl0 ?_
    refine plc hE (.r 0 1 .nil) (fun a hE => ?_)
    refine pld ?_
    refine hK9 _ _ ?_
    refine wp_seq_k fun K10 hK10 => ?_
    by_cases c11 : x4 < (x0_.length : Int)
    · rw [if_pos c11] at H
      replace hE := hE.kt 9 c11
      refine ct hE ?_
      refine wp_skip ?_
      refine hK10 _ _ ?_
      refine wp_seq_k fun K12 hK12 => ?_
      refine wp_block ?_
      refine wp_seq_k fun K13 hK13 => ?_
      refine pl0 ?_
      refine plc hE (.r 0 2 .nil) (fun a hE => ?_)
      refine pld ?_
      refine hK13 _ _ ?_
      refine wp_seq_k fun K14 hK14 => ?_
      refine pl0 ?_
      by_cases c15 : 0 ≤ x4 ∧ x4 < (x0_.length : Int)
      rotate_left
      · rw [if_neg c15] at H; cases H
      rw [if_pos c15] at H
      have hE_ := hE
      obtain ⟨ad16, rfl⟩ := g0_0.addr c15.1 c15.2
      replace hE := hE_
      obtain ⟨cs18, rfl, hc19⟩ := g0_0.el 0 x4 c15.1 c15.2
      refine plc hE (.r 0 3 <| .x 3 c15 <| .c 4 (hS.fc hc19 0) <| .r 5 1 <| .nil) (fun a hE => ?_)
      refine pld ?_
      refine hK14 _ _ ?_
      by_cases c20 : x1_ = (nth 0 x0_ x4)
      · rw [if_pos c20] at H
        replace hE := hE.kt 16 c20
        refine ct hE ?_
        refine wp_seq_k fun K21 hK21 => ?_
        refine pl0 ?_
        refine plc hE (.r 0 2 .nil) (fun a hE => ?_)
        refine pld ?_
        refine hK21 _ _ ?_
        refine wp_ret (block_ret (then_ret (then_ret (block_ret (then_ret ?_)))))
        obtain rfl := Option.some.inj H
        exact rt1 hE ⟨_, rfl, _, rfl, hS⟩
      · rw [if_neg c20] at H
        replace hE := hE.kf 16 c20
        refine cf hE ?_
        refine wp_skip ?_
        refine hK12 _ _ ?_
        refine pl0 ?_
        refine plc hE (.r 0 2 .nil) (fun a hE => ?_)
        refine pld ?_
        exact then_n ⟨k7, by omega, _, (w64 (x4 + 1)), by omega, hE, .of, hS, H⟩
    · rw [if_neg c11] at H
      replace hE := hE.kf 9 c11
      refine cf hE ?_
      refine wp_exit ?_
      refine hK2 _ _ ?_
      refine wp_seq_k fun K22 hK22 => ?_
      refine pl0 ?_
      refine plc hE (.r 0 1 .nil) (fun a hE => ?_)
      refine pld ?_
      refine hK22 _ _ ?_
      refine wp_ret ?_
      obtain rfl := Option.some.inj H
      exact rt1 hE ⟨_, rfl, _, rfl, hS⟩

/-! ### slices.Contains[[]int,int]: function 82 -/
def slices_Contains__int_int.f (k : Nat) (x0_ : List Int) (x1_ : Int) : Option Bool := (slices_Index__int_int.f k x0_ x1_).bind fun t4 => (some (decide (t4 ≥ 0)))
def slices_Contains__int_int.Post (W F : World) (r : Bool) (v : Value) (w' : World) : Prop := ∃ (F' : World), v = .bool r ∧ St W (mine W []) F w' F' []
set_option maxHeartbeats 4000000 in
set_option maxRecDepth 100000 in
theorem slices_Contains__int_int.calls (k : Nat) (x0_ : List Int) (x1_ : Int) (A0_0 : Option Addr) (c0_0 : Nat) (r : Bool) (W F : World) (hown : Sub F W) (g0_0 : Rd (Kn.int .i64) F A0_0 c0_0 x0_) (H : slices_Contains__int_int.f k x0_ x1_ = some r) :
    Calls Try.prog 82 #[.slice A0_0 x0_.length c0_0, .int .i64 x1_] W fun e w' => ∃ v, e = .returned v ∧ slices_Contains__int_int.Post W F r v w' := by
  have hS := St.start (Own.nil hown)
  unfold slices_Contains__int_int.f at H
  refine enter (n := 9) rfl rfl rfl (Nat.le_of_ble_eq_true rfl) (fun a hE => ?_)
  refine wp_seq_k fun K1 hK1 => ?_
  refine pl0 ?_
  refine plc hE (.r 0 1 .nil) (fun a hE => ?_)
  refine pld ?_
  refine hK1 _ _ ?_
  refine wp_seq_k fun K2 hK2 => ?_
  refine pl0 ?_
  refine plc hE (.r 0 2 .nil) (fun a hE => ?_)
  obtain ⟨t4, h5, H⟩ := Option.bind_eq_some_iff.mp H
  refine ple hE (.cl en105 (slices_Index__int_int.calls k x0_ x1_ _ _ _ _ _ hS.own.sub g0_0 h5)) ?_
  rintro _ u3 a ⟨_, rfl, hC⟩ hE
  replace hS := hS.lent hC
  refine plc hE (.r 3 2 .nil) (fun a hE => ?_)
  refine pld ?_
  refine hK2 _ _ ?_
  refine wp_ret ?_
  obtain rfl := Option.some.inj H
  exact rt1 hE ⟨_, rfl, _, rfl, hS⟩

end Go.Proofs.Ytihjknnhbgkinaa.SR
