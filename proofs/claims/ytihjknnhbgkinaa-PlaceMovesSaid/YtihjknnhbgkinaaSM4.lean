/- Functions of the program, what each computes (written by wip/s/sl.py). -/
import Derived.Test.YtihjknnhbgkinaaSM3
namespace Go.Proofs.Ytihjknnhbgkinaa.SM
open Go Go.RowKit Go.Proofs.Ytihjknnhbgkinaa.Sl
set_option linter.unusedVariables false
set_option linter.unusedSimpArgs false
/-! ### windrose/windroselaw07.PlaceMoves: function 11 -/
mutual
def windroselaw07_PlaceMoves.j12 : Nat → List T_api_Node → Int → Int → Bool → Option Bool
  | 0, _, _, _, _ => none
  | k + 1, x0_, x1_, x2_, y11 => if y11 = true then ((windroselaw07_awake.f k).bind fun t20 => (some t20)) else (if ((([] : List T_api_Node).length : Int) + (x0_.length : Int)) * 40 ≤ 140737488355328 then (if (x0_.length : Int) ≠ 0 then (if 0 ≤ ((w64 x2_).tmod (x0_.length : Int)) ∧ ((w64 x2_).tmod (x0_.length : Int)) < ((([] : List T_api_Node) ++ x0_).length : Int) then ((place_Of.f k x0_ x1_ 3).bind fun t45 => ((place_Of.f k ((([] : List T_api_Node) ++ x0_).set (((w64 x2_).tmod (x0_.length : Int))).toNat (⟨(nth T_api_Node.z (([] : List T_api_Node) ++ x0_) ((w64 x2_).tmod (x0_.length : Int))).f0, (nth T_api_Node.z (([] : List T_api_Node) ++ x0_) ((w64 x2_).tmod (x0_.length : Int))).f1, (nth T_api_Node.z (([] : List T_api_Node) ++ x0_) ((w64 x2_).tmod (x0_.length : Int))).f2, (nth T_api_Node.z (([] : List T_api_Node) ++ x0_) ((w64 x2_).tmod (x0_.length : Int))).f3, (nth T_api_Node.z (([] : List T_api_Node) ++ x0_) ((w64 x2_).tmod (x0_.length : Int))).f4, false⟩ : T_api_Node)) x1_ 3).bind fun t56 => (windroselaw07_PlaceMoves.l66 k x0_ x2_ t45 t56 0))) else (none)) else (none)) else (none))
def windroselaw07_PlaceMoves.l66 : Nat → List T_api_Node → Int → List Int → List Int → Int → Option Bool
  | 0, _, _, _, _, _ => none
  | k + 1, x0_, x2_, t45, t56, x65 => if x65 < (t45.length : Int) then (if 0 ≤ x65 ∧ x65 < (t45.length : Int) then ((windroseref06_Find.f k x0_ (nth 0 t45 x65)).bind fun t82 => (if 0 ≤ ((w64 x2_).tmod (x0_.length : Int)) ∧ ((w64 x2_).tmod (x0_.length : Int)) < (x0_.length : Int) then (if t82.1.f1 = (nth T_api_Node.z x0_ ((w64 x2_).tmod (x0_.length : Int))).f1 then (windroselaw07_PlaceMoves.j99 k x0_ x2_ t45 t56 x65 true) else (windroselaw07_PlaceMoves.j99 k x0_ x2_ t45 t56 x65 (t82.1.f0 == (nth T_api_Node.z x0_ ((w64 x2_).tmod (x0_.length : Int))).f0))) else (none))) else (none)) else ((windroselaw07_awake.f k).bind fun t131 => (some t131))
def windroselaw07_PlaceMoves.j99 : Nat → List T_api_Node → Int → List Int → List Int → Int → Bool → Option Bool
  | 0, _, _, _, _, _, _ => none
  | k + 1, x0_, x2_, t45, t56, x65, y98 => if y98 = true then ((windroselaw07_awake.f k).bind fun t107 => (some t107)) else (if x65 ≥ (t56.length : Int) then (windroselaw07_PlaceMoves.j122 k x0_ x2_ t45 t56 x65 true) else (if 0 ≤ x65 ∧ x65 < (t56.length : Int) then (windroselaw07_PlaceMoves.j122 k x0_ x2_ t45 t56 x65 (!((nth 0 t56 x65) == (nth 0 t45 x65)))) else (none)))
def windroselaw07_PlaceMoves.j122 : Nat → List T_api_Node → Int → List Int → List Int → Int → Bool → Option Bool
  | 0, _, _, _, _, _, _ => none
  | k + 1, x0_, x2_, t45, t56, x65, y121 => if y121 = true then (some false) else (windroselaw07_PlaceMoves.l66 k x0_ x2_ t45 t56 (w64 (x65 + 1)))
end
theorem windroselaw07_PlaceMoves.j12_s (k : Nat) (x0_ : List T_api_Node) (x1_ : Int) (x2_ : Int) (y11 : Bool) : windroselaw07_PlaceMoves.j12 (k + 1) x0_ x1_ x2_ y11 = (if y11 = true then ((windroselaw07_awake.f k).bind fun t20 => (some t20)) else (if ((([] : List T_api_Node).length : Int) + (x0_.length : Int)) * 40 ≤ 140737488355328 then (if (x0_.length : Int) ≠ 0 then (if 0 ≤ ((w64 x2_).tmod (x0_.length : Int)) ∧ ((w64 x2_).tmod (x0_.length : Int)) < ((([] : List T_api_Node) ++ x0_).length : Int) then ((place_Of.f k x0_ x1_ 3).bind fun t45 => ((place_Of.f k ((([] : List T_api_Node) ++ x0_).set (((w64 x2_).tmod (x0_.length : Int))).toNat (⟨(nth T_api_Node.z (([] : List T_api_Node) ++ x0_) ((w64 x2_).tmod (x0_.length : Int))).f0, (nth T_api_Node.z (([] : List T_api_Node) ++ x0_) ((w64 x2_).tmod (x0_.length : Int))).f1, (nth T_api_Node.z (([] : List T_api_Node) ++ x0_) ((w64 x2_).tmod (x0_.length : Int))).f2, (nth T_api_Node.z (([] : List T_api_Node) ++ x0_) ((w64 x2_).tmod (x0_.length : Int))).f3, (nth T_api_Node.z (([] : List T_api_Node) ++ x0_) ((w64 x2_).tmod (x0_.length : Int))).f4, false⟩ : T_api_Node)) x1_ 3).bind fun t56 => (windroselaw07_PlaceMoves.l66 k x0_ x2_ t45 t56 0))) else (none)) else (none)) else (none))) := by kernel_rfl
theorem windroselaw07_PlaceMoves.l66_s (k : Nat) (x0_ : List T_api_Node) (x2_ : Int) (t45 : List Int) (t56 : List Int) (x65 : Int) : windroselaw07_PlaceMoves.l66 (k + 1) x0_ x2_ t45 t56 x65 = (if x65 < (t45.length : Int) then (if 0 ≤ x65 ∧ x65 < (t45.length : Int) then ((windroseref06_Find.f k x0_ (nth 0 t45 x65)).bind fun t82 => (if 0 ≤ ((w64 x2_).tmod (x0_.length : Int)) ∧ ((w64 x2_).tmod (x0_.length : Int)) < (x0_.length : Int) then (if t82.1.f1 = (nth T_api_Node.z x0_ ((w64 x2_).tmod (x0_.length : Int))).f1 then (windroselaw07_PlaceMoves.j99 k x0_ x2_ t45 t56 x65 true) else (windroselaw07_PlaceMoves.j99 k x0_ x2_ t45 t56 x65 (t82.1.f0 == (nth T_api_Node.z x0_ ((w64 x2_).tmod (x0_.length : Int))).f0))) else (none))) else (none)) else ((windroselaw07_awake.f k).bind fun t131 => (some t131))) := by kernel_rfl
theorem windroselaw07_PlaceMoves.j99_s (k : Nat) (x0_ : List T_api_Node) (x2_ : Int) (t45 : List Int) (t56 : List Int) (x65 : Int) (y98 : Bool) : windroselaw07_PlaceMoves.j99 (k + 1) x0_ x2_ t45 t56 x65 y98 = (if y98 = true then ((windroselaw07_awake.f k).bind fun t107 => (some t107)) else (if x65 ≥ (t56.length : Int) then (windroselaw07_PlaceMoves.j122 k x0_ x2_ t45 t56 x65 true) else (if 0 ≤ x65 ∧ x65 < (t56.length : Int) then (windroselaw07_PlaceMoves.j122 k x0_ x2_ t45 t56 x65 (!((nth 0 t56 x65) == (nth 0 t45 x65)))) else (none)))) := by kernel_rfl
theorem windroselaw07_PlaceMoves.j122_s (k : Nat) (x0_ : List T_api_Node) (x2_ : Int) (t45 : List Int) (t56 : List Int) (x65 : Int) (y121 : Bool) : windroselaw07_PlaceMoves.j122 (k + 1) x0_ x2_ t45 t56 x65 y121 = (if y121 = true then (some false) else (windroselaw07_PlaceMoves.l66 k x0_ x2_ t45 t56 (w64 (x65 + 1)))) := by kernel_rfl
def windroselaw07_PlaceMoves.f (k : Nat) (x0_ : List T_api_Node) (x1_ : Int) (x2_ : Int) : Option Bool := if (x0_.length : Int) > 40 then (windroselaw07_PlaceMoves.j12 k x0_ x1_ x2_ true) else ((windroseref06_May.f k x0_).bind fun t6 => (if t6 = true then (if x1_ < 0 then (windroselaw07_PlaceMoves.j12 k x0_ x1_ x2_ true) else (if x1_ > 7 then (windroselaw07_PlaceMoves.j12 k x0_ x1_ x2_ true) else (windroselaw07_PlaceMoves.j12 k x0_ x1_ x2_ ((x0_.length : Int) == 0)))) else (windroselaw07_PlaceMoves.j12 k x0_ x1_ x2_ true)))
def windroselaw07_PlaceMoves.Post (W F : World) (r : Bool) (v : Value) (w' : World) : Prop := ∃ (F' : World), v = .bool r ∧ St W (mine W []) F w' F' []
set_option maxHeartbeats 4000000 in
set_option maxRecDepth 100000 in
theorem windroselaw07_PlaceMoves.calls (k : Nat) (x0_ : List T_api_Node) (x1_ : Int) (x2_ : Int) (A0_0 : Option Addr) (c0_0 : Nat) (r : Bool) (W F : World) (hown : Sub F W) (g0_0 : Rd T_api_Node.k F A0_0 c0_0 x0_) (H : windroselaw07_PlaceMoves.f k x0_ x1_ x2_ = some r) :
    Calls Try.prog 11 #[.slice A0_0 x0_.length c0_0, .int .i64 x1_, .int .u8 x2_] W fun e w' => ∃ v, e = .returned v ∧ windroselaw07_PlaceMoves.Post W F r v w' := by
  have hS := St.start (Own.nil hown)
  unfold windroselaw07_PlaceMoves.f at H
  refine enter (n := 104) rfl rfl rfl (Nat.le_of_ble_eq_true rfl) (fun a hE => ?_)
  refine wp_seq_k fun K1 hK1 => ?_
  refine pl0 ?_
  refine plc hE (.r 0 1 .nil) (fun a hE => ?_)
  refine pld ?_
  refine hK1 _ _ ?_
  refine wp_seq_k fun K2 hK2 => ?_
  refine wp_seq_k fun K3 hK3 => ?_
  have J15 : ∀ kq13, kq13 ≤ k → ∀ (G : Nat → Value) (y11 : Bool) (a : Act) (w' : World), Env 104 G a → At G [(0, .slice A0_0 x0_.length c0_0), (1, .int .i64 x1_), (2, .int .u8 x2_), (34, .bool y11)] → St W (mine W []) F w' F [] → windroselaw07_PlaceMoves.j12 kq13 x0_ x1_ x2_ y11 = some r → K3 a w' := by
    intro kq13 hkq G y11 a u16 hE hA hS H
    cases kq13 with
    | zero => cases (show none = some r from H)
    | succ k14 =>
      rw [windroselaw07_PlaceMoves.j12_s] at H
      obtain ⟨J, hE⟩ := hE.at hA
      refine hK3 _ _ ?_
      by_cases c17 : y11 = true
      · rw [if_pos c17] at H
        replace hE := hE.bt 34 c17
        refine ct hE ?_
        refine wp_seq_k fun K18 hK18 => ?_
        refine pl0 ?_
        obtain ⟨t20, h21, H⟩ := Option.bind_eq_some_iff.mp H
        refine ple hE (.cl en41 (windroselaw07_awake.calls k14 _ _ _ hS.own.sub h21)) ?_
        rintro _ u19 a ⟨_, rfl, hC⟩ hE
        replace hS := hS.lent hC
        refine plc hE (.r 1 1 .nil) (fun a hE => ?_)
        refine pld ?_
        refine hK18 _ _ ?_
        refine wp_ret (then_ret ?_)
        obtain rfl := Option.some.inj H
        exact rt1 hE ⟨_, rfl, _, rfl, hS⟩
      · rw [if_neg c17] at H
        replace hE := hE.bf 34 c17
        refine cf hE ?_
        refine wp_skip ?_
        refine hK2 _ _ ?_
        refine wp_seq_k fun K22 hK22 => ?_
        refine pl0 ?_
        refine ple hE (.lit (d := T_api_Node.k) (e := 102) hS ([] : List T_api_Node) (.nil)) ?_
        rintro _ u23 a ⟨A24, c25, rfl, hS, hg⟩ hE
        refine plc hE (.r 1 1 .nil) (fun a hE => ?_)
        by_cases c27 : ((([] : List T_api_Node).length : Int) + (x0_.length : Int)) * 40 ≤ 140737488355328
        rotate_left
        · rw [if_neg c27] at H; cases H
        rw [if_pos c27] at H
        refine ple hE (.ap (d := T_api_Node.k) 40 hS (g0_0.src hS.own.sub) c27 c0_0) ?_
        rintro _ u30 a ⟨A28, c29, rfl, hS, hz⟩ hE
        refine plc hE (.r 3 1 .nil) (fun a hE => ?_)
        refine pld ?_
        refine hK22 _ _ ?_
        refine wp_seq_k fun K31 hK31 => ?_
        refine pl0 ?_
        by_cases c32 : (x0_.length : Int) ≠ 0
        rotate_left
        · rw [if_neg c32] at H; cases H
        rw [if_pos c32] at H
        refine plc hE (.r 0 4 <| .y 4 (y_rem 3 .i64 (w64 x2_) c32) <| .r 5 1 <| .nil) (fun a hE => ?_)
        refine pld ?_
        refine hK31 _ _ ?_
        refine wp_seq_k fun K33 hK33 => ?_
        refine pl0 ?_
        by_cases c34 : 0 ≤ ((w64 x2_).tmod (x0_.length : Int)) ∧ ((w64 x2_).tmod (x0_.length : Int)) < ((([] : List T_api_Node) ++ x0_).length : Int)
        rotate_left
        · rw [if_neg c34] at H; cases H
        rw [if_pos c34] at H
        have hr35 := hS.row_at (i := 0) rfl
        have hE_ := hE
        obtain ⟨b36, rfl⟩ := row_addr hr35 c34.1 c34.2
        replace hE := hE_
        have hr_ := hS.row_at (i := 0) rfl
        obtain ⟨cs38, rfl, hc39⟩ := row_el hr_ T_api_Node.z ((w64 x2_).tmod (x0_.length : Int)) c34.1 c34.2
        refine plc hE (.r 0 2 <| .x 2 c34 <| .r 3 1 <| .nil) (fun a hE => ?_)
        obtain ⟨cs41, rfl, hc42⟩ := row_el (hS.row_at (i := 0) rfl) T_api_Node.z ((w64 x2_).tmod (x0_.length : Int)) c34.1 c34.2
        refine ple hE (.set (d := T_api_Node.k) (n := (([] : List T_api_Node) ++ x0_).length) (i := ((w64 x2_).tmod (x0_.length : Int))) (⟨(nth T_api_Node.z (([] : List T_api_Node) ++ x0_) ((w64 x2_).tmod (x0_.length : Int))).f0, (nth T_api_Node.z (([] : List T_api_Node) ++ x0_) ((w64 x2_).tmod (x0_.length : Int))).f1, (nth T_api_Node.z (([] : List T_api_Node) ++ x0_) ((w64 x2_).tmod (x0_.length : Int))).f2, (nth T_api_Node.z (([] : List T_api_Node) ++ x0_) ((w64 x2_).tmod (x0_.length : Int))).f3, (nth T_api_Node.z (([] : List T_api_Node) ++ x0_) ((w64 x2_).tmod (x0_.length : Int))).f4, false⟩ : T_api_Node) 5 (ea1 _ _ _) hS c34 [.int .i64 ((nth T_api_Node.z (([] : List T_api_Node) ++ x0_) ((w64 x2_).tmod (x0_.length : Int))).f0), .int .i64 ((nth T_api_Node.z (([] : List T_api_Node) ++ x0_) ((w64 x2_).tmod (x0_.length : Int))).f1), .int .i64 ((nth T_api_Node.z (([] : List T_api_Node) ++ x0_) ((w64 x2_).tmod (x0_.length : Int))).f2), .int .i64 ((nth T_api_Node.z (([] : List T_api_Node) ++ x0_) ((w64 x2_).tmod (x0_.length : Int))).f3), .bool ((nth T_api_Node.z (([] : List T_api_Node) ++ x0_) ((w64 x2_).tmod (x0_.length : Int))).f4), .bool ((nth T_api_Node.z (([] : List T_api_Node) ++ x0_) ((w64 x2_).tmod (x0_.length : Int))).f5)] hc42 [.int .i64 ((nth T_api_Node.z (([] : List T_api_Node) ++ x0_) ((w64 x2_).tmod (x0_.length : Int))).f0), .int .i64 ((nth T_api_Node.z (([] : List T_api_Node) ++ x0_) ((w64 x2_).tmod (x0_.length : Int))).f1), .int .i64 ((nth T_api_Node.z (([] : List T_api_Node) ++ x0_) ((w64 x2_).tmod (x0_.length : Int))).f2), .int .i64 ((nth T_api_Node.z (([] : List T_api_Node) ++ x0_) ((w64 x2_).tmod (x0_.length : Int))).f3), .bool ((nth T_api_Node.z (([] : List T_api_Node) ++ x0_) ((w64 x2_).tmod (x0_.length : Int))).f4), .bool false] rfl) ?_
        rintro _ u40 a ⟨rfl, hS, hz⟩ hE
        refine pld ?_
        refine hK33 _ _ ?_
        refine wp_seq_k fun K43 hK43 => ?_
        refine pl0 ?_
        refine plc hE (.r 0 2 .nil) (fun a hE => ?_)
        obtain ⟨t45, h46, H⟩ := Option.bind_eq_some_iff.mp H
        refine ple hE (.cl en46 (place_Of.calls k14 x0_ x1_ 3 _ _ _ _ _ hS.own.sub g0_0 h46)) ?_
        rintro _ u44 a ⟨F47, A48, c49, rfl, hC⟩ hE
        have hs := hC.sub
        replace hS := hS.called (X := []) hC
        replace g0_0 := g0_0.mono hs
        refine plc hE (.r 3 2 .nil) (fun a hE => ?_)
        have hn52 := (row_form (hS.row_at (i := 1) rfl)).1
        replace hE := hE.set (d := 7) (v := .slice (some ⟨b36, 0, none⟩) (((([] : List T_api_Node) ++ x0_).set (((w64 x2_).tmod (x0_.length : Int))).toNat (⟨(nth T_api_Node.z (([] : List T_api_Node) ++ x0_) ((w64 x2_).tmod (x0_.length : Int))).f0, (nth T_api_Node.z (([] : List T_api_Node) ++ x0_) ((w64 x2_).tmod (x0_.length : Int))).f1, (nth T_api_Node.z (([] : List T_api_Node) ++ x0_) ((w64 x2_).tmod (x0_.length : Int))).f2, (nth T_api_Node.z (([] : List T_api_Node) ++ x0_) ((w64 x2_).tmod (x0_.length : Int))).f3, (nth T_api_Node.z (([] : List T_api_Node) ++ x0_) ((w64 x2_).tmod (x0_.length : Int))).f4, false⟩ : T_api_Node)).length) c29) (Eq.trans (b := .slice (some ⟨b36, 0, none⟩) ((([] : List T_api_Node) ++ x0_).length) c29) (by kernel_rfl) (by rw [← hn52]))
        replace hE := hE.set (d := 38) (v := .slice (some ⟨b36, 0, none⟩) (((([] : List T_api_Node) ++ x0_).set (((w64 x2_).tmod (x0_.length : Int))).toNat (⟨(nth T_api_Node.z (([] : List T_api_Node) ++ x0_) ((w64 x2_).tmod (x0_.length : Int))).f0, (nth T_api_Node.z (([] : List T_api_Node) ++ x0_) ((w64 x2_).tmod (x0_.length : Int))).f1, (nth T_api_Node.z (([] : List T_api_Node) ++ x0_) ((w64 x2_).tmod (x0_.length : Int))).f2, (nth T_api_Node.z (([] : List T_api_Node) ++ x0_) ((w64 x2_).tmod (x0_.length : Int))).f3, (nth T_api_Node.z (([] : List T_api_Node) ++ x0_) ((w64 x2_).tmod (x0_.length : Int))).f4, false⟩ : T_api_Node)).length) c29) (Eq.trans (b := .slice (some ⟨b36, 0, none⟩) ((([] : List T_api_Node) ++ x0_).length) c29) (by kernel_rfl) (by rw [← hn52]))
        replace hE := hE.set (d := 44) (v := .slice (some ⟨b36, 0, none⟩) (((([] : List T_api_Node) ++ x0_).set (((w64 x2_).tmod (x0_.length : Int))).toNat (⟨(nth T_api_Node.z (([] : List T_api_Node) ++ x0_) ((w64 x2_).tmod (x0_.length : Int))).f0, (nth T_api_Node.z (([] : List T_api_Node) ++ x0_) ((w64 x2_).tmod (x0_.length : Int))).f1, (nth T_api_Node.z (([] : List T_api_Node) ++ x0_) ((w64 x2_).tmod (x0_.length : Int))).f2, (nth T_api_Node.z (([] : List T_api_Node) ++ x0_) ((w64 x2_).tmod (x0_.length : Int))).f3, (nth T_api_Node.z (([] : List T_api_Node) ++ x0_) ((w64 x2_).tmod (x0_.length : Int))).f4, false⟩ : T_api_Node)).length) c29) (Eq.trans (b := .slice (some ⟨b36, 0, none⟩) ((([] : List T_api_Node) ++ x0_).length) c29) (by kernel_rfl) (by rw [← hn52]))
        replace hE := hE.set (d := 51) (v := .slice (some ⟨b36, 0, none⟩) (((([] : List T_api_Node) ++ x0_).set (((w64 x2_).tmod (x0_.length : Int))).toNat (⟨(nth T_api_Node.z (([] : List T_api_Node) ++ x0_) ((w64 x2_).tmod (x0_.length : Int))).f0, (nth T_api_Node.z (([] : List T_api_Node) ++ x0_) ((w64 x2_).tmod (x0_.length : Int))).f1, (nth T_api_Node.z (([] : List T_api_Node) ++ x0_) ((w64 x2_).tmod (x0_.length : Int))).f2, (nth T_api_Node.z (([] : List T_api_Node) ++ x0_) ((w64 x2_).tmod (x0_.length : Int))).f3, (nth T_api_Node.z (([] : List T_api_Node) ++ x0_) ((w64 x2_).tmod (x0_.length : Int))).f4, false⟩ : T_api_Node)).length) c29) (Eq.trans (b := .slice (some ⟨b36, 0, none⟩) ((([] : List T_api_Node) ++ x0_).length) c29) (by kernel_rfl) (by rw [← hn52]))
        replace hS : St W (mine W []) F u44 F47 [row (Kn.int .i64) 3 (.slice A48 t45.length c49) t45, row T_api_Node.k 102 (.slice (some ⟨b36, 0, none⟩) (((([] : List T_api_Node) ++ x0_).set (((w64 x2_).tmod (x0_.length : Int))).toNat (⟨(nth T_api_Node.z (([] : List T_api_Node) ++ x0_) ((w64 x2_).tmod (x0_.length : Int))).f0, (nth T_api_Node.z (([] : List T_api_Node) ++ x0_) ((w64 x2_).tmod (x0_.length : Int))).f1, (nth T_api_Node.z (([] : List T_api_Node) ++ x0_) ((w64 x2_).tmod (x0_.length : Int))).f2, (nth T_api_Node.z (([] : List T_api_Node) ++ x0_) ((w64 x2_).tmod (x0_.length : Int))).f3, (nth T_api_Node.z (([] : List T_api_Node) ++ x0_) ((w64 x2_).tmod (x0_.length : Int))).f4, false⟩ : T_api_Node)).length) c29) ((([] : List T_api_Node) ++ x0_).set (((w64 x2_).tmod (x0_.length : Int))).toNat (⟨(nth T_api_Node.z (([] : List T_api_Node) ++ x0_) ((w64 x2_).tmod (x0_.length : Int))).f0, (nth T_api_Node.z (([] : List T_api_Node) ++ x0_) ((w64 x2_).tmod (x0_.length : Int))).f1, (nth T_api_Node.z (([] : List T_api_Node) ++ x0_) ((w64 x2_).tmod (x0_.length : Int))).f2, (nth T_api_Node.z (([] : List T_api_Node) ++ x0_) ((w64 x2_).tmod (x0_.length : Int))).f3, (nth T_api_Node.z (([] : List T_api_Node) ++ x0_) ((w64 x2_).tmod (x0_.length : Int))).f4, false⟩ : T_api_Node))] := by rw [← hn52]; exact hS
        replace hS := hS.front 1 rfl
        obtain ⟨F53, hs, g54, hS⟩ := hS.give
        replace g0_0 := g0_0.mono hs
        obtain ⟨t56, h57, H⟩ := Option.bind_eq_some_iff.mp H
        refine ple hE (.cl en46 (place_Of.calls k14 ((([] : List T_api_Node) ++ x0_).set (((w64 x2_).tmod (x0_.length : Int))).toNat (⟨(nth T_api_Node.z (([] : List T_api_Node) ++ x0_) ((w64 x2_).tmod (x0_.length : Int))).f0, (nth T_api_Node.z (([] : List T_api_Node) ++ x0_) ((w64 x2_).tmod (x0_.length : Int))).f1, (nth T_api_Node.z (([] : List T_api_Node) ++ x0_) ((w64 x2_).tmod (x0_.length : Int))).f2, (nth T_api_Node.z (([] : List T_api_Node) ++ x0_) ((w64 x2_).tmod (x0_.length : Int))).f3, (nth T_api_Node.z (([] : List T_api_Node) ++ x0_) ((w64 x2_).tmod (x0_.length : Int))).f4, false⟩ : T_api_Node)) x1_ 3 _ _ _ _ _ hS.own.sub g54 h57)) ?_
        rintro _ u55 a ⟨F58, A59, c60, rfl, hC⟩ hE
        have hs := hC.sub
        replace hS := hS.called (X := []) hC
        replace g0_0 := g0_0.mono hs
        replace g54 := g54.mono hs
        refine plc hE (.r 6 2 .nil) (fun a hE => ?_)
        refine pld ?_
        refine hK43 _ _ ?_
        refine wp_seq_k fun K63 hK63 => ?_
        refine wp_seq_k fun K64 hK64 => ?_
        refine pl0 ?_
        refine plc hE (.r 0 1 .nil) (fun a hE => ?_)
        refine pld ?_
        refine hK64 _ _ ?_
        refine wp_block ?_
        refine wp_loop_ghost (fun kq67 a w' => ∃ (G : Nat → Value) (x65 : Int), kq67 ≤ k14 ∧ Env 104 G a ∧ At G [(0, .slice A0_0 x0_.length c0_0), (8, .int .i64 ((w64 x2_).tmod (x0_.length : Int))), (9, .slice A48 t45.length c49), (10, .slice A59 t56.length c60), (11, .int .i64 x65)] ∧ St W (mine W []) F w' F58 [row (Kn.int .i64) 3 (.slice A59 t56.length c60) t56, row (Kn.int .i64) 3 (.slice A48 t45.length c49) t45] ∧  windroselaw07_PlaceMoves.l66 kq67 x0_ x2_ t45 t56 x65 = some r) k14 ⟨_, 0, Nat.le_refl _, hE, .of, hS, H⟩ ?_
        rintro kq67 a u69 ⟨G, x65, hkq, hE, hA, hS, H⟩
        cases kq67 with
        | zero => cases (show none = some r from H)
        | succ k68 =>
          rw [windroselaw07_PlaceMoves.l66_s] at H
          obtain ⟨J, hE⟩ := hE.at hA
          refine wp_seq_k fun K70 hK70 => ?_
          refine wp_seq_k fun K71 hK71 => ?_
          refine pl0 ?_
          refine plc hE (.r 0 4 .nil) (fun a hE => ?_)
          refine pld ?_
          refine hK71 _ _ ?_
          by_cases c72 : x65 < (t45.length : Int)
          · rw [if_pos c72] at H
            replace hE := hE.kt 57 c72
            refine ct hE ?_
            refine wp_skip ?_
            refine hK70 _ _ ?_
            refine wp_seq_k fun K73 hK73 => ?_
            refine wp_block ?_
            refine wp_seq_k fun K74 hK74 => ?_
            refine pl0 ?_
            by_cases c75 : 0 ≤ x65 ∧ x65 < (t45.length : Int)
            rotate_left
            · rw [if_neg c75] at H; cases H
            rw [if_pos c75] at H
            have hr76 := hS.row_at (i := 1) rfl
            have hE_ := hE
            obtain ⟨b77, rfl⟩ := row_addr hr76 c75.1 c75.2
            replace hE := hE_
            have hr_ := hS.row_at (i := 1) rfl
            obtain ⟨cs79, rfl, hc80⟩ := row_el hr_ 0 x65 c75.1 c75.2
            refine plc hE (.r 0 3 <| .x 3 c75 <| .c 4 (hc80 0 _ rfl) <| .nil) (fun a hE => ?_)
            obtain ⟨t82, h83, H⟩ := Option.bind_eq_some_iff.mp H
            refine ple hE (.cl en49 (windroseref06_Find.calls k68 x0_ (nth 0 t45 x65) _ _ _ _ _ hS.own.sub g0_0 h83)) ?_
            rintro _ u81 a ⟨_, rfl, hC⟩ hE
            replace hS := hS.lent hC
            refine plc hE (.r 6 3 .nil) (fun a hE => ?_)
            refine ple hE (.al (t := 102) hS [.int .i64 0, .int .i64 0, .int .i64 0, .int .i64 0, .bool false, .bool false]) ?_
            rintro _ u85 a ⟨b84, rfl, hb84, hS, hg⟩ hE
            refine ple hE (.sto hS [.int .i64 t82.1.f0, .int .i64 t82.1.f1, .int .i64 t82.1.f2, .int .i64 t82.1.f3, .bool t82.1.f4, .bool t82.1.f5]) ?_
            rintro _ u86 a ⟨rfl, hb84, hS, hz⟩ hE
            refine plc hE (.r 11 1 .nil) (fun a hE => ?_)
            refine pld ?_
            refine hK74 _ _ ?_
            refine wp_seq_k fun K87 hK87 => ?_
            refine wp_seq_k fun K88 hK88 => ?_
            have J102 : ∀ kq100, kq100 ≤ k68 → ∀ (G : Nat → Value) (y98 : Bool) (a : Act) (w' : World), Env 104 G a → At G [(0, .slice A0_0 x0_.length c0_0), (8, .int .i64 ((w64 x2_).tmod (x0_.length : Int))), (9, .slice (some ⟨b77, 0, none⟩) t45.length c49), (10, .slice A59 t56.length c60), (11, .int .i64 x65), (86, .bool y98)] → St W (mine W []) F w' F58 [box b84 #[.int .i64 t82.1.f0, .int .i64 t82.1.f1, .int .i64 t82.1.f2, .int .i64 t82.1.f3, .bool t82.1.f4, .bool t82.1.f5] 102, row (Kn.int .i64) 3 (.slice A59 t56.length c60) t56, row (Kn.int .i64) 3 (.slice (some ⟨b77, 0, none⟩) t45.length c49) t45] → windroselaw07_PlaceMoves.j99 kq100 x0_ x2_ t45 t56 x65 y98 = some r → K88 a w' := by
              intro kq100 hkq G y98 a u103 hE hA hS H
              cases kq100 with
              | zero => cases (show none = some r from H)
              | succ k101 =>
                rw [windroselaw07_PlaceMoves.j99_s] at H
                obtain ⟨J, hE⟩ := hE.at hA
                refine hK88 _ _ ?_
                by_cases c104 : y98 = true
                · rw [if_pos c104] at H
                  replace hE := hE.bt 86 c104
                  refine ct hE ?_
                  refine wp_seq_k fun K105 hK105 => ?_
                  refine pl0 ?_
                  obtain ⟨t107, h108, H⟩ := Option.bind_eq_some_iff.mp H
                  refine ple hE (.cl en41 (windroselaw07_awake.calls k101 _ _ _ hS.own.sub h108)) ?_
                  rintro _ u106 a ⟨_, rfl, hC⟩ hE
                  replace hS := hS.lent hC
                  refine plc hE (.r 1 1 .nil) (fun a hE => ?_)
                  refine pld ?_
                  refine hK105 _ _ ?_
                  refine wp_ret (then_ret (block_ret (then_ret (then_ret (block_ret (then_ret ?_))))))
                  replace hS := hS.tail
                  replace hS := hS.tail
                  replace hS := hS.tail
                  obtain rfl := Option.some.inj H
                  exact rt1 hE ⟨_, rfl, _, rfl, hS⟩
                · rw [if_neg c104] at H
                  replace hE := hE.bf 86 c104
                  refine cf hE ?_
                  refine wp_skip ?_
                  refine hK87 _ _ ?_
                  refine wp_seq_k fun K109 hK109 => ?_
                  have J125 : ∀ kq123, kq123 ≤ k101 → ∀ (G : Nat → Value) (y121 : Bool) (a : Act) (w' : World), Env 104 G a → At G [(0, .slice A0_0 x0_.length c0_0), (8, .int .i64 ((w64 x2_).tmod (x0_.length : Int))), (9, .slice (some ⟨b77, 0, none⟩) t45.length c49), (10, .slice A59 t56.length c60), (11, .int .i64 x65), (102, .bool y121)] → St W (mine W []) F w' F58 [box b84 #[.int .i64 t82.1.f0, .int .i64 t82.1.f1, .int .i64 t82.1.f2, .int .i64 t82.1.f3, .bool t82.1.f4, .bool t82.1.f5] 102, row (Kn.int .i64) 3 (.slice A59 t56.length c60) t56, row (Kn.int .i64) 3 (.slice (some ⟨b77, 0, none⟩) t45.length c49) t45] → windroselaw07_PlaceMoves.j122 kq123 x0_ x2_ t45 t56 x65 y121 = some r → K109 a w' := by
                    intro kq123 hkq G y121 a u126 hE hA hS H
                    cases kq123 with
                    | zero => cases (show none = some r from H)
                    | succ k124 =>
                      rw [windroselaw07_PlaceMoves.j122_s] at H
                      obtain ⟨J, hE⟩ := hE.at hA
                      refine hK109 _ _ ?_
                      by_cases c127 : y121 = true
                      · rw [if_pos c127] at H
                        replace hE := hE.bt 102 c127
                        refine ct hE ?_
                        refine wp_seq_k fun K128 hK128 => ?_
                        refine pl0 ?_
                        refine plc hE (.r 0 1 .nil) (fun a hE => ?_)
                        refine pld ?_
                        refine hK128 _ _ ?_
                        refine wp_ret (block_ret (then_ret (then_ret (block_ret (then_ret ?_)))))
                        replace hS := hS.tail
                        replace hS := hS.tail
                        replace hS := hS.tail
                        obtain rfl := Option.some.inj H
                        exact rt1 hE ⟨_, rfl, _, rfl, hS⟩
                      · rw [if_neg c127] at H
                        replace hE := hE.bf 102 c127
                        refine cf hE ?_
                        refine wp_skip ?_
                        refine block_n ?_
                        refine hK73 _ _ ?_
                        refine pl0 ?_
                        refine plc hE (.r 0 3 .nil) (fun a hE => ?_)
                        refine pld ?_
                        replace hS := hS.tail
                        exact then_n ⟨k124, by omega, _, (w64 (x65 + 1)), by omega, hE, .of, hS, H⟩
                  refine drawn 15 ⟨[], [], fun q => False⟩ mixed rfl (by kernel_rfl) (fun hst => ?_)
                  replace hS := hS.drew
                  refine mny 10 hst hE (.r 0 5 .nil) (fun a hE => ?_)
                  by_cases c110 : x65 ≥ (t56.length : Int)
                  · rw [if_pos c110] at H
                    replace hE := hE.kt 92 c110
                    refine mny 0 hst hE (.r 5 10 .nil) (fun a hE => ?_)
                    refine dn ?_
                    exact J125 _ (by omega) _ true _ _ hE .of hS H
                  · rw [if_neg c110] at H
                    replace hE := hE.kf 92 c110
                    by_cases c111 : 0 ≤ x65 ∧ x65 < (t56.length : Int)
                    rotate_left
                    · rw [if_neg c111] at H; cases H
                    rw [if_pos c111] at H
                    have hr112 := hS.row_at (i := 1) rfl
                    have hE_ := hE
                    obtain ⟨b113, rfl⟩ := row_addr hr112 c111.1 c111.2
                    replace hE := hE_
                    have hr_ := hS.row_at (i := 1) rfl
                    obtain ⟨cs115, rfl, hc116⟩ := row_el hr_ 0 x65 c111.1 c111.2
                    have hr117 := hS.row_at (i := 2) rfl
                    have hr_ := hS.row_at (i := 2) rfl
                    obtain ⟨cs119, rfl, hc120⟩ := row_el hr_ 0 x65 c75.1 c75.2
                    refine mny 0 hst hE (.r 5 2 <| .x 7 c111 <| .c 8 (hc116 0 _ rfl) <| .r 9 2 <| .x 11 c75 <| .c 12 (hc120 0 _ rfl) <| .r 13 2 <| .nil) (fun a hE => ?_)
                    refine dn ?_
                    exact J125 _ (by omega) _ (!((nth 0 t56 x65) == (nth 0 t45 x65))) _ _ hE .of hS H
            refine drawn 18 ⟨[], [], fun q => False⟩ mixed rfl (by kernel_rfl) (fun hst => ?_)
            replace hS := hS.drew
            have hb84 := hS.blk_at (i := 0) rfl
            by_cases c89 : 0 ≤ ((w64 x2_).tmod (x0_.length : Int)) ∧ ((w64 x2_).tmod (x0_.length : Int)) < (x0_.length : Int)
            rotate_left
            · rw [if_neg c89] at H; cases H
            rw [if_pos c89] at H
            have hE_ := hE
            obtain ⟨ad90, rfl⟩ := g0_0.addr c89.1 c89.2
            replace hE := hE_
            obtain ⟨cs92, rfl, hc93⟩ := g0_0.el T_api_Node.z ((w64 x2_).tmod (x0_.length : Int)) c89.1 c89.2
            refine mny 9 hst hE (.r 0 1 <| .b 1 1 hb84 <| .r 2 2 <| .x 4 c89 <| .r 5 1 <| .c 6 (hS.fc hc93 1) <| .r 7 2 <| .nil) (fun a hE => ?_)
            by_cases c94 : t82.1.f1 = (nth T_api_Node.z x0_ ((w64 x2_).tmod (x0_.length : Int))).f1
            · rw [if_pos c94] at H
              replace hE := hE.kt 77 c94
              refine mny 0 hst hE (.r 9 9 .nil) (fun a hE => ?_)
              refine dn ?_
              exact J102 _ (by omega) _ true _ _ hE .of hS H
            · rw [if_neg c94] at H
              replace hE := hE.kf 77 c94
              refine mny 0 hst hE (.r 9 1 <| .b 10 0 hb84 <| .r 11 2 <| .x 13 c89 <| .r 14 1 <| .c 15 (hS.fc hc93 0) <| .r 16 2 <| .nil) (fun a hE => ?_)
              refine dn ?_
              exact J102 _ (by omega) _ (t82.1.f0 == (nth T_api_Node.z x0_ ((w64 x2_).tmod (x0_.length : Int))).f0) _ _ hE .of hS H
          · rw [if_neg c72] at H
            replace hE := hE.kf 57 c72
            refine cf hE ?_
            refine wp_exit ?_
            refine hK63 _ _ ?_
            refine wp_seq_k fun K129 hK129 => ?_
            refine pl0 ?_
            obtain ⟨t131, h132, H⟩ := Option.bind_eq_some_iff.mp H
            refine ple hE (.cl en41 (windroselaw07_awake.calls k68 _ _ _ hS.own.sub h132)) ?_
            rintro _ u130 a ⟨_, rfl, hC⟩ hE
            replace hS := hS.lent hC
            refine plc hE (.r 1 1 .nil) (fun a hE => ?_)
            refine pld ?_
            refine hK129 _ _ ?_
            refine wp_ret ?_
            replace hS := hS.tail
            replace hS := hS.tail
            obtain rfl := Option.some.inj H
            exact rt1 hE ⟨_, rfl, _, rfl, hS⟩
  refine pl0 ?_
  refine plc hE (.r 0 4 .nil) (fun a hE => ?_)
  by_cases c4 : (x0_.length : Int) > 40
  · rw [if_pos c4] at H
    replace hE := hE.kt 17 c4
    refine plc hE (.r 4 17 .nil) (fun a hE => ?_)
    refine pld ?_
    exact J15 _ (by omega) _ true _ _ hE .of hS H
  · rw [if_neg c4] at H
    replace hE := hE.kf 17 c4
    refine plc hE (.r 4 1 .nil) (fun a hE => ?_)
    obtain ⟨t6, h7, H⟩ := Option.bind_eq_some_iff.mp H
    refine ple hE (.cl en43 (windroseref06_May.calls k x0_ _ _ _ _ _ hS.own.sub g0_0 h7)) ?_
    rintro _ u5 a ⟨_, rfl, hC⟩ hE
    replace hS := hS.lent hC
    refine plc hE (.r 6 3 .nil) (fun a hE => ?_)
    by_cases c8 : t6 = true
    · rw [if_pos c8] at H
      replace hE := hE.btn 22 c8
      refine plc hE (.r 9 4 .nil) (fun a hE => ?_)
      by_cases c9 : x1_ < 0
      · rw [if_pos c9] at H
        replace hE := hE.kt 26 c9
        refine plc hE (.r 13 8 .nil) (fun a hE => ?_)
        refine pld ?_
        exact J15 _ (by omega) _ true _ _ hE .of hS H
      · rw [if_neg c9] at H
        replace hE := hE.kf 26 c9
        refine plc hE (.r 13 4 .nil) (fun a hE => ?_)
        by_cases c10 : x1_ > 7
        · rw [if_pos c10] at H
          replace hE := hE.kt 30 c10
          refine plc hE (.r 17 4 .nil) (fun a hE => ?_)
          refine pld ?_
          exact J15 _ (by omega) _ true _ _ hE .of hS H
        · rw [if_neg c10] at H
          replace hE := hE.kf 30 c10
          refine plc hE (.r 17 4 .nil) (fun a hE => ?_)
          refine pld ?_
          exact J15 _ (by omega) _ ((x0_.length : Int) == 0) _ _ hE .of hS H
    · rw [if_neg c8] at H
      replace hE := hE.bfn 22 c8
      refine plc hE (.r 9 12 .nil) (fun a hE => ?_)
      refine pld ?_
      exact J15 _ (by omega) _ true _ _ hE .of hS H

end Go.Proofs.Ytihjknnhbgkinaa.SM
