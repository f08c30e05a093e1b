/- Functions of the program, what each computes (written by wip/s/sl.py). -/
import Derived.Test.YtihjknnhbgkinaaSM2
namespace Go.Proofs.Ytihjknnhbgkinaa.SM
open Go Go.RowKit Go.Proofs.Ytihjknnhbgkinaa.Sl
set_option linter.unusedVariables false
set_option linter.unusedSimpArgs false
/-! ### windrose/draw.Order: function 104 -/
def draw_Order.l44 : Nat → List T_api_Choice → List T_api_Choice → List Int → Int → Option (List Int)
  | 0, _, _, _, _ => none
  | k + 1, t22, t33, l42, x43 => if x43 < (t22.length : Int) then (if 0 ≤ x43 ∧ x43 < (t22.length : Int) then (if ((l42.length : Int) + ((1 : Nat) : Int)) * 8 ≤ 140737488355328 then (draw_Order.l44 k t22 t33 (l42 ++ [(nth T_api_Choice.z t33 x43).f0]) (w64 (x43 + 1))) else (none)) else (none)) else (some l42)
theorem draw_Order.l44_s (k : Nat) (t22 : List T_api_Choice) (t33 : List T_api_Choice) (l42 : List Int) (x43 : Int) : draw_Order.l44 (k + 1) t22 t33 l42 x43 = (if x43 < (t22.length : Int) then (if 0 ≤ x43 ∧ x43 < (t22.length : Int) then (if ((l42.length : Int) + ((1 : Nat) : Int)) * 8 ≤ 140737488355328 then (draw_Order.l44 k t22 t33 (l42 ++ [(nth T_api_Choice.z t33 x43).f0]) (w64 (x43 + 1))) else (none)) else (none)) else (some l42)) := by kernel_rfl
def draw_Order.f (k : Nat) (x0_ : Int) (x1_ : List T_api_Choice) : Option (List Int) := (draw_Check.f k x1_).bind fun t7 => (if t7 = 0 then ((slices_Clone__api_Choice_api_Choice.f x1_).bind fun t14 => ((slices_DeleteFunc__api_Choice_api_Choice_of_draw_Order_1.f k t14).bind fun t22 => ((slices_SortFunc__api_Choice_api_Choice_of_draw_Order_2.f k t22 x0_).bind fun t33 => (draw_Order.l44 k t22 t33 [] 0)))) else (some []))
def draw_Order.Post (W F : World) (r : List Int) (v : Value) (w' : World) : Prop := ∃ (F' : World) (RA0_0 : Option Addr) (rc0_0 : Nat), v = .slice RA0_0 r.length rc0_0 ∧ St W (mine W []) F w' F' [row (Kn.int .i64) 3 (.slice RA0_0 r.length rc0_0) r]
set_option maxHeartbeats 4000000 in
set_option maxRecDepth 100000 in
theorem draw_Order.calls (k : Nat) (x0_ : Int) (x1_ : List T_api_Choice) (A1_0 : Option Addr) (c1_0 : Nat) (r : List Int) (W F : World) (hown : Sub F W) (g1_0 : Rd T_api_Choice.k F A1_0 c1_0 x1_) (H : draw_Order.f k x0_ x1_ = some r) :
    Calls Try.prog 104 #[.int .u64 x0_, .slice A1_0 x1_.length c1_0] W fun e w' => ∃ v, e = .returned v ∧ draw_Order.Post W F r v w' := by
  have hS := St.start (Own.nil hown)
  unfold draw_Order.f at H
  refine enter (n := 30) rfl rfl rfl (Nat.le_of_ble_eq_true rfl) (fun a hE => ?_)
  refine wp_seq_k fun K1 hK1 => ?_
  refine pl0 ?_
  refine ple hE (.bx (t := 22) hS [.int .u64 x0_]) ?_
  rintro _ u3 a ⟨b2, rfl, hb2, hS, hg⟩ hE
  refine plc hE (.r 1 1 .nil) (fun a hE => ?_)
  refine pld ?_
  refine hK1 _ _ ?_
  refine wp_seq_k fun K4 hK4 => ?_
  refine wp_seq_k fun K5 hK5 => ?_
  refine pl0 ?_
  refine plc hE (.r 0 1 .nil) (fun a hE => ?_)
  obtain ⟨t7, h8, H⟩ := Option.bind_eq_some_iff.mp H
  refine ple hE (.cl en121 (draw_Check.calls k x1_ _ _ _ _ _ hS.own.sub g1_0 h8)) ?_
  rintro _ u6 a ⟨_, rfl, hC⟩ hE
  replace hS := hS.lent hC
  refine plc hE (.r 2 1 .nil) (fun a hE => ?_)
  refine pld ?_
  refine hK5 _ _ ?_
  by_cases c9 : t7 = 0
  · rw [if_pos c9] at H
    replace hE := hE.ktn 10 c9
    refine cf hE ?_
    refine wp_skip ?_
    refine hK4 _ _ ?_
    refine wp_seq_k fun K12 hK12 => ?_
    refine pl0 ?_
    refine plc hE (.r 0 1 .nil) (fun a hE => ?_)
    obtain ⟨t14, h15, H⟩ := Option.bind_eq_some_iff.mp H
    refine ple hE (.cl en123 (slices_Clone__api_Choice_api_Choice.calls x1_ _ _ _ _ _ hS.own.sub g1_0 h15)) ?_
    rintro _ u13 a ⟨F16, A17, c18, rfl, hC⟩ hE
    have hs := hC.sub
    replace hS := hS.called (X := []) hC
    replace g1_0 := g1_0.mono hs
    obtain ⟨t22, h23, H⟩ := Option.bind_eq_some_iff.mp H
    refine ple hE (.cl en122 (slices_DeleteFunc__api_Choice_api_Choice_of_draw_Order_1.calls k t14 _ _ _ _ _ (Own.left (X := [row T_api_Choice.k 106 (.slice A17 t14.length c18) t14]) hS.own) h23)) ?_
    rintro _ u21 a ⟨F24, A25, c26, rfl, hC⟩ hE
    have hs := hC.sub
    replace hS := hS.called (X := [row T_api_Choice.k 106 (.slice A17 t14.length c18) t14]) hC
    replace g1_0 := g1_0.mono hs
    refine plc hE (.r 3 1 .nil) (fun a hE => ?_)
    refine pld ?_
    refine hK12 _ _ ?_
    refine wp_seq_k fun K29 hK29 => ?_
    refine pl0 ?_
    refine plc hE (.r 0 2 .nil) (fun a hE => ?_)
    replace hS := hS.front 1 rfl
    obtain ⟨F30, hs, g31, hS⟩ := hS.giveb
    replace g1_0 := g1_0.mono hs
    obtain ⟨t33, h34, H⟩ := Option.bind_eq_some_iff.mp H
    refine ple hE (.cl en125 (slices_SortFunc__api_Choice_api_Choice_of_draw_Order_2.calls k t22 x0_ _ _ _ _ _ _ (Own.left (X := [row T_api_Choice.k 106 (.slice A25 t22.length c26) t22]) hS.own) g31 h34)) ?_
    rintro _ u32 a ⟨F35, rfl, hC⟩ hE
    have hs := hC.sub
    replace hS := hS.called (X := [row T_api_Choice.k 106 (.slice A25 t22.length c26) t22]) hC
    replace g1_0 := g1_0.mono hs
    replace g31 := hs _ _ _ _ g31
    refine pld ?_
    refine hK29 _ _ ?_
    refine wp_seq_k fun K36 hK36 => ?_
    refine pl0 ?_
    refine plc hE (.r 0 1 .nil) (fun a hE => ?_)
    refine pld ?_
    refine hK36 _ _ ?_
    refine wp_seq_k fun K37 hK37 => ?_
    refine wp_seq_k fun K38 hK38 => ?_
    refine pl0 ?_
    refine plc hE (.r 0 3 .nil) (fun a hE => ?_)
    refine pld ?_
    refine hK38 _ _ ?_
    refine wp_block ?_
    replace hS := hS.nilrow (Kn.int .i64) 3
    replace hS := hS.front 1 rfl
    refine wp_loop_ghost (fun kq45 a w' => ∃ (G : Nat → Value) (A40 : Option Addr) (c41 : Nat) (l42 : List Int) (x43 : Int), kq45 ≤ k ∧ Env 30 G a ∧ At G [(5, .slice A40 l42.length c41), (17, .slice A25 t22.length c26), (18, .int .i64 (t22.length : Int)), (19, .int .i64 x43)] ∧ St W (mine W []) F w' F35 [row T_api_Choice.k 106 (.slice A25 t22.length c26) t33, row (Kn.int .i64) 3 (.slice A40 l42.length c41) l42] ∧  draw_Order.l44 kq45 t22 t33 l42 x43 = some r) k ⟨_, none, 0, [], 0, Nat.le_refl _, hE, .of, hS, H⟩ ?_
    rintro kq45 a u47 ⟨G, A40, c41, l42, x43, hkq, hE, hA, hS, H⟩
    cases kq45 with
    | zero => cases (show none = some r from H)
    | succ k46 =>
      rw [draw_Order.l44_s] at H
      obtain ⟨J, hE⟩ := hE.at hA
      refine wp_seq_k fun K48 hK48 => ?_
      refine pl0 ?_
      refine plc hE (.r 0 1 .nil) (fun a hE => ?_)
      refine pld ?_
      refine hK48 _ _ ?_
      refine wp_seq_k fun K49 hK49 => ?_
      by_cases c50 : x43 < (t22.length : Int)
      · rw [if_pos c50] at H
        replace hE := hE.kt 20 c50
        refine ct hE ?_
        refine wp_skip ?_
        refine hK49 _ _ ?_
        refine wp_seq_k fun K51 hK51 => ?_
        refine wp_block ?_
        refine wp_seq_k fun K52 hK52 => ?_
        refine pl0 ?_
        by_cases c53 : 0 ≤ x43 ∧ x43 < (t22.length : Int)
        rotate_left
        · rw [if_neg c53] at H; cases H
        rw [if_pos c53] at H
        have hr54 := hS.row_at (i := 0) rfl
        have c55 : 0 ≤ x43 ∧ x43 < (t33.length : Int) := by rw [← (row_form hr54).1]; exact c53
        have hE_ := hE
        obtain ⟨b56, rfl⟩ := row_addr hr54 c55.1 c55.2
        replace hE := hE_
        have hr_ := hS.row_at (i := 0) rfl
        obtain ⟨cs58, rfl, hc59⟩ := row_el hr_ T_api_Choice.z x43 c55.1 c55.2
        refine plc hE (.x 0 c53 <| .cs 1 hc59 <| .nil) (fun a hE => ?_)
        refine ple hE (.al (t := 106) hS [.int .i64 0, .int .i64 0]) ?_
        rintro _ u61 a ⟨b60, rfl, hb60, hS, hg⟩ hE
        refine ple hE (.sto hS [.int .i64 ((nth T_api_Choice.z t33 x43).f0), .int .i64 ((nth T_api_Choice.z t33 x43).f1)]) ?_
        rintro _ u62 a ⟨rfl, hb60, hS, hz⟩ hE
        refine pld ?_
        refine hK52 _ _ ?_
        refine pl0 ?_
        refine plc hE (.r 0 2 <| .b 2 0 hb60 <| .nil) (fun a hE => ?_)
        refine ple hE (.lit (d := (Kn.int .i64)) (e := 3) hS [(nth T_api_Choice.z t33 x43).f0] (.cons rfl .nil)) ?_
        rintro _ u63 a ⟨A64, c65, rfl, hS, hg⟩ hE
        by_cases c67 : ((l42.length : Int) + ((1 : Nat) : Int)) * 8 ≤ 140737488355328
        rotate_left
        · rw [if_neg c67] at H; cases H
        rw [if_pos c67] at H
        replace hS := hS.front 3 rfl
        refine ple hE (.ap (d := (Kn.int .i64)) 8 hS (row_src (hS.row_at (i := 1) rfl)) c67 c65) ?_
        rintro _ u70 a ⟨A68, c69, rfl, hS, hz⟩ hE
        refine plc hE (.r 5 1 .nil) (fun a hE => ?_)
        refine pld ?_
        refine block_n ?_
        refine hK51 _ _ ?_
        refine pl0 ?_
        refine plc hE (.r 0 2 .nil) (fun a hE => ?_)
        refine pld ?_
        replace hS := hS.front 1 rfl
        replace hS := hS.tail
        replace hS := hS.front 1 rfl
        replace hS := hS.tail
        replace hS := hS.front 1 rfl
        exact then_n ⟨k46, by omega, _, A68, c69, (l42 ++ [(nth T_api_Choice.z t33 x43).f0]), (w64 (x43 + 1)), by omega, hE, .of, hS, H⟩
      · rw [if_neg c50] at H
        replace hE := hE.kf 20 c50
        refine cf hE ?_
        refine wp_exit ?_
        refine hK37 _ _ ?_
        refine wp_seq_k fun K72 hK72 => ?_
        refine pl0 ?_
        refine plc hE (.r 0 2 .nil) (fun a hE => ?_)
        refine pld ?_
        refine hK72 _ _ ?_
        refine wp_ret ?_
        have hn73 := (row_form (hS.row_at (i := 0) rfl)).1
        replace hS : St W (mine W []) F u47 F35 [row T_api_Choice.k 106 (.slice A25 t33.length c26) t33, row (Kn.int .i64) 3 (.slice A40 l42.length c41) l42] := by rw [← hn73]; exact hS
        replace hS := hS.tail
        obtain rfl := Option.some.inj H
        exact rt1 hE ⟨_, rfl, _, _, _, rfl, hS⟩
  · rw [if_neg c9] at H
    replace hE := hE.kfn 10 c9
    refine ct hE ?_
    refine wp_seq_k fun K10 hK10 => ?_
    refine pl0 ?_
    refine plc hE (.r 0 1 .nil) (fun a hE => ?_)
    refine pld ?_
    refine hK10 _ _ ?_
    refine wp_ret (then_ret ?_)
    replace hS := hS.nilrow (Kn.int .i64) 3
    replace hS := hS.front 1 rfl
    replace hS := hS.tail
    obtain rfl := Option.some.inj H
    exact rt1 hE ⟨_, rfl, _, _, _, rfl, hS⟩

/-! ### windrose/place.choose: function 81 -/
mutual
def place_choose.j42 : Nat → T_place_item → T_api_Step → Int → List T_api_Choice → Option (List T_place_item)
  | 0, _, _, _, _ => none
  | k + 1, x1_, x2_, x3_, l40 => (mix_Fold.f k (IntKind.u64.wrap x3_) [(IntKind.u64.wrap x2_.f1), (IntKind.u64.wrap x1_.f0), (IntKind.u64.wrap x1_.f1)]).bind fun t53 => ((draw_Order.f k t53 l40).bind fun t58 => (if 0 ≤ (if (t58.length : Int) < x2_.f2 then (t58.length : Int) else x2_.f2) ∧ (if (t58.length : Int) < x2_.f2 then (t58.length : Int) else x2_.f2) ≤ (t58.length : Int) then (place_choose.l80 k x1_ x2_ t58 [] 0) else (none)))
def place_choose.l80 : Nat → T_place_item → T_api_Step → List Int → List T_place_item → Int → Option (List T_place_item)
  | 0, _, _, _, _, _ => none
  | k + 1, x1_, x2_, t58, l78, x79 => if x79 < ((cutl t58 0 (if (t58.length : Int) < x2_.f2 then (t58.length : Int) else x2_.f2)).length : Int) then (if 0 ≤ x79 ∧ x79 < ((cutl t58 0 (if (t58.length : Int) < x2_.f2 then (t58.length : Int) else x2_.f2)).length : Int) then (if x2_.f1 = 1 then (place_choose.j110 k x1_ x2_ t58 l78 x79 (nth 0 (cutl t58 0 (if (t58.length : Int) < x2_.f2 then (t58.length : Int) else x2_.f2)) x79) x1_.f1 x1_.f2) else (if x2_.f1 = 2 then (place_choose.j110 k x1_ x2_ t58 l78 x79 x1_.f0 (nth 0 (cutl t58 0 (if (t58.length : Int) < x2_.f2 then (t58.length : Int) else x2_.f2)) x79) x1_.f2) else (place_choose.j110 k x1_ x2_ t58 l78 x79 x1_.f0 x1_.f1 (nth 0 (cutl t58 0 (if (t58.length : Int) < x2_.f2 then (t58.length : Int) else x2_.f2)) x79)))) else (none)) else (some l78)
def place_choose.j110 : Nat → T_place_item → T_api_Step → List Int → List T_place_item → Int → Int → Int → Int → Option (List T_place_item)
  | 0, _, _, _, _, _, _, _, _ => none
  | k + 1, x1_, x2_, t58, l78, x79, x107, x108, x109 => if ((l78.length : Int) + ((1 : Nat) : Int)) * 24 ≤ 140737488355328 then (place_choose.l80 k x1_ x2_ t58 (l78 ++ [(⟨x107, x108, x109⟩ : T_place_item)]) (w64 (x79 + 1))) else (none)
end
theorem place_choose.j42_s (k : Nat) (x1_ : T_place_item) (x2_ : T_api_Step) (x3_ : Int) (l40 : List T_api_Choice) : place_choose.j42 (k + 1) x1_ x2_ x3_ l40 = ((mix_Fold.f k (IntKind.u64.wrap x3_) [(IntKind.u64.wrap x2_.f1), (IntKind.u64.wrap x1_.f0), (IntKind.u64.wrap x1_.f1)]).bind fun t53 => ((draw_Order.f k t53 l40).bind fun t58 => (if 0 ≤ (if (t58.length : Int) < x2_.f2 then (t58.length : Int) else x2_.f2) ∧ (if (t58.length : Int) < x2_.f2 then (t58.length : Int) else x2_.f2) ≤ (t58.length : Int) then (place_choose.l80 k x1_ x2_ t58 [] 0) else (none)))) := by kernel_rfl
theorem place_choose.l80_s (k : Nat) (x1_ : T_place_item) (x2_ : T_api_Step) (t58 : List Int) (l78 : List T_place_item) (x79 : Int) : place_choose.l80 (k + 1) x1_ x2_ t58 l78 x79 = (if x79 < ((cutl t58 0 (if (t58.length : Int) < x2_.f2 then (t58.length : Int) else x2_.f2)).length : Int) then (if 0 ≤ x79 ∧ x79 < ((cutl t58 0 (if (t58.length : Int) < x2_.f2 then (t58.length : Int) else x2_.f2)).length : Int) then (if x2_.f1 = 1 then (place_choose.j110 k x1_ x2_ t58 l78 x79 (nth 0 (cutl t58 0 (if (t58.length : Int) < x2_.f2 then (t58.length : Int) else x2_.f2)) x79) x1_.f1 x1_.f2) else (if x2_.f1 = 2 then (place_choose.j110 k x1_ x2_ t58 l78 x79 x1_.f0 (nth 0 (cutl t58 0 (if (t58.length : Int) < x2_.f2 then (t58.length : Int) else x2_.f2)) x79) x1_.f2) else (place_choose.j110 k x1_ x2_ t58 l78 x79 x1_.f0 x1_.f1 (nth 0 (cutl t58 0 (if (t58.length : Int) < x2_.f2 then (t58.length : Int) else x2_.f2)) x79)))) else (none)) else (some l78)) := by kernel_rfl
theorem place_choose.j110_s (k : Nat) (x1_ : T_place_item) (x2_ : T_api_Step) (t58 : List Int) (l78 : List T_place_item) (x79 : Int) (x107 : Int) (x108 : Int) (x109 : Int) : place_choose.j110 (k + 1) x1_ x2_ t58 l78 x79 x107 x108 x109 = (if ((l78.length : Int) + ((1 : Nat) : Int)) * 24 ≤ 140737488355328 then (place_choose.l80 k x1_ x2_ t58 (l78 ++ [(⟨x107, x108, x109⟩ : T_place_item)]) (w64 (x79 + 1))) else (none)) := by kernel_rfl
def place_choose.f (k : Nat) (x0_ : List T_api_Node) (x1_ : T_place_item) (x2_ : T_api_Step) (x3_ : Int) : Option (List T_place_item) := if x2_.f1 = 1 then ((topo_Zones.f k x0_).bind fun t12 => (place_choose.j42 k x1_ x2_ x3_ t12)) else (if x2_.f1 = 2 then ((topo_Racks.f k x0_ x1_.f0).bind fun t22 => (place_choose.j42 k x1_ x2_ x3_ t22)) else ((topo_Leaves.f k x0_ x1_.f0 x1_.f1).bind fun t30 => (place_choose.j42 k x1_ x2_ x3_ t30)))
def place_choose.Post (W F : World) (r : List T_place_item) (v : Value) (w' : World) : Prop := ∃ (F' : World) (RA0_0 : Option Addr) (rc0_0 : Nat), v = .slice RA0_0 r.length rc0_0 ∧ St W (mine W []) F w' F' [row T_place_item.k 154 (.slice RA0_0 r.length rc0_0) r]
set_option maxHeartbeats 4000000 in
set_option maxRecDepth 100000 in
theorem place_choose.calls (k : Nat) (x0_ : List T_api_Node) (x1_ : T_place_item) (x2_ : T_api_Step) (x3_ : Int) (A0_0 : Option Addr) (c0_0 : Nat) (r : List T_place_item) (W F : World) (hown : Sub F W) (g0_0 : Rd T_api_Node.k F A0_0 c0_0 x0_) (H : place_choose.f k x0_ x1_ x2_ x3_ = some r) :
    Calls Try.prog 81 #[.slice A0_0 x0_.length c0_0, .agg #[.int .i64 x1_.f0, .int .i64 x1_.f1, .int .i64 x1_.f2], .agg #[.int .i64 x2_.f0, .int .i64 x2_.f1, .int .i64 x2_.f2], .int .i64 x3_] W fun e w' => ∃ v, e = .returned v ∧ place_choose.Post W F r v w' := by
  have hS := St.start (Own.nil hown)
  unfold place_choose.f at H
  refine enter (n := 79) rfl rfl rfl (Nat.le_of_ble_eq_true rfl) (fun a hE => ?_)
  refine wp_seq_k fun K1 hK1 => ?_
  refine pl0 ?_
  refine ple hE (.bx (t := 154) hS [.int .i64 x1_.f0, .int .i64 x1_.f1, .int .i64 x1_.f2]) ?_
  rintro _ u3 a ⟨b2, rfl, hb2, hS, hg⟩ hE
  refine ple hE (.bx (t := 148) hS [.int .i64 x2_.f0, .int .i64 x2_.f1, .int .i64 x2_.f2]) ?_
  rintro _ u5 a ⟨b4, rfl, hb4, hS, hg⟩ hE
  refine plc hE (.r 2 1 .nil) (fun a hE => ?_)
  refine pld ?_
  refine hK1 _ _ ?_
  refine wp_seq_k fun K6 hK6 => ?_
  refine pl0 ?_
  refine plc hE (.r 0 1 .nil) (fun a hE => ?_)
  refine pld ?_
  refine hK6 _ _ ?_
  refine wp_seq_k fun K7 hK7 => ?_
  have J45 : ∀ kq43, kq43 ≤ k → ∀ (G : Nat → Value) (A38 : Option Addr) (c39 : Nat) (l40 : List T_api_Choice) (F41 : World) (a : Act) (w' : World), Env 79 G a → At G [(3, .int .i64 x3_), (5, .pointer (some ⟨b2, 0, none⟩)), (6, .pointer (some ⟨b4, 0, none⟩)), (9, .slice A38 l40.length c39)] → St W (mine W []) F w' F41 [box b4 #[.int .i64 x2_.f0, .int .i64 x2_.f1, .int .i64 x2_.f2] 148, box b2 #[.int .i64 x1_.f0, .int .i64 x1_.f1, .int .i64 x1_.f2] 154, row T_api_Choice.k 106 (.slice A38 l40.length c39) l40] → place_choose.j42 kq43 x1_ x2_ x3_ l40 = some r → K7 a w' := by
    intro kq43 hkq G A38 c39 l40 F41 a u46 hE hA hS H
    cases kq43 with
    | zero => cases (show none = some r from H)
    | succ k44 =>
      rw [place_choose.j42_s] at H
      obtain ⟨J, hE⟩ := hE.at hA
      refine hK7 _ _ ?_
      refine wp_seq_k fun K47 hK47 => ?_
      refine pl0 ?_
      have hb4 := hS.blk_at (i := 0) rfl
      have hb2 := hS.blk_at (i := 1) rfl
      refine plc hE (.r 0 3 <| .b 3 1 hb4 <| .r 4 2 <| .b 6 0 hb2 <| .r 7 2 <| .b 9 1 hb2 <| .r 10 1 <| .nil) (fun a hE => ?_)
      refine ple hE (.lit (d := (Kn.int .u64)) (e := 22) hS [(IntKind.u64.wrap x2_.f1), (IntKind.u64.wrap x1_.f0), (IntKind.u64.wrap x1_.f1)] (.cons rfl <| .cons rfl <| .cons rfl .nil)) ?_
      rintro _ u48 a ⟨A49, c50, rfl, hS, hg⟩ hE
      obtain ⟨t53, h54, H⟩ := Option.bind_eq_some_iff.mp H
      refine ple hE (.cl en14 (mix_Fold.calls k44 (IntKind.u64.wrap x3_) [(IntKind.u64.wrap x2_.f1), (IntKind.u64.wrap x1_.f0), (IntKind.u64.wrap x1_.f1)] _ _ _ _ _ (Sub.refl _) (hS.rd_at (i := 0) rfl) h54)) ?_
      rintro _ u52 a ⟨_, rfl, hC⟩ hE
      replace hS := hS.lent hC
      refine plc hE (.r 13 1 .nil) (fun a hE => ?_)
      replace hS := hS.front 3 rfl
      obtain ⟨F55, hs, g56, hS⟩ := hS.give
      obtain ⟨t58, h59, H⟩ := Option.bind_eq_some_iff.mp H
      refine ple hE (.cl en104 (draw_Order.calls k44 t53 l40 _ _ _ _ _ hS.own.sub g56 h59)) ?_
      rintro _ u57 a ⟨F60, A61, c62, rfl, hC⟩ hE
      have hs := hC.sub
      replace hS := hS.called (X := []) hC
      replace g56 := g56.mono hs
      refine plc hE (.r 15 1 .nil) (fun a hE => ?_)
      refine pld ?_
      refine hK47 _ _ ?_
      refine wp_seq_k fun K65 hK65 => ?_
      refine pl0 ?_
      refine plc hE (.r 0 1 .nil) (fun a hE => ?_)
      refine pld ?_
      refine hK65 _ _ ?_
      refine wp_seq_k fun K66 hK66 => ?_
      refine wp_seq_k fun K67 hK67 => ?_
      refine pl0 ?_
      have hb4 := hS.blk_at (i := 2) rfl
      obtain ⟨F68, hs, g69, hS⟩ := hS.give
      replace g56 := g56.mono hs
      by_cases c70 : 0 ≤ (if (t58.length : Int) < x2_.f2 then (t58.length : Int) else x2_.f2) ∧ (if (t58.length : Int) < x2_.f2 then (t58.length : Int) else x2_.f2) ≤ (t58.length : Int)
      rotate_left
      · rw [if_neg c70] at H; cases H
      rw [if_pos c70] at H
      obtain ⟨A71, c72, g73, hv74⟩ := slK_run (P := Try.prog) g69 ⟨Int.le_refl _, c70.1, c70.2⟩ sz3
      refine plc hE (.r 0 2 <| .b 2 2 hb4 <| .r 3 3 <| .y 6 (hv74 (by kernel_rfl)) <| .r 7 2 <| .nil) (fun a hE => ?_)
      refine pld ?_
      refine hK67 _ _ ?_
      refine wp_block ?_
      replace hS := hS.nilrow T_place_item.k 154
      replace hS := hS.front 1 rfl
      replace hS := hS.tail
      replace hS := hS.front 2 rfl
      replace hS := hS.front 2 rfl
      refine wp_loop_ghost (fun kq81 a w' => ∃ (G : Nat → Value) (A76 : Option Addr) (c77 : Nat) (l78 : List T_place_item) (x79 : Int), kq81 ≤ k44 ∧ Env 79 G a ∧ At G [(5, .pointer (some ⟨b2, 0, none⟩)), (6, .pointer (some ⟨b4, 0, none⟩)), (11, .slice A76 l78.length c77), (54, .slice A71 ((cutl t58 0 (if (t58.length : Int) < x2_.f2 then (t58.length : Int) else x2_.f2)).length) c72), (55, .int .i64 ((cutl t58 0 (if (t58.length : Int) < x2_.f2 then (t58.length : Int) else x2_.f2)).length : Int)), (56, .int .i64 x79)] ∧ St W (mine W []) F w' F68 [box b4 #[.int .i64 x2_.f0, .int .i64 x2_.f1, .int .i64 x2_.f2] 148, box b2 #[.int .i64 x1_.f0, .int .i64 x1_.f1, .int .i64 x1_.f2] 154, row T_place_item.k 154 (.slice A76 l78.length c77) l78] ∧  place_choose.l80 kq81 x1_ x2_ t58 l78 x79 = some r) k44 ⟨_, none, 0, [], 0, Nat.le_refl _, hE, .of, hS, H⟩ ?_
      rintro kq81 a u83 ⟨G, A76, c77, l78, x79, hkq, hE, hA, hS, H⟩
      cases kq81 with
      | zero => cases (show none = some r from H)
      | succ k82 =>
        rw [place_choose.l80_s] at H
        obtain ⟨J, hE⟩ := hE.at hA
        refine wp_seq_k fun K84 hK84 => ?_
        refine pl0 ?_
        refine plc hE (.r 0 1 .nil) (fun a hE => ?_)
        refine pld ?_
        refine hK84 _ _ ?_
        refine wp_seq_k fun K85 hK85 => ?_
        by_cases c86 : x79 < ((cutl t58 0 (if (t58.length : Int) < x2_.f2 then (t58.length : Int) else x2_.f2)).length : Int)
        · rw [if_pos c86] at H
          replace hE := hE.kt 57 c86
          refine ct hE ?_
          refine wp_skip ?_
          refine hK85 _ _ ?_
          refine wp_seq_k fun K87 hK87 => ?_
          refine wp_block ?_
          refine wp_seq_k fun K88 hK88 => ?_
          refine pl0 ?_
          by_cases c89 : 0 ≤ x79 ∧ x79 < ((cutl t58 0 (if (t58.length : Int) < x2_.f2 then (t58.length : Int) else x2_.f2)).length : Int)
          rotate_left
          · rw [if_neg c89] at H; cases H
          rw [if_pos c89] at H
          have hE_ := hE
          obtain ⟨ad90, rfl⟩ := g73.addr c89.1 c89.2
          replace hE := hE_
          obtain ⟨cs92, rfl, hc93⟩ := g73.el 0 x79 c89.1 c89.2
          refine plc hE (.x 0 c89 <| .c 1 (hS.fc hc93 0) <| .r 2 1 <| .nil) (fun a hE => ?_)
          refine pld ?_
          refine hK88 _ _ ?_
          refine wp_seq_k fun K94 hK94 => ?_
          refine pl0 ?_
          have hb2 := hS.blk_at (i := 1) rfl
          refine plc hE (.bn 0 0 3 hb2 .nil) (fun a hE => ?_)
          refine ple hE (.al (t := 154) hS [.int .i64 0, .int .i64 0, .int .i64 0]) ?_
          rintro _ u96 a ⟨b95, rfl, hb95, hS, hg⟩ hE
          refine ple hE (.sto hS [.int .i64 x1_.f0, .int .i64 x1_.f1, .int .i64 x1_.f2]) ?_
          rintro _ u97 a ⟨rfl, hb95, hS, hz⟩ hE
          refine pld ?_
          refine hK94 _ _ ?_
          refine wp_seq_k fun K98 hK98 => ?_
          have J113 : ∀ kq111, kq111 ≤ k82 → ∀ (G : Nat → Value) (x107 : Int) (x108 : Int) (x109 : Int) (a : Act) (w' : World), Env 79 G a → At G [(5, .pointer (some ⟨b2, 0, none⟩)), (6, .pointer (some ⟨b4, 0, none⟩)), (11, .slice A76 l78.length c77), (14, .pointer (some ⟨b95, 0, none⟩)), (54, .slice (some ad90) ((cutl t58 0 (if (t58.length : Int) < x2_.f2 then (t58.length : Int) else x2_.f2)).length) c72), (55, .int .i64 ((cutl t58 0 (if (t58.length : Int) < x2_.f2 then (t58.length : Int) else x2_.f2)).length : Int)), (56, .int .i64 x79)] → St W (mine W []) F w' F68 [box b95 #[.int .i64 x107, .int .i64 x108, .int .i64 x109] 154, box b4 #[.int .i64 x2_.f0, .int .i64 x2_.f1, .int .i64 x2_.f2] 148, box b2 #[.int .i64 x1_.f0, .int .i64 x1_.f1, .int .i64 x1_.f2] 154, row T_place_item.k 154 (.slice A76 l78.length c77) l78] → place_choose.j110 kq111 x1_ x2_ t58 l78 x79 x107 x108 x109 = some r → K98 a w' := by
            intro kq111 hkq G x107 x108 x109 a u114 hE hA hS H
            cases kq111 with
            | zero => cases (show none = some r from H)
            | succ k112 =>
              rw [place_choose.j110_s] at H
              obtain ⟨J, hE⟩ := hE.at hA
              refine hK98 _ _ ?_
              refine pl0 ?_
              have hb95 := hS.blk_at (i := 0) rfl
              refine plc hE (.r 0 1 <| .bn 1 0 3 hb95 <| .nil) (fun a hE => ?_)
              refine ple hE (.lit (d := T_place_item.k) (e := 154) hS [(⟨x107, x108, x109⟩ : T_place_item)] (.cons rfl .nil)) ?_
              rintro _ u115 a ⟨A116, c117, rfl, hS, hg⟩ hE
              by_cases c119 : ((l78.length : Int) + ((1 : Nat) : Int)) * 24 ≤ 140737488355328
              rotate_left
              · rw [if_neg c119] at H; cases H
              rw [if_pos c119] at H
              replace hS := hS.front 4 rfl
              refine ple hE (.ap (d := T_place_item.k) 24 hS (row_src (hS.row_at (i := 1) rfl)) c119 c117) ?_
              rintro _ u122 a ⟨A120, c121, rfl, hS, hz⟩ hE
              refine plc hE (.r 4 1 .nil) (fun a hE => ?_)
              refine pld ?_
              refine block_n ?_
              refine hK87 _ _ ?_
              refine pl0 ?_
              refine plc hE (.r 0 2 .nil) (fun a hE => ?_)
              refine pld ?_
              replace hS := hS.front 1 rfl
              replace hS := hS.tail
              replace hS := hS.front 1 rfl
              replace hS := hS.tail
              replace hS := hS.front 2 rfl
              replace hS := hS.front 2 rfl
              exact then_n ⟨k112, by omega, _, A120, c121, (l78 ++ [(⟨x107, x108, x109⟩ : T_place_item)]), (w64 (x79 + 1)), by omega, hE, .of, hS, H⟩
          refine wp_seq_k fun K99 hK99 => ?_
          refine pl0 ?_
          have hb4 := hS.blk_at (i := 1) rfl
          refine plc hE (.r 0 1 <| .b 1 1 hb4 <| .nil) (fun a hE => ?_)
          refine pld ?_
          refine hK99 _ _ ?_
          refine wp_block ?_
          refine wp_seq_k fun K100 hK100 => ?_
          refine pl0 ?_
          refine plc hE (.r 0 2 .nil) (fun a hE => ?_)
          refine pld ?_
          refine hK100 _ _ ?_
          by_cases c101 : x2_.f1 = 1
          · rw [if_pos c101] at H
            replace hE := hE.kt 65 c101
            refine ct hE ?_
            refine pl0 ?_
            refine plc hE (.r 0 2 .nil) (fun a hE => ?_)
            refine ple hE (.sto hS [.int .i64 (nth 0 (cutl t58 0 (if (t58.length : Int) < x2_.f2 then (t58.length : Int) else x2_.f2)) x79), .int .i64 x1_.f1, .int .i64 x1_.f2]) ?_
            rintro _ u102 a ⟨rfl, hb95, hS, hz⟩ hE
            refine pld ?_
            refine block_n ?_
            exact J113 _ (by omega) _ (nth 0 (cutl t58 0 (if (t58.length : Int) < x2_.f2 then (t58.length : Int) else x2_.f2)) x79) x1_.f1 x1_.f2 _ _ hE .of hS H
          · rw [if_neg c101] at H
            replace hE := hE.kf 65 c101
            refine cf hE ?_
            refine wp_seq_k fun K103 hK103 => ?_
            refine pl0 ?_
            refine plc hE (.r 0 2 .nil) (fun a hE => ?_)
            refine pld ?_
            refine hK103 _ _ ?_
            by_cases c104 : x2_.f1 = 2
            · rw [if_pos c104] at H
              replace hE := hE.kt 69 c104
              refine ct hE ?_
              refine pl0 ?_
              refine plc hE (.r 0 2 .nil) (fun a hE => ?_)
              refine ple hE (.sto hS [.int .i64 x1_.f0, .int .i64 (nth 0 (cutl t58 0 (if (t58.length : Int) < x2_.f2 then (t58.length : Int) else x2_.f2)) x79), .int .i64 x1_.f2]) ?_
              rintro _ u105 a ⟨rfl, hb95, hS, hz⟩ hE
              refine pld ?_
              refine block_n ?_
              exact J113 _ (by omega) _ x1_.f0 (nth 0 (cutl t58 0 (if (t58.length : Int) < x2_.f2 then (t58.length : Int) else x2_.f2)) x79) x1_.f2 _ _ hE .of hS H
            · rw [if_neg c104] at H
              replace hE := hE.kf 69 c104
              refine cf hE ?_
              refine pl0 ?_
              refine plc hE (.r 0 2 .nil) (fun a hE => ?_)
              refine ple hE (.sto hS [.int .i64 x1_.f0, .int .i64 x1_.f1, .int .i64 (nth 0 (cutl t58 0 (if (t58.length : Int) < x2_.f2 then (t58.length : Int) else x2_.f2)) x79)]) ?_
              rintro _ u106 a ⟨rfl, hb95, hS, hz⟩ hE
              refine pld ?_
              refine block_n ?_
              exact J113 _ (by omega) _ x1_.f0 x1_.f1 (nth 0 (cutl t58 0 (if (t58.length : Int) < x2_.f2 then (t58.length : Int) else x2_.f2)) x79) _ _ hE .of hS H
        · rw [if_neg c86] at H
          replace hE := hE.kf 57 c86
          refine cf hE ?_
          refine wp_exit ?_
          refine hK66 _ _ ?_
          refine wp_seq_k fun K124 hK124 => ?_
          refine pl0 ?_
          refine plc hE (.r 0 2 .nil) (fun a hE => ?_)
          refine pld ?_
          refine hK124 _ _ ?_
          refine wp_ret ?_
          replace hS := hS.tail
          replace hS := hS.tail
          obtain rfl := Option.some.inj H
          exact rt1 hE ⟨_, rfl, _, _, _, rfl, hS⟩
  refine wp_seq_k fun K8 hK8 => ?_
  refine pl0 ?_
  refine plc hE (.r 0 1 <| .b 1 1 hb4 <| .nil) (fun a hE => ?_)
  refine pld ?_
  refine hK8 _ _ ?_
  refine wp_block ?_
  refine wp_seq_k fun K9 hK9 => ?_
  refine pl0 ?_
  refine plc hE (.r 0 2 .nil) (fun a hE => ?_)
  refine pld ?_
  refine hK9 _ _ ?_
  by_cases c10 : x2_.f1 = 1
  · rw [if_pos c10] at H
    replace hE := hE.kt 23 c10
    refine ct hE ?_
    refine pl0 ?_
    refine plc hE (.r 0 1 .nil) (fun a hE => ?_)
    obtain ⟨t12, h13, H⟩ := Option.bind_eq_some_iff.mp H
    refine ple hE (.cl en101 (topo_Zones.calls k x0_ _ _ _ _ _ hS.own.sub g0_0 h13)) ?_
    rintro _ u11 a ⟨F14, A15, c16, rfl, hC⟩ hE
    have hs := hC.sub
    replace hS := hS.called (X := []) hC
    replace g0_0 := g0_0.mono hs
    refine plc hE (.r 2 1 .nil) (fun a hE => ?_)
    refine pld ?_
    refine block_n ?_
    replace hS := hS.front 2 rfl
    replace hS := hS.front 2 rfl
    exact J45 _ (by omega) _ A15 c16 t12 F14 _ _ hE .of hS H
  · rw [if_neg c10] at H
    replace hE := hE.kf 23 c10
    refine cf hE ?_
    refine wp_seq_k fun K19 hK19 => ?_
    refine pl0 ?_
    refine plc hE (.r 0 2 .nil) (fun a hE => ?_)
    refine pld ?_
    refine hK19 _ _ ?_
    by_cases c20 : x2_.f1 = 2
    · rw [if_pos c20] at H
      replace hE := hE.kt 27 c20
      refine ct hE ?_
      refine pl0 ?_
      have hb2 := hS.blk_at (i := 1) rfl
      refine plc hE (.r 0 2 <| .b 2 0 hb2 <| .nil) (fun a hE => ?_)
      obtain ⟨t22, h23, H⟩ := Option.bind_eq_some_iff.mp H
      refine ple hE (.cl en102 (topo_Racks.calls k x0_ x1_.f0 _ _ _ _ _ hS.own.sub g0_0 h23)) ?_
      rintro _ u21 a ⟨F24, A25, c26, rfl, hC⟩ hE
      have hs := hC.sub
      replace hS := hS.called (X := []) hC
      replace g0_0 := g0_0.mono hs
      refine plc hE (.r 4 1 .nil) (fun a hE => ?_)
      refine pld ?_
      refine block_n ?_
      replace hS := hS.front 2 rfl
      replace hS := hS.front 2 rfl
      exact J45 _ (by omega) _ A25 c26 t22 F24 _ _ hE .of hS H
    · rw [if_neg c20] at H
      replace hE := hE.kf 27 c20
      refine cf hE ?_
      refine pl0 ?_
      have hb2 := hS.blk_at (i := 1) rfl
      refine plc hE (.r 0 2 <| .b 2 0 hb2 <| .r 3 1 <| .b 4 1 hb2 <| .nil) (fun a hE => ?_)
      obtain ⟨t30, h31, H⟩ := Option.bind_eq_some_iff.mp H
      refine ple hE (.cl en103 (topo_Leaves.calls k x0_ x1_.f0 x1_.f1 _ _ _ _ _ hS.own.sub g0_0 h31)) ?_
      rintro _ u29 a ⟨F32, A33, c34, rfl, hC⟩ hE
      have hs := hC.sub
      replace hS := hS.called (X := []) hC
      replace g0_0 := g0_0.mono hs
      refine plc hE (.r 6 1 .nil) (fun a hE => ?_)
      refine pld ?_
      refine block_n ?_
      replace hS := hS.front 2 rfl
      replace hS := hS.front 2 rfl
      exact J45 _ (by omega) _ A33 c34 t30 F32 _ _ hE .of hS H

/-! ### slices.Index[[]int,int]: function 105 -/
def slices_Index__int_int.l5 : Nat → List Int → Int → Int → Option Int
  | 0, _, _, _ => none
  | k + 1, x0_, x1_, x4 => if x4 < (x0_.length : Int) then (if 0 ≤ x4 ∧ x4 < (x0_.length : Int) then (if x1_ = (nth 0 x0_ x4) then (some x4) else (slices_Index__int_int.l5 k x0_ x1_ (w64 (x4 + 1)))) else (none)) else (some (-1))
theorem slices_Index__int_int.l5_s (k : Nat) (x0_ : List Int) (x1_ : Int) (x4 : Int) : slices_Index__int_int.l5 (k + 1) x0_ x1_ x4 = (if x4 < (x0_.length : Int) then (if 0 ≤ x4 ∧ x4 < (x0_.length : Int) then (if x1_ = (nth 0 x0_ x4) then (some x4) else (slices_Index__int_int.l5 k x0_ x1_ (w64 (x4 + 1)))) else (none)) else (some (-1))) := by kernel_rfl
def slices_Index__int_int.f (k : Nat) (x0_ : List Int) (x1_ : Int) : Option Int := slices_Index__int_int.l5 k x0_ x1_ 0
def slices_Index__int_int.Post (W F : World) (r : Int) (v : Value) (w' : World) : Prop := ∃ (F' : World), v = .int .i64 r ∧ St W (mine W []) F w' F' []
set_option maxHeartbeats 4000000 in
set_option maxRecDepth 100000 in
theorem slices_Index__int_int.calls (k : Nat) (x0_ : List Int) (x1_ : Int) (A0_0 : Option Addr) (c0_0 : Nat) (r : Int) (W F : World) (hown : Sub F W) (g0_0 : Rd (Kn.int .i64) F A0_0 c0_0 x0_) (H : slices_Index__int_int.f k x0_ x1_ = some r) :
    Calls Try.prog 105 #[.slice A0_0 x0_.length c0_0, .int .i64 x1_] W fun e w' => ∃ v, e = .returned v ∧ slices_Index__int_int.Post W F r v w' := by
  have hS := St.start (Own.nil hown)
  unfold slices_Index__int_int.f at H
  refine enter (n := 19) rfl rfl rfl (Nat.le_of_ble_eq_true rfl) (fun a hE => ?_)
  refine wp_seq_k fun K1 hK1 => ?_
  refine pl0 ?_
  refine plc hE (.r 0 1 .nil) (fun a hE => ?_)
  refine pld ?_
  refine hK1 _ _ ?_
  refine wp_seq_k fun K2 hK2 => ?_
  refine wp_seq_k fun K3 hK3 => ?_
  refine pl0 ?_
  refine plc hE (.r 0 3 .nil) (fun a hE => ?_)
  refine pld ?_
  refine hK3 _ _ ?_
  refine wp_block ?_
  refine wp_loop_ghost (fun kq6 a w' => ∃ (G : Nat → Value) (x4 : Int), kq6 ≤ k ∧ Env 19 G a ∧ At G [(0, .slice A0_0 x0_.length c0_0), (1, .int .i64 x1_), (7, .int .i64 (x0_.length : Int)), (8, .int .i64 x4)] ∧ St W (mine W []) F w' F [] ∧  slices_Index__int_int.l5 kq6 x0_ x1_ x4 = some r) k ⟨_, 0, Nat.le_refl _, hE, .of, hS, H⟩ ?_
  rintro kq6 a u8 ⟨G, x4, hkq, hE, hA, hS, H⟩
  cases kq6 with
  | zero => cases (show none = some r from H)
  | succ k7 =>
    rw [slices_Index__int_int.l5_s] at H
    obtain ⟨J, hE⟩ := hE.at hA
    refine wp_seq_k fun K9 hK9 => ?_
    refine pl0 ?_
    refine plc hE (.r 0 1 .nil) (fun a hE => ?_)
    refine pld ?_
    refine hK9 _ _ ?_
    refine wp_seq_k fun K10 hK10 => ?_
    by_cases c11 : x4 < (x0_.length : Int)
    · rw [if_pos c11] at H
      replace hE := hE.kt 9 c11
      refine ct hE ?_
      refine wp_skip ?_
      refine hK10 _ _ ?_
      refine wp_seq_k fun K12 hK12 => ?_
      refine wp_block ?_
      refine wp_seq_k fun K13 hK13 => ?_
      refine pl0 ?_
      refine plc hE (.r 0 2 .nil) (fun a hE => ?_)
      refine pld ?_
      refine hK13 _ _ ?_
      refine wp_seq_k fun K14 hK14 => ?_
      refine pl0 ?_
      by_cases c15 : 0 ≤ x4 ∧ x4 < (x0_.length : Int)
      rotate_left
      · rw [if_neg c15] at H; cases H
      rw [if_pos c15] at H
      have hE_ := hE
      obtain ⟨ad16, rfl⟩ := g0_0.addr c15.1 c15.2
      replace hE := hE_
      obtain ⟨cs18, rfl, hc19⟩ := g0_0.el 0 x4 c15.1 c15.2
      refine plc hE (.r 0 3 <| .x 3 c15 <| .c 4 (hS.fc hc19 0) <| .r 5 1 <| .nil) (fun a hE => ?_)
      refine pld ?_
      refine hK14 _ _ ?_
      by_cases c20 : x1_ = (nth 0 x0_ x4)
      · rw [if_pos c20] at H
        replace hE := hE.kt 16 c20
        refine ct hE ?_
        refine wp_seq_k fun K21 hK21 => ?_
        refine pl0 ?_
        refine plc hE (.r 0 2 .nil) (fun a hE => ?_)
        refine pld ?_
        refine hK21 _ _ ?_
        refine wp_ret (block_ret (then_ret (then_ret (block_ret (then_ret ?_)))))
        obtain rfl := Option.some.inj H
        exact rt1 hE ⟨_, rfl, _, rfl, hS⟩
      · rw [if_neg c20] at H
        replace hE := hE.kf 16 c20
        refine cf hE ?_
        refine wp_skip ?_
        refine block_n ?_
        refine hK12 _ _ ?_
        refine pl0 ?_
        refine plc hE (.r 0 2 .nil) (fun a hE => ?_)
        refine pld ?_
        exact then_n ⟨k7, by omega, _, (w64 (x4 + 1)), by omega, hE, .of, hS, H⟩
    · rw [if_neg c11] at H
      replace hE := hE.kf 9 c11
      refine cf hE ?_
      refine wp_exit ?_
      refine hK2 _ _ ?_
      refine wp_seq_k fun K22 hK22 => ?_
      refine pl0 ?_
      refine plc hE (.r 0 1 .nil) (fun a hE => ?_)
      refine pld ?_
      refine hK22 _ _ ?_
      refine wp_ret ?_
      obtain rfl := Option.some.inj H
      exact rt1 hE ⟨_, rfl, _, rfl, hS⟩

/-! ### slices.Contains[[]int,int]: function 82 -/
def slices_Contains__int_int.f (k : Nat) (x0_ : List Int) (x1_ : Int) : Option Bool := (slices_Index__int_int.f k x0_ x1_).bind fun t4 => (some (decide (t4 ≥ 0)))
def slices_Contains__int_int.Post (W F : World) (r : Bool) (v : Value) (w' : World) : Prop := ∃ (F' : World), v = .bool r ∧ St W (mine W []) F w' F' []
set_option maxHeartbeats 4000000 in
set_option maxRecDepth 100000 in
theorem slices_Contains__int_int.calls (k : Nat) (x0_ : List Int) (x1_ : Int) (A0_0 : Option Addr) (c0_0 : Nat) (r : Bool) (W F : World) (hown : Sub F W) (g0_0 : Rd (Kn.int .i64) F A0_0 c0_0 x0_) (H : slices_Contains__int_int.f k x0_ x1_ = some r) :
    Calls Try.prog 82 #[.slice A0_0 x0_.length c0_0, .int .i64 x1_] W fun e w' => ∃ v, e = .returned v ∧ slices_Contains__int_int.Post W F r v w' := by
  have hS := St.start (Own.nil hown)
  unfold slices_Contains__int_int.f at H
  refine enter (n := 9) rfl rfl rfl (Nat.le_of_ble_eq_true rfl) (fun a hE => ?_)
  refine wp_seq_k fun K1 hK1 => ?_
  refine pl0 ?_
  refine plc hE (.r 0 1 .nil) (fun a hE => ?_)
  refine pld ?_
  refine hK1 _ _ ?_
  refine wp_seq_k fun K2 hK2 => ?_
  refine pl0 ?_
  refine plc hE (.r 0 2 .nil) (fun a hE => ?_)
  obtain ⟨t4, h5, H⟩ := Option.bind_eq_some_iff.mp H
  refine ple hE (.cl en105 (slices_Index__int_int.calls k x0_ x1_ _ _ _ _ _ hS.own.sub g0_0 h5)) ?_
  rintro _ u3 a ⟨_, rfl, hC⟩ hE
  replace hS := hS.lent hC
  refine plc hE (.r 3 2 .nil) (fun a hE => ?_)
  refine pld ?_
  refine hK2 _ _ ?_
  refine wp_ret ?_
  obtain rfl := Option.some.inj H
  exact rt1 hE ⟨_, rfl, _, rfl, hS⟩

/-! ### windrose/place.Run: function 42 -/
mutual
def place_Run.j16 : Nat → List T_api_Node → List T_api_Step → Int → Int → Bool → Option ((List Int) × Int)
  | 0, _, _, _, _, _ => none
  | k + 1, x0_, x1_, x2_, x3_, y15 => if y15 = true then (some ([], 1)) else (place_Run.l38 k x0_ x1_ x2_ x3_ [] [] 0)
def place_Run.l38 : Nat → List T_api_Node → List T_api_Step → Int → Int → List T_place_item → List Int → Int → Option ((List Int) × Int)
  | 0, _, _, _, _, _, _, _ => none
  | k + 1, x0_, x1_, x2_, x3_, l32, l35, x36 => if x36 < (x1_.length : Int) then (if 0 ≤ x36 ∧ x36 < (x1_.length : Int) then (if (nth T_api_Step.z x1_ x36).f0 = 1 then (place_Run.l38 k x0_ x1_ x2_ x3_ [(⟨0, 0, 0⟩ : T_place_item)] l35 (w64 (x36 + 1))) else (if (nth T_api_Step.z x1_ x36).f0 = 2 then (place_Run.l73 k x0_ x1_ x2_ x3_ l32 l35 x36 [] 0) else (place_Run.l111 k x0_ x1_ x2_ x3_ l32 x36 l35 0))) else (none)) else (some (l35, 0))
def place_Run.l73 : Nat → List T_api_Node → List T_api_Step → Int → Int → List T_place_item → List Int → Int → List T_place_item → Int → Option ((List Int) × Int)
  | 0, _, _, _, _, _, _, _, _, _ => none
  | k + 1, x0_, x1_, x2_, x3_, l32, l35, x36, l70, x71 => if x71 < (l32.length : Int) then (if 0 ≤ x71 ∧ x71 < (l32.length : Int) then ((place_choose.f k x0_ (⟨(nth T_place_item.z l32 x71).f0, (nth T_place_item.z l32 x71).f1, (nth T_place_item.z l32 x71).f2⟩ : T_place_item) (⟨(nth T_api_Step.z x1_ x36).f0, (nth T_api_Step.z x1_ x36).f1, (nth T_api_Step.z x1_ x36).f2⟩ : T_api_Step) x2_).bind fun t92 => (if ((l70.length : Int) + (t92.length : Int)) * 24 ≤ 140737488355328 then (place_Run.l73 k x0_ x1_ x2_ x3_ l32 l35 x36 (l70 ++ t92) (w64 (x71 + 1))) else (none))) else (none)) else (place_Run.l38 k x0_ x1_ x2_ x3_ l70 l35 (w64 (x36 + 1)))
def place_Run.l111 : Nat → List T_api_Node → List T_api_Step → Int → Int → List T_place_item → Int → List Int → Int → Option ((List Int) × Int)
  | 0, _, _, _, _, _, _, _, _ => none
  | k + 1, x0_, x1_, x2_, x3_, l32, x36, l109, x110 => if x110 < (l32.length : Int) then (if 0 ≤ x110 ∧ x110 < (l32.length : Int) then (if (l109.length : Int) < x3_ then ((slices_Contains__int_int.f k l109 ((nth T_place_item.z l32 x110).f2)).bind fun t132 => (place_Run.j135 k x0_ x1_ x2_ x3_ l32 x36 l109 x110 (!t132))) else (place_Run.j135 k x0_ x1_ x2_ x3_ l32 x36 l109 x110 false)) else (none)) else (place_Run.l38 k x0_ x1_ x2_ x3_ [] l109 (w64 (x36 + 1)))
def place_Run.j135 : Nat → List T_api_Node → List T_api_Step → Int → Int → List T_place_item → Int → List Int → Int → Bool → Option ((List Int) × Int)
  | 0, _, _, _, _, _, _, _, _, _ => none
  | k + 1, x0_, x1_, x2_, x3_, l32, x36, l109, x110, y134 => if y134 = true then (if ((l109.length : Int) + ((1 : Nat) : Int)) * 8 ≤ 140737488355328 then (place_Run.l111 k x0_ x1_ x2_ x3_ l32 x36 (l109 ++ [(nth T_place_item.z l32 x110).f2]) (w64 (x110 + 1))) else (none)) else (place_Run.l111 k x0_ x1_ x2_ x3_ l32 x36 l109 (w64 (x110 + 1)))
end
theorem place_Run.j16_s (k : Nat) (x0_ : List T_api_Node) (x1_ : List T_api_Step) (x2_ : Int) (x3_ : Int) (y15 : Bool) : place_Run.j16 (k + 1) x0_ x1_ x2_ x3_ y15 = (if y15 = true then (some ([], 1)) else (place_Run.l38 k x0_ x1_ x2_ x3_ [] [] 0)) := by kernel_rfl
theorem place_Run.l38_s (k : Nat) (x0_ : List T_api_Node) (x1_ : List T_api_Step) (x2_ : Int) (x3_ : Int) (l32 : List T_place_item) (l35 : List Int) (x36 : Int) : place_Run.l38 (k + 1) x0_ x1_ x2_ x3_ l32 l35 x36 = (if x36 < (x1_.length : Int) then (if 0 ≤ x36 ∧ x36 < (x1_.length : Int) then (if (nth T_api_Step.z x1_ x36).f0 = 1 then (place_Run.l38 k x0_ x1_ x2_ x3_ [(⟨0, 0, 0⟩ : T_place_item)] l35 (w64 (x36 + 1))) else (if (nth T_api_Step.z x1_ x36).f0 = 2 then (place_Run.l73 k x0_ x1_ x2_ x3_ l32 l35 x36 [] 0) else (place_Run.l111 k x0_ x1_ x2_ x3_ l32 x36 l35 0))) else (none)) else (some (l35, 0))) := by kernel_rfl
theorem place_Run.l73_s (k : Nat) (x0_ : List T_api_Node) (x1_ : List T_api_Step) (x2_ : Int) (x3_ : Int) (l32 : List T_place_item) (l35 : List Int) (x36 : Int) (l70 : List T_place_item) (x71 : Int) : place_Run.l73 (k + 1) x0_ x1_ x2_ x3_ l32 l35 x36 l70 x71 = (if x71 < (l32.length : Int) then (if 0 ≤ x71 ∧ x71 < (l32.length : Int) then ((place_choose.f k x0_ (⟨(nth T_place_item.z l32 x71).f0, (nth T_place_item.z l32 x71).f1, (nth T_place_item.z l32 x71).f2⟩ : T_place_item) (⟨(nth T_api_Step.z x1_ x36).f0, (nth T_api_Step.z x1_ x36).f1, (nth T_api_Step.z x1_ x36).f2⟩ : T_api_Step) x2_).bind fun t92 => (if ((l70.length : Int) + (t92.length : Int)) * 24 ≤ 140737488355328 then (place_Run.l73 k x0_ x1_ x2_ x3_ l32 l35 x36 (l70 ++ t92) (w64 (x71 + 1))) else (none))) else (none)) else (place_Run.l38 k x0_ x1_ x2_ x3_ l70 l35 (w64 (x36 + 1)))) := by kernel_rfl
theorem place_Run.l111_s (k : Nat) (x0_ : List T_api_Node) (x1_ : List T_api_Step) (x2_ : Int) (x3_ : Int) (l32 : List T_place_item) (x36 : Int) (l109 : List Int) (x110 : Int) : place_Run.l111 (k + 1) x0_ x1_ x2_ x3_ l32 x36 l109 x110 = (if x110 < (l32.length : Int) then (if 0 ≤ x110 ∧ x110 < (l32.length : Int) then (if (l109.length : Int) < x3_ then ((slices_Contains__int_int.f k l109 ((nth T_place_item.z l32 x110).f2)).bind fun t132 => (place_Run.j135 k x0_ x1_ x2_ x3_ l32 x36 l109 x110 (!t132))) else (place_Run.j135 k x0_ x1_ x2_ x3_ l32 x36 l109 x110 false)) else (none)) else (place_Run.l38 k x0_ x1_ x2_ x3_ [] l109 (w64 (x36 + 1)))) := by kernel_rfl
theorem place_Run.j135_s (k : Nat) (x0_ : List T_api_Node) (x1_ : List T_api_Step) (x2_ : Int) (x3_ : Int) (l32 : List T_place_item) (x36 : Int) (l109 : List Int) (x110 : Int) (y134 : Bool) : place_Run.j135 (k + 1) x0_ x1_ x2_ x3_ l32 x36 l109 x110 y134 = (if y134 = true then (if ((l109.length : Int) + ((1 : Nat) : Int)) * 8 ≤ 140737488355328 then (place_Run.l111 k x0_ x1_ x2_ x3_ l32 x36 (l109 ++ [(nth T_place_item.z l32 x110).f2]) (w64 (x110 + 1))) else (none)) else (place_Run.l111 k x0_ x1_ x2_ x3_ l32 x36 l109 (w64 (x110 + 1)))) := by kernel_rfl
def place_Run.f (k : Nat) (x0_ : List T_api_Node) (x1_ : List T_api_Step) (x2_ : Int) (x3_ : Int) : Option ((List Int) × Int) := (topo_Check.f k x0_).bind fun t5 => (if t5 = 0 then ((place_Check.f k x1_).bind fun t9 => (if t9 = 0 then (if x2_ < 0 then (place_Run.j16 k x0_ x1_ x2_ x3_ true) else (if x2_ ≥ 8 then (place_Run.j16 k x0_ x1_ x2_ x3_ true) else (if x3_ < 1 then (place_Run.j16 k x0_ x1_ x2_ x3_ true) else (place_Run.j16 k x0_ x1_ x2_ x3_ (decide (x3_ > 3)))))) else (place_Run.j16 k x0_ x1_ x2_ x3_ true))) else (place_Run.j16 k x0_ x1_ x2_ x3_ true))
def place_Run.Post (W F : World) (r : (List Int) × Int) (v : Value) (w' : World) : Prop := ∃ (F' : World) (RA0_0 : Option Addr) (rc0_0 : Nat), v = .tuple #[.slice RA0_0 r.1.length rc0_0, .int .i64 r.2] ∧ St W (mine W []) F w' F' [row (Kn.int .i64) 3 (.slice RA0_0 r.1.length rc0_0) r.1]
set_option maxHeartbeats 4000000 in
set_option maxRecDepth 100000 in
theorem place_Run.calls (k : Nat) (x0_ : List T_api_Node) (x1_ : List T_api_Step) (x2_ : Int) (x3_ : Int) (A0_0 : Option Addr) (c0_0 : Nat) (A1_0 : Option Addr) (c1_0 : Nat) (r : (List Int) × Int) (W F : World) (hown : Sub F W) (g0_0 : Rd T_api_Node.k F A0_0 c0_0 x0_) (g1_0 : Rd T_api_Step.k F A1_0 c1_0 x1_) (H : place_Run.f k x0_ x1_ x2_ x3_ = some r) :
    Calls Try.prog 42 #[.slice A0_0 x0_.length c0_0, .slice A1_0 x1_.length c1_0, .int .i64 x2_, .int .i64 x3_] W fun e w' => ∃ v, e = .returned v ∧ place_Run.Post W F r v w' := by
  have hS := St.start (Own.nil hown)
  unfold place_Run.f at H
  refine enter (n := 97) rfl rfl rfl (Nat.le_of_ble_eq_true rfl) (fun a hE => ?_)
  refine wp_seq_k fun K1 hK1 => ?_
  refine pl0 ?_
  refine plc hE (.r 0 2 .nil) (fun a hE => ?_)
  refine pld ?_
  refine hK1 _ _ ?_
  refine wp_seq_k fun K2 hK2 => ?_
  refine wp_seq_k fun K3 hK3 => ?_
  have J19 : ∀ kq17, kq17 ≤ k → ∀ (G : Nat → Value) (y15 : Bool) (a : Act) (w' : World), Env 97 G a → At G [(0, .slice A0_0 x0_.length c0_0), (1, .slice A1_0 x1_.length c1_0), (2, .int .i64 x2_), (3, .int .i64 x3_), (42, .bool y15)] → St W (mine W []) F w' F [] → place_Run.j16 kq17 x0_ x1_ x2_ x3_ y15 = some r → K3 a w' := by
    intro kq17 hkq G y15 a u20 hE hA hS H
    cases kq17 with
    | zero => cases (show none = some r from H)
    | succ k18 =>
      rw [place_Run.j16_s] at H
      obtain ⟨J, hE⟩ := hE.at hA
      refine hK3 _ _ ?_
      by_cases c21 : y15 = true
      · rw [if_pos c21] at H
        replace hE := hE.bt 42 c21
        refine ct hE ?_
        refine wp_seq_k fun K22 hK22 => ?_
        refine pl0 ?_
        refine plc hE (.r 0 2 .nil) (fun a hE => ?_)
        refine pld ?_
        refine hK22 _ _ ?_
        refine wp_ret (then_ret ?_)
        replace hS := hS.nilrow (Kn.int .i64) 3
        obtain rfl := Option.some.inj H
        exact rtN hE ⟨_, rfl, _, _, _, rfl, hS⟩
      · rw [if_neg c21] at H
        replace hE := hE.bf 42 c21
        refine cf hE ?_
        refine wp_skip ?_
        refine hK2 _ _ ?_
        refine wp_seq_k fun K24 hK24 => ?_
        refine pl0 ?_
        refine plc hE (.r 0 1 .nil) (fun a hE => ?_)
        refine pld ?_
        refine hK24 _ _ ?_
        refine wp_seq_k fun K25 hK25 => ?_
        refine pl0 ?_
        refine plc hE (.r 0 1 .nil) (fun a hE => ?_)
        refine pld ?_
        refine hK25 _ _ ?_
        refine wp_seq_k fun K26 hK26 => ?_
        refine wp_seq_k fun K27 hK27 => ?_
        refine pl0 ?_
        refine plc hE (.r 0 3 .nil) (fun a hE => ?_)
        refine pld ?_
        refine hK27 _ _ ?_
        refine wp_block ?_
        replace hS := hS.nilrow T_place_item.k 154
        replace hS := hS.nilrow (Kn.int .i64) 3
        replace hS := hS.front 1 rfl
        refine wp_loop_ghost (fun kq39 a w' => ∃ (G : Nat → Value) (A30 : Option Addr) (c31 : Nat) (l32 : List T_place_item) (A33 : Option Addr) (c34 : Nat) (l35 : List Int) (x36 : Int) (F37 : World), kq39 ≤ k18 ∧ Env 97 G a ∧ At G [(0, .slice A0_0 x0_.length c0_0), (2, .int .i64 x2_), (3, .int .i64 x3_), (10, .slice A30 l32.length c31), (11, .slice A33 l35.length c34), (43, .slice A1_0 x1_.length c1_0), (44, .int .i64 (x1_.length : Int)), (45, .int .i64 x36)] ∧ St W (mine W []) F w' F37 [row T_place_item.k 154 (.slice A30 l32.length c31) l32, row (Kn.int .i64) 3 (.slice A33 l35.length c34) l35] ∧ Rd T_api_Node.k F37 A0_0 c0_0 x0_ ∧ Rd T_api_Step.k F37 A1_0 c1_0 x1_ ∧  place_Run.l38 kq39 x0_ x1_ x2_ x3_ l32 l35 x36 = some r) k18 ⟨_, none, 0, [], none, 0, [], 0, F, Nat.le_refl _, hE, .of, hS, g0_0, g1_0, H⟩ ?_
        rintro kq39 a u41 ⟨G, A30, c31, l32, A33, c34, l35, x36, F37, hkq, hE, hA, hS, g0_0, g1_0, H⟩
        cases kq39 with
        | zero => cases (show none = some r from H)
        | succ k40 =>
          rw [place_Run.l38_s] at H
          obtain ⟨J, hE⟩ := hE.at hA
          refine wp_seq_k fun K42 hK42 => ?_
          refine pl0 ?_
          refine plc hE (.r 0 1 .nil) (fun a hE => ?_)
          refine pld ?_
          refine hK42 _ _ ?_
          refine wp_seq_k fun K43 hK43 => ?_
          by_cases c44 : x36 < (x1_.length : Int)
          · rw [if_pos c44] at H
            replace hE := hE.kt 46 c44
            refine ct hE ?_
            refine wp_skip ?_
            refine hK43 _ _ ?_
            refine wp_seq_k fun K45 hK45 => ?_
            refine wp_block ?_
            refine wp_seq_k fun K46 hK46 => ?_
            refine pl0 ?_
            by_cases c47 : 0 ≤ x36 ∧ x36 < (x1_.length : Int)
            rotate_left
            · rw [if_neg c47] at H; cases H
            rw [if_pos c47] at H
            have hE_ := hE
            obtain ⟨ad48, rfl⟩ := g1_0.addr c47.1 c47.2
            replace hE := hE_
            obtain ⟨cs50, rfl, hc51⟩ := g1_0.el T_api_Step.z x36 c47.1 c47.2
            refine plc hE (.x 0 c47 <| .cs 1 (hS.fcs hc51) <| .nil) (fun a hE => ?_)
            refine ple hE (.al (t := 148) hS [.int .i64 0, .int .i64 0, .int .i64 0]) ?_
            rintro _ u53 a ⟨b52, rfl, hb52, hS, hg⟩ hE
            refine ple hE (.sto hS [.int .i64 ((nth T_api_Step.z x1_ x36).f0), .int .i64 ((nth T_api_Step.z x1_ x36).f1), .int .i64 ((nth T_api_Step.z x1_ x36).f2)]) ?_
            rintro _ u54 a ⟨rfl, hb52, hS, hz⟩ hE
            refine pld ?_
            refine hK46 _ _ ?_
            refine wp_seq_k fun K55 hK55 => ?_
            refine pl0 ?_
            refine plc hE (.r 0 1 <| .b 1 0 hb52 <| .nil) (fun a hE => ?_)
            refine pld ?_
            refine hK55 _ _ ?_
            refine wp_block ?_
            refine wp_seq_k fun K56 hK56 => ?_
            refine pl0 ?_
            refine plc hE (.r 0 2 .nil) (fun a hE => ?_)
            refine pld ?_
            refine hK56 _ _ ?_
            by_cases c57 : (nth T_api_Step.z x1_ x36).f0 = 1
            · rw [if_pos c57] at H
              replace hE := hE.kt 74 c57
              refine ct hE ?_
              refine pl0 ?_
              refine plc hE (.r 0 1 .nil) (fun a hE => ?_)
              refine ple hE (.lit (d := T_place_item.k) (e := 154) hS [(⟨0, 0, 0⟩ : T_place_item)] (.cons rfl .nil)) ?_
              rintro _ u58 a ⟨A59, c60, rfl, hS, hg⟩ hE
              refine plc hE (.r 2 1 .nil) (fun a hE => ?_)
              refine pld ?_
              refine block_n ?_
              refine block_n ?_
              refine hK45 _ _ ?_
              refine pl0 ?_
              refine plc hE (.r 0 2 .nil) (fun a hE => ?_)
              refine pld ?_
              replace hS := hS.front 1 rfl
              replace hS := hS.tail
              replace hS := hS.front 1 rfl
              replace hS := hS.tail
              exact then_n ⟨k40, by omega, _, A59, c60, [(⟨0, 0, 0⟩ : T_place_item)], A33, c34, l35, (w64 (x36 + 1)), F37, by omega, hE, .of, hS, g0_0, g1_0, H⟩
            · rw [if_neg c57] at H
              replace hE := hE.kf 74 c57
              refine cf hE ?_
              refine wp_seq_k fun K62 hK62 => ?_
              refine pl0 ?_
              refine plc hE (.r 0 2 .nil) (fun a hE => ?_)
              refine pld ?_
              refine hK62 _ _ ?_
              by_cases c63 : (nth T_api_Step.z x1_ x36).f0 = 2
              · rw [if_pos c63] at H
                replace hE := hE.kt 78 c63
                refine ct hE ?_
                refine wp_seq_k fun K64 hK64 => ?_
                refine pl0 ?_
                refine plc hE (.r 0 1 .nil) (fun a hE => ?_)
                refine pld ?_
                refine hK64 _ _ ?_
                refine wp_seq_k fun K65 hK65 => ?_
                refine wp_seq_k fun K66 hK66 => ?_
                refine pl0 ?_
                refine plc hE (.r 0 3 .nil) (fun a hE => ?_)
                refine pld ?_
                refine hK66 _ _ ?_
                refine wp_block ?_
                replace hS := hS.nilrow T_place_item.k 154
                replace hS := hS.front 3 rfl
                replace hS := hS.front 3 rfl
                replace hS := hS.front 3 rfl
                refine wp_loop_ghost (fun kq74 a w' => ∃ (G : Nat → Value) (A68 : Option Addr) (c69 : Nat) (l70 : List T_place_item) (x71 : Int) (F72 : World), kq74 ≤ k40 ∧ Env 97 G a ∧ At G [(0, .slice A0_0 x0_.length c0_0), (2, .int .i64 x2_), (3, .int .i64 x3_), (11, .slice A33 l35.length c34), (13, .pointer (some ⟨b52, 0, none⟩)), (14, .slice A68 l70.length c69), (43, .slice (some ad48) x1_.length c1_0), (44, .int .i64 (x1_.length : Int)), (45, .int .i64 x36), (80, .slice A30 l32.length c31), (81, .int .i64 (l32.length : Int)), (82, .int .i64 x71)] ∧ St W (mine W []) F w' F72 [box b52 #[.int .i64 ((nth T_api_Step.z x1_ x36).f0), .int .i64 ((nth T_api_Step.z x1_ x36).f1), .int .i64 ((nth T_api_Step.z x1_ x36).f2)] 148, row T_place_item.k 154 (.slice A30 l32.length c31) l32, row (Kn.int .i64) 3 (.slice A33 l35.length c34) l35, row T_place_item.k 154 (.slice A68 l70.length c69) l70] ∧ Rd T_api_Node.k F72 A0_0 c0_0 x0_ ∧ Rd T_api_Step.k F72 (some ad48) c1_0 x1_ ∧  place_Run.l73 kq74 x0_ x1_ x2_ x3_ l32 l35 x36 l70 x71 = some r) k40 ⟨_, none, 0, [], 0, F37, Nat.le_refl _, hE, .of, hS, g0_0, g1_0, H⟩ ?_
                rintro kq74 a u76 ⟨G, A68, c69, l70, x71, F72, hkq, hE, hA, hS, g0_0, g1_0, H⟩
                cases kq74 with
                | zero => cases (show none = some r from H)
                | succ k75 =>
                  rw [place_Run.l73_s] at H
                  obtain ⟨J, hE⟩ := hE.at hA
                  refine wp_seq_k fun K77 hK77 => ?_
                  refine pl0 ?_
                  refine plc hE (.r 0 1 .nil) (fun a hE => ?_)
                  refine pld ?_
                  refine hK77 _ _ ?_
                  refine wp_seq_k fun K78 hK78 => ?_
                  by_cases c79 : x71 < (l32.length : Int)
                  · rw [if_pos c79] at H
                    replace hE := hE.kt 83 c79
                    refine ct hE ?_
                    refine wp_skip ?_
                    refine hK78 _ _ ?_
                    refine wp_seq_k fun K80 hK80 => ?_
                    refine wp_block ?_
                    refine wp_seq_k fun K81 hK81 => ?_
                    refine pl0 ?_
                    by_cases c82 : 0 ≤ x71 ∧ x71 < (l32.length : Int)
                    rotate_left
                    · rw [if_neg c82] at H; cases H
                    rw [if_pos c82] at H
                    have hr83 := hS.row_at (i := 1) rfl
                    have hE_ := hE
                    obtain ⟨b84, rfl⟩ := row_addr hr83 c82.1 c82.2
                    replace hE := hE_
                    have hr_ := hS.row_at (i := 1) rfl
                    obtain ⟨cs86, rfl, hc87⟩ := row_el hr_ T_place_item.z x71 c82.1 c82.2
                    refine plc hE (.x 0 c82 <| .cs 1 hc87 <| .nil) (fun a hE => ?_)
                    refine ple hE (.al (t := 154) hS [.int .i64 0, .int .i64 0, .int .i64 0]) ?_
                    rintro _ u89 a ⟨b88, rfl, hb88, hS, hg⟩ hE
                    refine ple hE (.sto hS [.int .i64 ((nth T_place_item.z l32 x71).f0), .int .i64 ((nth T_place_item.z l32 x71).f1), .int .i64 ((nth T_place_item.z l32 x71).f2)]) ?_
                    rintro _ u90 a ⟨rfl, hb88, hS, hz⟩ hE
                    refine pld ?_
                    refine hK81 _ _ ?_
                    refine pl0 ?_
                    have hb52 := hS.blk_at (i := 1) rfl
                    refine plc hE (.r 0 2 <| .bn 2 0 3 hb88 <| .bn 3 0 3 hb52 <| .r 4 1 <| .nil) (fun a hE => ?_)
                    obtain ⟨t92, h93, H⟩ := Option.bind_eq_some_iff.mp H
                    refine ple hE (.cl en81 (place_choose.calls k75 x0_ (⟨(nth T_place_item.z l32 x71).f0, (nth T_place_item.z l32 x71).f1, (nth T_place_item.z l32 x71).f2⟩ : T_place_item) (⟨(nth T_api_Step.z x1_ x36).f0, (nth T_api_Step.z x1_ x36).f1, (nth T_api_Step.z x1_ x36).f2⟩ : T_api_Step) x2_ _ _ _ _ _ hS.own.sub g0_0 h93)) ?_
                    rintro _ u91 a ⟨F94, A95, c96, rfl, hC⟩ hE
                    have hs := hC.sub
                    replace hS := hS.called (X := []) hC
                    replace g0_0 := g0_0.mono hs
                    replace g1_0 := g1_0.mono hs
                    by_cases c99 : ((l70.length : Int) + (t92.length : Int)) * 24 ≤ 140737488355328
                    rotate_left
                    · rw [if_neg c99] at H; cases H
                    rw [if_pos c99] at H
                    replace hS := hS.front 5 rfl
                    refine ple hE (.ap (d := T_place_item.k) 24 hS (row_src (hS.row_at (i := 1) rfl)) c99 c96) ?_
                    rintro _ u102 a ⟨A100, c101, rfl, hS, hz⟩ hE
                    refine plc hE (.r 7 1 .nil) (fun a hE => ?_)
                    refine pld ?_
                    refine block_n ?_
                    refine hK80 _ _ ?_
                    refine pl0 ?_
                    refine plc hE (.r 0 2 .nil) (fun a hE => ?_)
                    refine pld ?_
                    replace hS := hS.front 1 rfl
                    replace hS := hS.tail
                    replace hS := hS.front 1 rfl
                    replace hS := hS.tail
                    replace hS := hS.front 3 rfl
                    replace hS := hS.front 3 rfl
                    replace hS := hS.front 3 rfl
                    exact then_n ⟨k75, by omega, _, A100, c101, (l70 ++ t92), (w64 (x71 + 1)), F94, by omega, hE, .of, hS, g0_0, g1_0, H⟩
                  · rw [if_neg c79] at H
                    replace hE := hE.kf 83 c79
                    refine cf hE ?_
                    refine wp_exit ?_
                    refine hK65 _ _ ?_
                    refine pl0 ?_
                    refine plc hE (.r 0 2 .nil) (fun a hE => ?_)
                    refine pld ?_
                    refine block_n ?_
                    refine block_n ?_
                    refine hK45 _ _ ?_
                    refine pl0 ?_
                    refine plc hE (.r 0 2 .nil) (fun a hE => ?_)
                    refine pld ?_
                    replace hS := hS.tail
                    replace hS := hS.tail
                    replace hS := hS.front 1 rfl
                    exact then_n ⟨k75, by omega, _, A68, c69, l70, A33, c34, l35, (w64 (x36 + 1)), F72, by omega, hE, .of, hS, g0_0, g1_0, H⟩
              · rw [if_neg c63] at H
                replace hE := hE.kf 78 c63
                refine cf hE ?_
                refine wp_seq_k fun K104 hK104 => ?_
                refine wp_seq_k fun K105 hK105 => ?_
                refine pl0 ?_
                refine plc hE (.r 0 3 .nil) (fun a hE => ?_)
                refine pld ?_
                refine hK105 _ _ ?_
                refine wp_block ?_
                refine wp_loop_ghost (fun kq112 a w' => ∃ (G : Nat → Value) (A107 : Option Addr) (c108 : Nat) (l109 : List Int) (x110 : Int), kq112 ≤ k40 ∧ Env 97 G a ∧ At G [(0, .slice A0_0 x0_.length c0_0), (2, .int .i64 x2_), (3, .int .i64 x3_), (11, .slice A107 l109.length c108), (43, .slice (some ad48) x1_.length c1_0), (44, .int .i64 (x1_.length : Int)), (45, .int .i64 x36), (51, .slice A30 l32.length c31), (52, .int .i64 (l32.length : Int)), (53, .int .i64 x110)] ∧ St W (mine W []) F w' F37 [box b52 #[.int .i64 ((nth T_api_Step.z x1_ x36).f0), .int .i64 ((nth T_api_Step.z x1_ x36).f1), .int .i64 ((nth T_api_Step.z x1_ x36).f2)] 148, row T_place_item.k 154 (.slice A30 l32.length c31) l32, row (Kn.int .i64) 3 (.slice A107 l109.length c108) l109] ∧  place_Run.l111 kq112 x0_ x1_ x2_ x3_ l32 x36 l109 x110 = some r) k40 ⟨_, A33, c34, l35, 0, Nat.le_refl _, hE, .of, hS, H⟩ ?_
                rintro kq112 a u114 ⟨G, A107, c108, l109, x110, hkq, hE, hA, hS, H⟩
                cases kq112 with
                | zero => cases (show none = some r from H)
                | succ k113 =>
                  rw [place_Run.l111_s] at H
                  obtain ⟨J, hE⟩ := hE.at hA
                  refine wp_seq_k fun K115 hK115 => ?_
                  refine pl0 ?_
                  refine plc hE (.r 0 1 .nil) (fun a hE => ?_)
                  refine pld ?_
                  refine hK115 _ _ ?_
                  refine wp_seq_k fun K116 hK116 => ?_
                  by_cases c117 : x110 < (l32.length : Int)
                  · rw [if_pos c117] at H
                    replace hE := hE.kt 54 c117
                    refine ct hE ?_
                    refine wp_skip ?_
                    refine hK116 _ _ ?_
                    refine wp_seq_k fun K118 hK118 => ?_
                    refine wp_block ?_
                    refine wp_seq_k fun K119 hK119 => ?_
                    refine pl0 ?_
                    by_cases c120 : 0 ≤ x110 ∧ x110 < (l32.length : Int)
                    rotate_left
                    · rw [if_neg c120] at H; cases H
                    rw [if_pos c120] at H
                    have hr121 := hS.row_at (i := 1) rfl
                    have hE_ := hE
                    obtain ⟨b122, rfl⟩ := row_addr hr121 c120.1 c120.2
                    replace hE := hE_
                    have hr_ := hS.row_at (i := 1) rfl
                    obtain ⟨cs124, rfl, hc125⟩ := row_el hr_ T_place_item.z x110 c120.1 c120.2
                    refine plc hE (.x 0 c120 <| .cs 1 hc125 <| .nil) (fun a hE => ?_)
                    refine ple hE (.al (t := 154) hS [.int .i64 0, .int .i64 0, .int .i64 0]) ?_
                    rintro _ u127 a ⟨b126, rfl, hb126, hS, hg⟩ hE
                    refine ple hE (.sto hS [.int .i64 ((nth T_place_item.z l32 x110).f0), .int .i64 ((nth T_place_item.z l32 x110).f1), .int .i64 ((nth T_place_item.z l32 x110).f2)]) ?_
                    rintro _ u128 a ⟨rfl, hb126, hS, hz⟩ hE
                    refine pld ?_
                    refine hK119 _ _ ?_
                    refine wp_seq_k fun K129 hK129 => ?_
                    have J138 : ∀ kq136, kq136 ≤ k113 → ∀ (G : Nat → Value) (y134 : Bool) (a : Act) (w' : World), Env 97 G a → At G [(0, .slice A0_0 x0_.length c0_0), (2, .int .i64 x2_), (3, .int .i64 x3_), (11, .slice A107 l109.length c108), (18, .pointer (some ⟨b126, 0, none⟩)), (43, .slice (some ad48) x1_.length c1_0), (44, .int .i64 (x1_.length : Int)), (45, .int .i64 x36), (51, .slice (some ⟨b122, 0, none⟩) l32.length c31), (52, .int .i64 (l32.length : Int)), (53, .int .i64 x110), (67, .bool y134)] → St W (mine W []) F w' F37 [box b126 #[.int .i64 ((nth T_place_item.z l32 x110).f0), .int .i64 ((nth T_place_item.z l32 x110).f1), .int .i64 ((nth T_place_item.z l32 x110).f2)] 154, box b52 #[.int .i64 ((nth T_api_Step.z x1_ x36).f0), .int .i64 ((nth T_api_Step.z x1_ x36).f1), .int .i64 ((nth T_api_Step.z x1_ x36).f2)] 148, row T_place_item.k 154 (.slice (some ⟨b122, 0, none⟩) l32.length c31) l32, row (Kn.int .i64) 3 (.slice A107 l109.length c108) l109] → place_Run.j135 kq136 x0_ x1_ x2_ x3_ l32 x36 l109 x110 y134 = some r → K129 a w' := by
                      intro kq136 hkq G y134 a u139 hE hA hS H
                      cases kq136 with
                      | zero => cases (show none = some r from H)
                      | succ k137 =>
                        rw [place_Run.j135_s] at H
                        obtain ⟨J, hE⟩ := hE.at hA
                        refine hK129 _ _ ?_
                        by_cases c140 : y134 = true
                        · rw [if_pos c140] at H
                          replace hE := hE.bt 67 c140
                          refine ct hE ?_
                          refine pl0 ?_
                          have hb126 := hS.blk_at (i := 0) rfl
                          refine plc hE (.r 0 2 <| .b 2 2 hb126 <| .nil) (fun a hE => ?_)
                          refine ple hE (.lit (d := (Kn.int .i64)) (e := 3) hS [(nth T_place_item.z l32 x110).f2] (.cons rfl .nil)) ?_
                          rintro _ u141 a ⟨A142, c143, rfl, hS, hg⟩ hE
                          by_cases c145 : ((l109.length : Int) + ((1 : Nat) : Int)) * 8 ≤ 140737488355328
                          rotate_left
                          · rw [if_neg c145] at H; cases H
                          rw [if_pos c145] at H
                          replace hS := hS.front 4 rfl
                          refine ple hE (.ap (d := (Kn.int .i64)) 8 hS (row_src (hS.row_at (i := 1) rfl)) c145 c143) ?_
                          rintro _ u148 a ⟨A146, c147, rfl, hS, hz⟩ hE
                          refine plc hE (.r 5 1 .nil) (fun a hE => ?_)
                          refine pld ?_
                          refine block_n ?_
                          refine hK118 _ _ ?_
                          refine pl0 ?_
                          refine plc hE (.r 0 2 .nil) (fun a hE => ?_)
                          refine pld ?_
                          replace hS := hS.front 1 rfl
                          replace hS := hS.tail
                          replace hS := hS.front 1 rfl
                          replace hS := hS.tail
                          replace hS := hS.front 2 rfl
                          replace hS := hS.front 2 rfl
                          exact then_n ⟨k137, by omega, _, A146, c147, (l109 ++ [(nth T_place_item.z l32 x110).f2]), (w64 (x110 + 1)), by omega, hE, .of, hS, H⟩
                        · rw [if_neg c140] at H
                          replace hE := hE.bf 67 c140
                          refine cf hE ?_
                          refine wp_skip ?_
                          refine block_n ?_
                          refine hK118 _ _ ?_
                          refine pl0 ?_
                          refine plc hE (.r 0 2 .nil) (fun a hE => ?_)
                          refine pld ?_
                          replace hS := hS.tail
                          exact then_n ⟨k137, by omega, _, A107, c108, l109, (w64 (x110 + 1)), by omega, hE, .of, hS, H⟩
                    refine pl0 ?_
                    refine plc hE (.r 0 5 .nil) (fun a hE => ?_)
                    by_cases c130 : (l109.length : Int) < x3_
                    · rw [if_pos c130] at H
                      replace hE := hE.kt 61 c130
                      refine plc hE (.r 5 2 <| .b 7 2 hb126 <| .nil) (fun a hE => ?_)
                      obtain ⟨t132, h133, H⟩ := Option.bind_eq_some_iff.mp H
                      refine ple hE (.cl en82 (slices_Contains__int_int.calls k113 l109 ((nth T_place_item.z l32 x110).f2) _ _ _ _ _ (Sub.refl _) (hS.rd_at (i := 3) rfl) h133)) ?_
                      rintro _ u131 a ⟨_, rfl, hC⟩ hE
                      replace hS := hS.lent hC
                      refine plc hE (.r 9 2 .nil) (fun a hE => ?_)
                      refine pld ?_
                      exact J138 _ (by omega) _ (!t132) _ _ hE .of hS H
                    · rw [if_neg c130] at H
                      replace hE := hE.kf 61 c130
                      refine plc hE (.r 5 6 .nil) (fun a hE => ?_)
                      refine pld ?_
                      exact J138 _ (by omega) _ false _ _ hE .of hS H
                  · rw [if_neg c117] at H
                    replace hE := hE.kf 54 c117
                    refine cf hE ?_
                    refine wp_exit ?_
                    refine hK104 _ _ ?_
                    refine pl0 ?_
                    refine plc hE (.r 0 1 .nil) (fun a hE => ?_)
                    refine pld ?_
                    refine block_n ?_
                    refine block_n ?_
                    refine hK45 _ _ ?_
                    refine pl0 ?_
                    refine plc hE (.r 0 2 .nil) (fun a hE => ?_)
                    refine pld ?_
                    replace hS := hS.nilrow T_place_item.k 154
                    replace hS := hS.front 1 rfl
                    replace hS := hS.tail
                    replace hS := hS.front 1 rfl
                    replace hS := hS.tail
                    exact then_n ⟨k113, by omega, _, none, 0, [], A107, c108, l109, (w64 (x36 + 1)), F37, by omega, hE, .of, hS, g0_0, g1_0, H⟩
          · rw [if_neg c44] at H
            replace hE := hE.kf 46 c44
            refine cf hE ?_
            refine wp_exit ?_
            refine hK26 _ _ ?_
            refine wp_seq_k fun K152 hK152 => ?_
            refine pl0 ?_
            refine plc hE (.r 0 3 .nil) (fun a hE => ?_)
            refine pld ?_
            refine hK152 _ _ ?_
            refine wp_ret ?_
            replace hS := hS.tail
            obtain rfl := Option.some.inj H
            exact rtN hE ⟨_, rfl, _, _, _, rfl, hS⟩
  refine pl0 ?_
  refine plc hE (.r 0 1 .nil) (fun a hE => ?_)
  obtain ⟨t5, h6, H⟩ := Option.bind_eq_some_iff.mp H
  refine ple hE (.cl en80 (topo_Check.calls k x0_ _ _ _ _ _ hS.own.sub g0_0 h6)) ?_
  rintro _ u4 a ⟨_, rfl, hC⟩ hE
  replace hS := hS.lent hC
  refine plc hE (.r 2 2 .nil) (fun a hE => ?_)
  by_cases c7 : t5 = 0
  · rw [if_pos c7] at H
    replace hE := hE.ktn 22 c7
    refine plc hE (.r 4 1 .nil) (fun a hE => ?_)
    obtain ⟨t9, h10, H⟩ := Option.bind_eq_some_iff.mp H
    refine ple hE (.cl en39 (place_Check.calls k x1_ _ _ _ _ _ hS.own.sub g1_0 h10)) ?_
    rintro _ u8 a ⟨_, rfl, hC⟩ hE
    replace hS := hS.lent hC
    refine plc hE (.r 6 3 .nil) (fun a hE => ?_)
    by_cases c11 : t9 = 0
    · rw [if_pos c11] at H
      replace hE := hE.ktn 27 c11
      refine plc hE (.r 9 4 .nil) (fun a hE => ?_)
      by_cases c12 : x2_ < 0
      · rw [if_pos c12] at H
        replace hE := hE.kt 31 c12
        refine plc hE (.r 13 11 .nil) (fun a hE => ?_)
        refine pld ?_
        exact J19 _ (by omega) _ true _ _ hE .of hS H
      · rw [if_neg c12] at H
        replace hE := hE.kf 31 c12
        refine plc hE (.r 13 4 .nil) (fun a hE => ?_)
        by_cases c13 : x2_ ≥ 8
        · rw [if_pos c13] at H
          replace hE := hE.kt 35 c13
          refine plc hE (.r 17 7 .nil) (fun a hE => ?_)
          refine pld ?_
          exact J19 _ (by omega) _ true _ _ hE .of hS H
        · rw [if_neg c13] at H
          replace hE := hE.kf 35 c13
          refine plc hE (.r 17 4 .nil) (fun a hE => ?_)
          by_cases c14 : x3_ < 1
          · rw [if_pos c14] at H
            replace hE := hE.kt 39 c14
            refine plc hE (.r 21 3 .nil) (fun a hE => ?_)
            refine pld ?_
            exact J19 _ (by omega) _ true _ _ hE .of hS H
          · rw [if_neg c14] at H
            replace hE := hE.kf 39 c14
            refine plc hE (.r 21 3 .nil) (fun a hE => ?_)
            refine pld ?_
            exact J19 _ (by omega) _ (decide (x3_ > 3)) _ _ hE .of hS H
    · rw [if_neg c11] at H
      replace hE := hE.kfn 27 c11
      refine plc hE (.r 9 15 .nil) (fun a hE => ?_)
      refine pld ?_
      exact J19 _ (by omega) _ true _ _ hE .of hS H
  · rw [if_neg c7] at H
    replace hE := hE.kfn 22 c7
    refine plc hE (.r 4 20 .nil) (fun a hE => ?_)
    refine pld ?_
    exact J19 _ (by omega) _ true _ _ hE .of hS H

/-! ### windrose/place.Of: function 46 -/
def place_Of.f (k : Nat) (x0_ : List T_api_Node) (x1_ : Int) (x2_ : Int) : Option (List Int) := (place_Common.f k x2_).bind fun t4 => ((place_Run.f k x0_ t4 x1_ x2_).bind fun t14 => (some t14.1))
def place_Of.Post (W F : World) (r : List Int) (v : Value) (w' : World) : Prop := ∃ (F' : World) (RA0_0 : Option Addr) (rc0_0 : Nat), v = .slice RA0_0 r.length rc0_0 ∧ St W (mine W []) F w' F' [row (Kn.int .i64) 3 (.slice RA0_0 r.length rc0_0) r]
set_option maxHeartbeats 4000000 in
set_option maxRecDepth 100000 in
theorem place_Of.calls (k : Nat) (x0_ : List T_api_Node) (x1_ : Int) (x2_ : Int) (A0_0 : Option Addr) (c0_0 : Nat) (r : List Int) (W F : World) (hown : Sub F W) (g0_0 : Rd T_api_Node.k F A0_0 c0_0 x0_) (H : place_Of.f k x0_ x1_ x2_ = some r) :
    Calls Try.prog 46 #[.slice A0_0 x0_.length c0_0, .int .i64 x1_, .int .i64 x2_] W fun e w' => ∃ v, e = .returned v ∧ place_Of.Post W F r v w' := by
  have hS := St.start (Own.nil hown)
  unfold place_Of.f at H
  refine enter (n := 19) rfl rfl rfl (Nat.le_of_ble_eq_true rfl) (fun a hE => ?_)
  refine wp_seq_k fun K1 hK1 => ?_
  refine pl0 ?_
  refine plc hE (.r 0 1 .nil) (fun a hE => ?_)
  refine pld ?_
  refine hK1 _ _ ?_
  refine wp_seq_k fun K2 hK2 => ?_
  refine pl0 ?_
  refine plc hE (.r 0 2 .nil) (fun a hE => ?_)
  obtain ⟨t4, h5, H⟩ := Option.bind_eq_some_iff.mp H
  refine ple hE (.cl en36 (place_Common.calls k x2_ _ _ _ hS.own.sub h5)) ?_
  rintro _ u3 a ⟨F6, A7, c8, rfl, hC⟩ hE
  have hs := hC.sub
  replace hS := hS.called (X := []) hC
  replace g0_0 := g0_0.mono hs
  refine plc hE (.r 3 2 .nil) (fun a hE => ?_)
  obtain ⟨F11, hs, g12, hS⟩ := hS.give
  replace g0_0 := g0_0.mono hs
  obtain ⟨t14, h15, H⟩ := Option.bind_eq_some_iff.mp H
  refine ple hE (.cl en42 (place_Run.calls k x0_ t4 x1_ x2_ _ _ _ _ _ _ _ hS.own.sub g0_0 g12 h15)) ?_
  rintro _ u13 a ⟨F16, A17, c18, rfl, hC⟩ hE
  have hs := hC.sub
  replace hS := hS.called (X := []) hC
  replace g0_0 := g0_0.mono hs
  replace g12 := g12.mono hs
  refine plc hE (.r 6 5 .nil) (fun a hE => ?_)
  refine pld ?_
  refine hK2 _ _ ?_
  refine wp_seq_k fun K21 hK21 => ?_
  refine pl0 ?_
  refine plc hE (.r 0 2 .nil) (fun a hE => ?_)
  refine pld ?_
  refine hK21 _ _ ?_
  refine wp_ret ?_
  obtain rfl := Option.some.inj H
  exact rt1 hE ⟨_, rfl, _, _, _, rfl, hS⟩

/-! ### windrose/windroselaw07.awake: function 41 -/
def windroselaw07_awake.f (k : Nat) : Option Bool := (place_Of.f k [(⟨4, 1, 1, 0, false, false⟩ : T_api_Node), (⟨9, 2, 1, 1, false, true⟩ : T_api_Node)] 0 3).bind fun t10 => (if (t10.length : Int) = 1 then (if 0 ≤ (0 : Int) ∧ 0 < (t10.length : Int) then (if (nth 0 t10 0) = 9 then ((place_Common.f k 3).bind fun t27 => (some ((t27.length : Int) == 5))) else (some false)) else (none)) else (some false))
def windroselaw07_awake.Post (W F : World) (r : Bool) (v : Value) (w' : World) : Prop := ∃ (F' : World), v = .bool r ∧ St W (mine W []) F w' F' []
set_option maxHeartbeats 4000000 in
set_option maxRecDepth 100000 in
theorem windroselaw07_awake.calls (k : Nat) (r : Bool) (W F : World) (hown : Sub F W) (H : windroselaw07_awake.f k = some r) :
    Calls Try.prog 41 #[] W fun e w' => ∃ v, e = .returned v ∧ windroselaw07_awake.Post W F r v w' := by
  have hS := St.start (Own.nil hown)
  unfold windroselaw07_awake.f at H
  refine enter (n := 20) rfl rfl rfl (Nat.le_of_ble_eq_true rfl) (fun a hE => ?_)
  refine wp_seq_k fun K1 hK1 => ?_
  refine pl0 ?_
  refine plc hE (.r 0 1 .nil) (fun a hE => ?_)
  refine pld ?_
  refine hK1 _ _ ?_
  refine wp_seq_k fun K2 hK2 => ?_
  refine pl0 ?_
  refine plc hE (.r 0 2 .nil) (fun a hE => ?_)
  refine ple hE (.lit (d := T_api_Node.k) (e := 102) hS [(⟨4, 1, 1, 0, false, false⟩ : T_api_Node), (⟨9, 2, 1, 1, false, true⟩ : T_api_Node)] (.cons rfl <| .cons rfl .nil)) ?_
  rintro _ u3 a ⟨A4, c5, rfl, hS, hg⟩ hE
  obtain ⟨F7, hs, g8, hS⟩ := hS.give
  obtain ⟨t10, h11, H⟩ := Option.bind_eq_some_iff.mp H
  refine ple hE (.cl en46 (place_Of.calls k [(⟨4, 1, 1, 0, false, false⟩ : T_api_Node), (⟨9, 2, 1, 1, false, true⟩ : T_api_Node)] 0 3 _ _ _ _ _ hS.own.sub g8 h11)) ?_
  rintro _ u9 a ⟨F12, A13, c14, rfl, hC⟩ hE
  have hs := hC.sub
  replace hS := hS.called (X := []) hC
  replace g8 := g8.mono hs
  refine plc hE (.r 4 1 .nil) (fun a hE => ?_)
  refine pld ?_
  refine hK2 _ _ ?_
  refine wp_seq_k fun K17 hK17 => ?_
  refine pl0 ?_
  refine plc hE (.r 0 4 .nil) (fun a hE => ?_)
  by_cases c18 : (t10.length : Int) = 1
  · rw [if_pos c18] at H
    replace hE := hE.kt 9 c18
    by_cases c19 : 0 ≤ (0 : Int) ∧ 0 < (t10.length : Int)
    rotate_left
    · rw [if_neg c19] at H; cases H
    rw [if_pos c19] at H
    have hr20 := hS.row_at (i := 0) rfl
    have hE_ := hE
    obtain ⟨b21, rfl⟩ := row_addr hr20 c19.1 c19.2
    replace hE := hE_
    have hr_ := hS.row_at (i := 0) rfl
    obtain ⟨cs23, rfl, hc24⟩ := row_el hr_ 0 0 c19.1 c19.2
    refine plc hE (.r 4 1 <| .x 5 c19 <| .c 6 (hc24 0 _ rfl) <| .r 7 3 <| .nil) (fun a hE => ?_)
    by_cases c25 : (nth 0 t10 0) = 9
    · rw [if_pos c25] at H
      replace hE := hE.kt 15 c25
      obtain ⟨t27, h28, H⟩ := Option.bind_eq_some_iff.mp H
      refine ple hE (.cl en36 (place_Common.calls k 3 _ _ _ hS.own.sub h28)) ?_
      rintro _ u26 a ⟨F29, A30, c31, rfl, hC⟩ hE
      have hs := hC.sub
      replace hS := hS.called (X := []) hC
      replace g8 := g8.mono hs
      refine plc hE (.r 11 4 .nil) (fun a hE => ?_)
      refine pld ?_
      refine hK17 _ _ ?_
      refine wp_ret ?_
      replace hS := hS.tail
      replace hS := hS.tail
      obtain rfl := Option.some.inj H
      exact rt1 hE ⟨_, rfl, _, rfl, hS⟩
    · rw [if_neg c25] at H
      replace hE := hE.kf 15 c25
      refine plc hE (.r 10 5 .nil) (fun a hE => ?_)
      refine pld ?_
      refine hK17 _ _ ?_
      refine wp_ret ?_
      replace hS := hS.tail
      obtain rfl := Option.some.inj H
      exact rt1 hE ⟨_, rfl, _, rfl, hS⟩
  · rw [if_neg c18] at H
    replace hE := hE.kf 9 c18
    refine plc hE (.r 4 11 .nil) (fun a hE => ?_)
    refine pld ?_
    refine hK17 _ _ ?_
    refine wp_ret ?_
    replace hS := hS.tail
    obtain rfl := Option.some.inj H
    exact rt1 hE ⟨_, rfl, _, rfl, hS⟩

/-! ### windrose/windroseref06.May: function 43 -/
mutual
def windroseref06_May.l5 : Nat → List T_api_Node → Int → Option Bool
  | 0, _, _ => none
  | k + 1, x0_, x4 => if x4 < (x0_.length : Int) then (if 0 ≤ x4 ∧ x4 < (x0_.length : Int) then (if (nth T_api_Node.z x0_ x4).f0 < 1 then (windroseref06_May.j37 k x0_ x4 true) else (if (nth T_api_Node.z x0_ x4).f0 > 999 then (windroseref06_May.j37 k x0_ x4 true) else (if (nth T_api_Node.z x0_ x4).f1 < 1 then (windroseref06_May.j37 k x0_ x4 true) else (if (nth T_api_Node.z x0_ x4).f1 > 9 then (windroseref06_May.j37 k x0_ x4 true) else (if (nth T_api_Node.z x0_ x4).f2 < 1 then (windroseref06_May.j37 k x0_ x4 true) else (if (nth T_api_Node.z x0_ x4).f2 > 9 then (windroseref06_May.j37 k x0_ x4 true) else (if (nth T_api_Node.z x0_ x4).f3 < 0 then (windroseref06_May.j37 k x0_ x4 true) else (if (nth T_api_Node.z x0_ x4).f3 > 65536 then (windroseref06_May.j37 k x0_ x4 true) else (if x4 > 0 then (if 0 ≤ (w64 (x4 - 1)) ∧ (w64 (x4 - 1)) < (x0_.length : Int) then (windroseref06_May.j37 k x0_ x4 (decide ((nth T_api_Node.z x0_ (w64 (x4 - 1))).f0 ≥ (nth T_api_Node.z x0_ x4).f0))) else (none)) else (windroseref06_May.j37 k x0_ x4 false)))))))))) else (none)) else (some (decide ((x0_.length : Int) ≤ 12)))
def windroseref06_May.j37 : Nat → List T_api_Node → Int → Bool → Option Bool
  | 0, _, _, _ => none
  | k + 1, x0_, x4, y36 => if y36 = true then (some false) else (windroseref06_May.l5 k x0_ (w64 (x4 + 1)))
end
theorem windroseref06_May.l5_s (k : Nat) (x0_ : List T_api_Node) (x4 : Int) : windroseref06_May.l5 (k + 1) x0_ x4 = (if x4 < (x0_.length : Int) then (if 0 ≤ x4 ∧ x4 < (x0_.length : Int) then (if (nth T_api_Node.z x0_ x4).f0 < 1 then (windroseref06_May.j37 k x0_ x4 true) else (if (nth T_api_Node.z x0_ x4).f0 > 999 then (windroseref06_May.j37 k x0_ x4 true) else (if (nth T_api_Node.z x0_ x4).f1 < 1 then (windroseref06_May.j37 k x0_ x4 true) else (if (nth T_api_Node.z x0_ x4).f1 > 9 then (windroseref06_May.j37 k x0_ x4 true) else (if (nth T_api_Node.z x0_ x4).f2 < 1 then (windroseref06_May.j37 k x0_ x4 true) else (if (nth T_api_Node.z x0_ x4).f2 > 9 then (windroseref06_May.j37 k x0_ x4 true) else (if (nth T_api_Node.z x0_ x4).f3 < 0 then (windroseref06_May.j37 k x0_ x4 true) else (if (nth T_api_Node.z x0_ x4).f3 > 65536 then (windroseref06_May.j37 k x0_ x4 true) else (if x4 > 0 then (if 0 ≤ (w64 (x4 - 1)) ∧ (w64 (x4 - 1)) < (x0_.length : Int) then (windroseref06_May.j37 k x0_ x4 (decide ((nth T_api_Node.z x0_ (w64 (x4 - 1))).f0 ≥ (nth T_api_Node.z x0_ x4).f0))) else (none)) else (windroseref06_May.j37 k x0_ x4 false)))))))))) else (none)) else (some (decide ((x0_.length : Int) ≤ 12)))) := by kernel_rfl
theorem windroseref06_May.j37_s (k : Nat) (x0_ : List T_api_Node) (x4 : Int) (y36 : Bool) : windroseref06_May.j37 (k + 1) x0_ x4 y36 = (if y36 = true then (some false) else (windroseref06_May.l5 k x0_ (w64 (x4 + 1)))) := by kernel_rfl
def windroseref06_May.f (k : Nat) (x0_ : List T_api_Node) : Option Bool := windroseref06_May.l5 k x0_ 0
def windroseref06_May.Post (W F : World) (r : Bool) (v : Value) (w' : World) : Prop := ∃ (F' : World), v = .bool r ∧ St W (mine W []) F w' F' []
set_option maxHeartbeats 4000000 in
set_option maxRecDepth 100000 in
theorem windroseref06_May.calls (k : Nat) (x0_ : List T_api_Node) (A0_0 : Option Addr) (c0_0 : Nat) (r : Bool) (W F : World) (hown : Sub F W) (g0_0 : Rd T_api_Node.k F A0_0 c0_0 x0_) (H : windroseref06_May.f k x0_ = some r) :
    Calls Try.prog 43 #[.slice A0_0 x0_.length c0_0] W fun e w' => ∃ v, e = .returned v ∧ windroseref06_May.Post W F r v w' := by
  have hS := St.start (Own.nil hown)
  unfold windroseref06_May.f at H
  refine enter (n := 71) rfl rfl rfl (Nat.le_of_ble_eq_true rfl) (fun a hE => ?_)
  refine wp_seq_k fun K1 hK1 => ?_
  refine pl0 ?_
  refine plc hE (.r 0 1 .nil) (fun a hE => ?_)
  refine pld ?_
  refine hK1 _ _ ?_
  refine wp_seq_k fun K2 hK2 => ?_
  refine wp_seq_k fun K3 hK3 => ?_
  refine pl0 ?_
  refine plc hE (.r 0 1 .nil) (fun a hE => ?_)
  refine pld ?_
  refine hK3 _ _ ?_
  refine wp_block ?_
  refine wp_loop_ghost (fun kq6 a w' => ∃ (G : Nat → Value) (x4 : Int), kq6 ≤ k ∧ Env 71 G a ∧ At G [(0, .slice A0_0 x0_.length c0_0), (3, .int .i64 x4)] ∧ St W (mine W []) F w' F [] ∧  windroseref06_May.l5 kq6 x0_ x4 = some r) k ⟨_, 0, Nat.le_refl _, hE, .of, hS, H⟩ ?_
  rintro kq6 a u8 ⟨G, x4, hkq, hE, hA, hS, H⟩
  cases kq6 with
  | zero => cases (show none = some r from H)
  | succ k7 =>
    rw [windroseref06_May.l5_s] at H
    obtain ⟨J, hE⟩ := hE.at hA
    refine wp_seq_k fun K9 hK9 => ?_
    refine wp_seq_k fun K10 hK10 => ?_
    refine pl0 ?_
    refine plc hE (.r 0 4 .nil) (fun a hE => ?_)
    refine pld ?_
    refine hK10 _ _ ?_
    by_cases c11 : x4 < (x0_.length : Int)
    · rw [if_pos c11] at H
      replace hE := hE.kt 8 c11
      refine ct hE ?_
      refine wp_skip ?_
      refine hK9 _ _ ?_
      refine wp_seq_k fun K12 hK12 => ?_
      refine wp_block ?_
      refine wp_seq_k fun K13 hK13 => ?_
      refine pl0 ?_
      by_cases c14 : 0 ≤ x4 ∧ x4 < (x0_.length : Int)
      rotate_left
      · rw [if_neg c14] at H; cases H
      rw [if_pos c14] at H
      have hE_ := hE
      obtain ⟨ad15, rfl⟩ := g0_0.addr c14.1 c14.2
      replace hE := hE_
      obtain ⟨cs17, rfl, hc18⟩ := g0_0.el T_api_Node.z x4 c14.1 c14.2
      refine plc hE (.r 0 2 <| .x 2 c14 <| .cs 3 (hS.fcs hc18) <| .nil) (fun a hE => ?_)
      refine ple hE (.al (t := 102) hS [.int .i64 0, .int .i64 0, .int .i64 0, .int .i64 0, .bool false, .bool false]) ?_
      rintro _ u20 a ⟨b19, rfl, hb19, hS, hg⟩ hE
      refine ple hE (.sto hS [.int .i64 ((nth T_api_Node.z x0_ x4).f0), .int .i64 ((nth T_api_Node.z x0_ x4).f1), .int .i64 ((nth T_api_Node.z x0_ x4).f2), .int .i64 ((nth T_api_Node.z x0_ x4).f3), .bool ((nth T_api_Node.z x0_ x4).f4), .bool ((nth T_api_Node.z x0_ x4).f5)]) ?_
      rintro _ u21 a ⟨rfl, hb19, hS, hz⟩ hE
      refine pld ?_
      refine hK13 _ _ ?_
      refine wp_seq_k fun K22 hK22 => ?_
      have J40 : ∀ kq38, kq38 ≤ k7 → ∀ (G : Nat → Value) (y36 : Bool) (a : Act) (w' : World), Env 71 G a → At G [(0, .slice (some ad15) x0_.length c0_0), (3, .int .i64 x4), (67, .bool y36)] → St W (mine W []) F w' F [box b19 #[.int .i64 ((nth T_api_Node.z x0_ x4).f0), .int .i64 ((nth T_api_Node.z x0_ x4).f1), .int .i64 ((nth T_api_Node.z x0_ x4).f2), .int .i64 ((nth T_api_Node.z x0_ x4).f3), .bool ((nth T_api_Node.z x0_ x4).f4), .bool ((nth T_api_Node.z x0_ x4).f5)] 102] → windroseref06_May.j37 kq38 x0_ x4 y36 = some r → K22 a w' := by
        intro kq38 hkq G y36 a u41 hE hA hS H
        cases kq38 with
        | zero => cases (show none = some r from H)
        | succ k39 =>
          rw [windroseref06_May.j37_s] at H
          obtain ⟨J, hE⟩ := hE.at hA
          refine hK22 _ _ ?_
          by_cases c42 : y36 = true
          · rw [if_pos c42] at H
            replace hE := hE.bt 67 c42
            refine ct hE ?_
            refine wp_seq_k fun K43 hK43 => ?_
            refine pl0 ?_
            refine plc hE (.r 0 1 .nil) (fun a hE => ?_)
            refine pld ?_
            refine hK43 _ _ ?_
            refine wp_ret (block_ret (then_ret (then_ret (block_ret (then_ret ?_)))))
            replace hS := hS.tail
            obtain rfl := Option.some.inj H
            exact rt1 hE ⟨_, rfl, _, rfl, hS⟩
          · rw [if_neg c42] at H
            replace hE := hE.bf 67 c42
            refine cf hE ?_
            refine wp_skip ?_
            refine block_n ?_
            refine hK12 _ _ ?_
            refine pl0 ?_
            refine plc hE (.r 0 3 .nil) (fun a hE => ?_)
            refine pld ?_
            replace hS := hS.tail
            exact then_n ⟨k39, by omega, _, (w64 (x4 + 1)), by omega, hE, .of, hS, H⟩
      refine drawn 53 ⟨[], [], fun q => False⟩ mixed rfl (by kernel_rfl) (fun hst => ?_)
      replace hS := hS.drew
      have hb19 := hS.blk_at (i := 0) rfl
      refine mny 49 hst hE (.r 0 1 <| .b 1 0 hb19 <| .r 2 2 <| .nil) (fun a hE => ?_)
      by_cases c23 : (nth T_api_Node.z x0_ x4).f0 < 1
      · rw [if_pos c23] at H
        replace hE := hE.kt 18 c23
        refine mny 0 hst hE (.r 4 49 .nil) (fun a hE => ?_)
        refine dn ?_
        exact J40 _ (by omega) _ true _ _ hE .of hS H
      · rw [if_neg c23] at H
        replace hE := hE.kf 18 c23
        refine mny 44 hst hE (.r 4 1 <| .b 5 0 hb19 <| .r 6 3 <| .nil) (fun a hE => ?_)
        by_cases c24 : (nth T_api_Node.z x0_ x4).f0 > 999
        · rw [if_pos c24] at H
          replace hE := hE.kt 23 c24
          refine mny 0 hst hE (.r 9 44 .nil) (fun a hE => ?_)
          refine dn ?_
          exact J40 _ (by omega) _ true _ _ hE .of hS H
        · rw [if_neg c24] at H
          replace hE := hE.kf 23 c24
          refine mny 39 hst hE (.r 9 1 <| .b 10 1 hb19 <| .r 11 3 <| .nil) (fun a hE => ?_)
          by_cases c25 : (nth T_api_Node.z x0_ x4).f1 < 1
          · rw [if_pos c25] at H
            replace hE := hE.kt 28 c25
            refine mny 0 hst hE (.r 14 39 .nil) (fun a hE => ?_)
            refine dn ?_
            exact J40 _ (by omega) _ true _ _ hE .of hS H
          · rw [if_neg c25] at H
            replace hE := hE.kf 28 c25
            refine mny 34 hst hE (.r 14 1 <| .b 15 1 hb19 <| .r 16 3 <| .nil) (fun a hE => ?_)
            by_cases c26 : (nth T_api_Node.z x0_ x4).f1 > 9
            · rw [if_pos c26] at H
              replace hE := hE.kt 33 c26
              refine mny 0 hst hE (.r 19 34 .nil) (fun a hE => ?_)
              refine dn ?_
              exact J40 _ (by omega) _ true _ _ hE .of hS H
            · rw [if_neg c26] at H
              replace hE := hE.kf 33 c26
              refine mny 29 hst hE (.r 19 1 <| .b 20 2 hb19 <| .r 21 3 <| .nil) (fun a hE => ?_)
              by_cases c27 : (nth T_api_Node.z x0_ x4).f2 < 1
              · rw [if_pos c27] at H
                replace hE := hE.kt 38 c27
                refine mny 0 hst hE (.r 24 29 .nil) (fun a hE => ?_)
                refine dn ?_
                exact J40 _ (by omega) _ true _ _ hE .of hS H
              · rw [if_neg c27] at H
                replace hE := hE.kf 38 c27
                refine mny 24 hst hE (.r 24 1 <| .b 25 2 hb19 <| .r 26 3 <| .nil) (fun a hE => ?_)
                by_cases c28 : (nth T_api_Node.z x0_ x4).f2 > 9
                · rw [if_pos c28] at H
                  replace hE := hE.kt 43 c28
                  refine mny 0 hst hE (.r 29 24 .nil) (fun a hE => ?_)
                  refine dn ?_
                  exact J40 _ (by omega) _ true _ _ hE .of hS H
                · rw [if_neg c28] at H
                  replace hE := hE.kf 43 c28
                  refine mny 19 hst hE (.r 29 1 <| .b 30 3 hb19 <| .r 31 3 <| .nil) (fun a hE => ?_)
                  by_cases c29 : (nth T_api_Node.z x0_ x4).f3 < 0
                  · rw [if_pos c29] at H
                    replace hE := hE.kt 48 c29
                    refine mny 0 hst hE (.r 34 19 .nil) (fun a hE => ?_)
                    refine dn ?_
                    exact J40 _ (by omega) _ true _ _ hE .of hS H
                  · rw [if_neg c29] at H
                    replace hE := hE.kf 48 c29
                    refine mny 14 hst hE (.r 34 1 <| .b 35 3 hb19 <| .r 36 3 <| .nil) (fun a hE => ?_)
                    by_cases c30 : (nth T_api_Node.z x0_ x4).f3 > 65536
                    · rw [if_pos c30] at H
                      replace hE := hE.kt 53 c30
                      refine mny 0 hst hE (.r 39 14 .nil) (fun a hE => ?_)
                      refine dn ?_
                      exact J40 _ (by omega) _ true _ _ hE .of hS H
                    · rw [if_neg c30] at H
                      replace hE := hE.kf 53 c30
                      refine mny 11 hst hE (.r 39 3 .nil) (fun a hE => ?_)
                      by_cases c31 : x4 > 0
                      · rw [if_pos c31] at H
                        replace hE := hE.kt 56 c31
                        by_cases c32 : 0 ≤ (w64 (x4 - 1)) ∧ (w64 (x4 - 1)) < (x0_.length : Int)
                        rotate_left
                        · rw [if_neg c32] at H; cases H
                        rw [if_pos c32] at H
                        obtain ⟨cs34, rfl, hc35⟩ := g0_0.el T_api_Node.z (w64 (x4 - 1)) c32.1 c32.2
                        refine mny 0 hst hE (.r 42 3 <| .x 45 c32 <| .r 46 1 <| .c 47 (hS.fc hc35 0) <| .r 48 1 <| .b 49 0 hb19 <| .r 50 3 <| .nil) (fun a hE => ?_)
                        refine dn ?_
                        exact J40 _ (by omega) _ (decide ((nth T_api_Node.z x0_ (w64 (x4 - 1))).f0 ≥ (nth T_api_Node.z x0_ x4).f0)) _ _ hE .of hS H
                      · rw [if_neg c31] at H
                        replace hE := hE.kf 56 c31
                        refine mny 0 hst hE (.r 42 11 .nil) (fun a hE => ?_)
                        refine dn ?_
                        exact J40 _ (by omega) _ false _ _ hE .of hS H
    · rw [if_neg c11] at H
      replace hE := hE.kf 8 c11
      refine cf hE ?_
      refine wp_exit ?_
      refine hK2 _ _ ?_
      refine wp_seq_k fun K44 hK44 => ?_
      refine pl0 ?_
      refine plc hE (.r 0 4 .nil) (fun a hE => ?_)
      refine pld ?_
      refine hK44 _ _ ?_
      refine wp_ret ?_
      obtain rfl := Option.some.inj H
      exact rt1 hE ⟨_, rfl, _, rfl, hS⟩

/-! ### windrose/windroseref06.Find: function 49 -/
def windroseref06_Find.l7 : Nat → List T_api_Node → Int → Int → Option (T_api_Node × Bool)
  | 0, _, _, _ => none
  | k + 1, x0_, x1_, x6 => if x6 < (x0_.length : Int) then (if 0 ≤ x6 ∧ x6 < (x0_.length : Int) then (if (nth T_api_Node.z x0_ x6).f0 = x1_ then (some ((⟨(nth T_api_Node.z x0_ x6).f0, (nth T_api_Node.z x0_ x6).f1, (nth T_api_Node.z x0_ x6).f2, (nth T_api_Node.z x0_ x6).f3, (nth T_api_Node.z x0_ x6).f4, (nth T_api_Node.z x0_ x6).f5⟩ : T_api_Node), true)) else (windroseref06_Find.l7 k x0_ x1_ (w64 (x6 + 1)))) else (none)) else (some ((⟨0, 0, 0, 0, false, false⟩ : T_api_Node), false))
theorem windroseref06_Find.l7_s (k : Nat) (x0_ : List T_api_Node) (x1_ : Int) (x6 : Int) : windroseref06_Find.l7 (k + 1) x0_ x1_ x6 = (if x6 < (x0_.length : Int) then (if 0 ≤ x6 ∧ x6 < (x0_.length : Int) then (if (nth T_api_Node.z x0_ x6).f0 = x1_ then (some ((⟨(nth T_api_Node.z x0_ x6).f0, (nth T_api_Node.z x0_ x6).f1, (nth T_api_Node.z x0_ x6).f2, (nth T_api_Node.z x0_ x6).f3, (nth T_api_Node.z x0_ x6).f4, (nth T_api_Node.z x0_ x6).f5⟩ : T_api_Node), true)) else (windroseref06_Find.l7 k x0_ x1_ (w64 (x6 + 1)))) else (none)) else (some ((⟨0, 0, 0, 0, false, false⟩ : T_api_Node), false))) := by kernel_rfl
def windroseref06_Find.f (k : Nat) (x0_ : List T_api_Node) (x1_ : Int) : Option (T_api_Node × Bool) := windroseref06_Find.l7 k x0_ x1_ 0
def windroseref06_Find.Post (W F : World) (r : T_api_Node × Bool) (v : Value) (w' : World) : Prop := ∃ (F' : World), v = .tuple #[.agg #[.int .i64 r.1.f0, .int .i64 r.1.f1, .int .i64 r.1.f2, .int .i64 r.1.f3, .bool r.1.f4, .bool r.1.f5], .bool r.2] ∧ St W (mine W []) F w' F' []
set_option maxHeartbeats 4000000 in
set_option maxRecDepth 100000 in
theorem windroseref06_Find.calls (k : Nat) (x0_ : List T_api_Node) (x1_ : Int) (A0_0 : Option Addr) (c0_0 : Nat) (r : T_api_Node × Bool) (W F : World) (hown : Sub F W) (g0_0 : Rd T_api_Node.k F A0_0 c0_0 x0_) (H : windroseref06_Find.f k x0_ x1_ = some r) :
    Calls Try.prog 49 #[.slice A0_0 x0_.length c0_0, .int .i64 x1_] W fun e w' => ∃ v, e = .returned v ∧ windroseref06_Find.Post W F r v w' := by
  have hS := St.start (Own.nil hown)
  unfold windroseref06_Find.f at H
  refine enter (n := 25) rfl rfl rfl (Nat.le_of_ble_eq_true rfl) (fun a hE => ?_)
  refine wp_seq_k fun K1 hK1 => ?_
  refine pl0 ?_
  refine ple hE (.al (t := 102) hS [.int .i64 0, .int .i64 0, .int .i64 0, .int .i64 0, .bool false, .bool false]) ?_
  rintro _ u3 a ⟨b2, rfl, hb2, hS, hg⟩ hE
  refine plc hE (.r 1 1 .nil) (fun a hE => ?_)
  refine pld ?_
  refine hK1 _ _ ?_
  refine wp_seq_k fun K4 hK4 => ?_
  refine wp_seq_k fun K5 hK5 => ?_
  refine pl0 ?_
  refine plc hE (.r 0 1 .nil) (fun a hE => ?_)
  refine pld ?_
  refine hK5 _ _ ?_
  refine wp_block ?_
  refine wp_loop_ghost (fun kq8 a w' => ∃ (G : Nat → Value) (x6 : Int), kq8 ≤ k ∧ Env 25 G a ∧ At G [(0, .slice A0_0 x0_.length c0_0), (1, .int .i64 x1_), (4, .pointer (some ⟨b2, 0, none⟩)), (6, .int .i64 x6)] ∧ St W (mine W []) F w' F [box b2 #[.int .i64 0, .int .i64 0, .int .i64 0, .int .i64 0, .bool false, .bool false] 102] ∧  windroseref06_Find.l7 kq8 x0_ x1_ x6 = some r) k ⟨_, 0, Nat.le_refl _, hE, .of, hS, H⟩ ?_
  rintro kq8 a u10 ⟨G, x6, hkq, hE, hA, hS, H⟩
  cases kq8 with
  | zero => cases (show none = some r from H)
  | succ k9 =>
    rw [windroseref06_Find.l7_s] at H
    obtain ⟨J, hE⟩ := hE.at hA
    refine wp_seq_k fun K11 hK11 => ?_
    refine wp_seq_k fun K12 hK12 => ?_
    refine pl0 ?_
    refine plc hE (.r 0 4 .nil) (fun a hE => ?_)
    refine pld ?_
    refine hK12 _ _ ?_
    by_cases c13 : x6 < (x0_.length : Int)
    · rw [if_pos c13] at H
      replace hE := hE.kt 10 c13
      refine ct hE ?_
      refine wp_skip ?_
      refine hK11 _ _ ?_
      refine wp_seq_k fun K14 hK14 => ?_
      refine wp_block ?_
      refine wp_seq_k fun K15 hK15 => ?_
      refine pl0 ?_
      by_cases c16 : 0 ≤ x6 ∧ x6 < (x0_.length : Int)
      rotate_left
      · rw [if_neg c16] at H; cases H
      rw [if_pos c16] at H
      have hE_ := hE
      obtain ⟨ad17, rfl⟩ := g0_0.addr c16.1 c16.2
      replace hE := hE_
      obtain ⟨cs19, rfl, hc20⟩ := g0_0.el T_api_Node.z x6 c16.1 c16.2
      refine plc hE (.r 0 2 <| .x 2 c16 <| .r 3 1 <| .c 4 (hS.fc hc20 0) <| .r 5 2 <| .nil) (fun a hE => ?_)
      refine pld ?_
      refine hK15 _ _ ?_
      by_cases c21 : (nth T_api_Node.z x0_ x6).f0 = x1_
      · rw [if_pos c21] at H
        replace hE := hE.kt 19 c21
        refine ct hE ?_
        refine wp_seq_k fun K22 hK22 => ?_
        refine pl0 ?_
        refine plc hE (.r 0 2 <| .x 2 c16 <| .cs 3 (hS.fcs hc20) <| .nil) (fun a hE => ?_)
        refine ple hE (.sto hS [.int .i64 ((nth T_api_Node.z x0_ x6).f0), .int .i64 ((nth T_api_Node.z x0_ x6).f1), .int .i64 ((nth T_api_Node.z x0_ x6).f2), .int .i64 ((nth T_api_Node.z x0_ x6).f3), .bool ((nth T_api_Node.z x0_ x6).f4), .bool ((nth T_api_Node.z x0_ x6).f5)]) ?_
        rintro _ u26 a ⟨rfl, hb2, hS, hz⟩ hE
        refine plc hE (.r 5 1 .nil) (fun a hE => ?_)
        refine pld ?_
        refine hK22 _ _ ?_
        refine wp_ret (block_ret (then_ret (then_ret (block_ret (then_ret ?_)))))
        replace hS := hS.tail
        obtain rfl := Option.some.inj H
        exact retN hE rfl (of_decide_eq_true rfl) (.cell (by kernel_rfl) (res_blk [.int .i64 ((nth T_api_Node.z x0_ x6).f0), .int .i64 ((nth T_api_Node.z x0_ x6).f1), .int .i64 ((nth T_api_Node.z x0_ x6).f2), .int .i64 ((nth T_api_Node.z x0_ x6).f3), .bool ((nth T_api_Node.z x0_ x6).f4), .bool ((nth T_api_Node.z x0_ x6).f5)] ag102 sz102 hb2 rfl) (.tmp (by kernel_rfl) .nil)) ⟨_, rfl, _, rfl, hS⟩
      · rw [if_neg c21] at H
        replace hE := hE.kf 19 c21
        refine cf hE ?_
        refine wp_skip ?_
        refine block_n ?_
        refine hK14 _ _ ?_
        refine pl0 ?_
        refine plc hE (.r 0 3 .nil) (fun a hE => ?_)
        refine pld ?_
        exact then_n ⟨k9, by omega, _, (w64 (x6 + 1)), by omega, hE, .of, hS, H⟩
    · rw [if_neg c13] at H
      replace hE := hE.kf 10 c13
      refine cf hE ?_
      refine wp_exit ?_
      refine hK4 _ _ ?_
      refine wp_seq_k fun K27 hK27 => ?_
      refine pl0 ?_
      refine plc hE (.r 0 1 .nil) (fun a hE => ?_)
      refine ple hE (.sto hS [.int .i64 0, .int .i64 0, .int .i64 0, .int .i64 0, .bool false, .bool false]) ?_
      rintro _ u28 a ⟨rfl, hb2, hS, hz⟩ hE
      refine plc hE (.r 2 1 .nil) (fun a hE => ?_)
      refine pld ?_
      refine hK27 _ _ ?_
      refine wp_ret ?_
      replace hS := hS.tail
      obtain rfl := Option.some.inj H
      exact retN hE rfl (of_decide_eq_true rfl) (.cell (by kernel_rfl) (res_blk [.int .i64 0, .int .i64 0, .int .i64 0, .int .i64 0, .bool false, .bool false] ag102 sz102 hb2 rfl) (.tmp (by kernel_rfl) .nil)) ⟨_, rfl, _, rfl, hS⟩

end Go.Proofs.Ytihjknnhbgkinaa.SM
