/- Functions of the program, what each computes (written by wip/s/sl.py). -/
import Derived.Test.YtpohepinmjmbkaaGreatQB4
namespace Go.Proofs.YtpohepinmjmbkaaGreat.QB
open Go Go.RowKit Go.Proofs.YtpohepinmjmbkaaGreat.Sl
set_option linter.unusedVariables false
set_option linter.unusedSimpArgs false
set_option maxHeartbeats 4000000
set_option maxRecDepth 100000
/-! ### windrose/place.Run: function 166 -/
mutual
def place_Run.j16 : Nat → List T_api_Node → List T_api_Step → Int → Int → Bool → Option ((List Int) × Int)
  | 0, _, _, _, _, _ => none
  | k + 1, x0_, x1_, x2_, x3_, y15 => if y15 = true then (some ([], 1)) else (place_Run.l38 k x0_ x1_ x2_ x3_ [] [] 0)
def place_Run.l38 : Nat → List T_api_Node → List T_api_Step → Int → Int → List T_place_item → List Int → Int → Option ((List Int) × Int)
  | 0, _, _, _, _, _, _, _ => none
  | k + 1, x0_, x1_, x2_, x3_, l32, l35, x36 => if x36 < (x1_.length : Int) then (if 0 ≤ x36 ∧ x36 < (x1_.length : Int) then (if (nth T_api_Step.z x1_ x36).f0 = 1 then (place_Run.l38 k x0_ x1_ x2_ x3_ [(⟨0, 0, 0⟩ : T_place_item)] l35 (w64 (x36 + 1))) else (if (nth T_api_Step.z x1_ x36).f0 = 2 then (place_Run.l73 k x0_ x1_ x2_ x3_ l32 l35 x36 [] 0) else (place_Run.l111 k x0_ x1_ x2_ x3_ l32 x36 l35 0))) else (none)) else (some (l35, 0))
def place_Run.l73 : Nat → List T_api_Node → List T_api_Step → Int → Int → List T_place_item → List Int → Int → List T_place_item → Int → Option ((List Int) × Int)
  | 0, _, _, _, _, _, _, _, _, _ => none
  | k + 1, x0_, x1_, x2_, x3_, l32, l35, x36, l70, x71 => if x71 < (l32.length : Int) then (if 0 ≤ x71 ∧ x71 < (l32.length : Int) then ((place_choose.f k x0_ (⟨(nth T_place_item.z l32 x71).f0, (nth T_place_item.z l32 x71).f1, (nth T_place_item.z l32 x71).f2⟩ : T_place_item) (⟨(nth T_api_Step.z x1_ x36).f0, (nth T_api_Step.z x1_ x36).f1, (nth T_api_Step.z x1_ x36).f2⟩ : T_api_Step) x2_).bind fun t92 => (if ((l70.length : Int) + (t92.length : Int)) * 24 ≤ 140737488355328 then (place_Run.l73 k x0_ x1_ x2_ x3_ l32 l35 x36 (l70 ++ t92) (w64 (x71 + 1))) else (none))) else (none)) else (place_Run.l38 k x0_ x1_ x2_ x3_ l70 l35 (w64 (x36 + 1)))
def place_Run.l111 : Nat → List T_api_Node → List T_api_Step → Int → Int → List T_place_item → Int → List Int → Int → Option ((List Int) × Int)
  | 0, _, _, _, _, _, _, _, _ => none
  | k + 1, x0_, x1_, x2_, x3_, l32, x36, l109, x110 => if x110 < (l32.length : Int) then (if 0 ≤ x110 ∧ x110 < (l32.length : Int) then (if (l109.length : Int) < x3_ then ((slices_Contains__int_int.f k l109 ((nth T_place_item.z l32 x110).f2)).bind fun t132 => (place_Run.j135 k x0_ x1_ x2_ x3_ l32 x36 l109 x110 (!t132))) else (place_Run.j135 k x0_ x1_ x2_ x3_ l32 x36 l109 x110 false)) else (none)) else (place_Run.l38 k x0_ x1_ x2_ x3_ [] l109 (w64 (x36 + 1)))
def place_Run.j135 : Nat → List T_api_Node → List T_api_Step → Int → Int → List T_place_item → Int → List Int → Int → Bool → Option ((List Int) × Int)
  | 0, _, _, _, _, _, _, _, _, _ => none
  | k + 1, x0_, x1_, x2_, x3_, l32, x36, l109, x110, y134 => if y134 = true then (if ((l109.length : Int) + ((1 : Nat) : Int)) * 8 ≤ 140737488355328 then (place_Run.l111 k x0_ x1_ x2_ x3_ l32 x36 (l109 ++ [(nth T_place_item.z l32 x110).f2]) (w64 (x110 + 1))) else (none)) else (place_Run.l111 k x0_ x1_ x2_ x3_ l32 x36 l109 (w64 (x110 + 1)))
end
theorem place_Run.j16_s (k : Nat) (x0_ : List T_api_Node) (x1_ : List T_api_Step) (x2_ : Int) (x3_ : Int) (y15 : Bool) : place_Run.j16 (k + 1) x0_ x1_ x2_ x3_ y15 = (if y15 = true then (some ([], 1)) else (place_Run.l38 k x0_ x1_ x2_ x3_ [] [] 0)) := by kernel_rfl
theorem place_Run.l38_s (k : Nat) (x0_ : List T_api_Node) (x1_ : List T_api_Step) (x2_ : Int) (x3_ : Int) (l32 : List T_place_item) (l35 : List Int) (x36 : Int) : place_Run.l38 (k + 1) x0_ x1_ x2_ x3_ l32 l35 x36 = (if x36 < (x1_.length : Int) then (if 0 ≤ x36 ∧ x36 < (x1_.length : Int) then (if (nth T_api_Step.z x1_ x36).f0 = 1 then (place_Run.l38 k x0_ x1_ x2_ x3_ [(⟨0, 0, 0⟩ : T_place_item)] l35 (w64 (x36 + 1))) else (if (nth T_api_Step.z x1_ x36).f0 = 2 then (place_Run.l73 k x0_ x1_ x2_ x3_ l32 l35 x36 [] 0) else (place_Run.l111 k x0_ x1_ x2_ x3_ l32 x36 l35 0))) else (none)) else (some (l35, 0))) := by kernel_rfl
theorem place_Run.l73_s (k : Nat) (x0_ : List T_api_Node) (x1_ : List T_api_Step) (x2_ : Int) (x3_ : Int) (l32 : List T_place_item) (l35 : List Int) (x36 : Int) (l70 : List T_place_item) (x71 : Int) : place_Run.l73 (k + 1) x0_ x1_ x2_ x3_ l32 l35 x36 l70 x71 = (if x71 < (l32.length : Int) then (if 0 ≤ x71 ∧ x71 < (l32.length : Int) then ((place_choose.f k x0_ (⟨(nth T_place_item.z l32 x71).f0, (nth T_place_item.z l32 x71).f1, (nth T_place_item.z l32 x71).f2⟩ : T_place_item) (⟨(nth T_api_Step.z x1_ x36).f0, (nth T_api_Step.z x1_ x36).f1, (nth T_api_Step.z x1_ x36).f2⟩ : T_api_Step) x2_).bind fun t92 => (if ((l70.length : Int) + (t92.length : Int)) * 24 ≤ 140737488355328 then (place_Run.l73 k x0_ x1_ x2_ x3_ l32 l35 x36 (l70 ++ t92) (w64 (x71 + 1))) else (none))) else (none)) else (place_Run.l38 k x0_ x1_ x2_ x3_ l70 l35 (w64 (x36 + 1)))) := by kernel_rfl
theorem place_Run.l111_s (k : Nat) (x0_ : List T_api_Node) (x1_ : List T_api_Step) (x2_ : Int) (x3_ : Int) (l32 : List T_place_item) (x36 : Int) (l109 : List Int) (x110 : Int) : place_Run.l111 (k + 1) x0_ x1_ x2_ x3_ l32 x36 l109 x110 = (if x110 < (l32.length : Int) then (if 0 ≤ x110 ∧ x110 < (l32.length : Int) then (if (l109.length : Int) < x3_ then ((slices_Contains__int_int.f k l109 ((nth T_place_item.z l32 x110).f2)).bind fun t132 => (place_Run.j135 k x0_ x1_ x2_ x3_ l32 x36 l109 x110 (!t132))) else (place_Run.j135 k x0_ x1_ x2_ x3_ l32 x36 l109 x110 false)) else (none)) else (place_Run.l38 k x0_ x1_ x2_ x3_ [] l109 (w64 (x36 + 1)))) := by kernel_rfl
theorem place_Run.j135_s (k : Nat) (x0_ : List T_api_Node) (x1_ : List T_api_Step) (x2_ : Int) (x3_ : Int) (l32 : List T_place_item) (x36 : Int) (l109 : List Int) (x110 : Int) (y134 : Bool) : place_Run.j135 (k + 1) x0_ x1_ x2_ x3_ l32 x36 l109 x110 y134 = (if y134 = true then (if ((l109.length : Int) + ((1 : Nat) : Int)) * 8 ≤ 140737488355328 then (place_Run.l111 k x0_ x1_ x2_ x3_ l32 x36 (l109 ++ [(nth T_place_item.z l32 x110).f2]) (w64 (x110 + 1))) else (none)) else (place_Run.l111 k x0_ x1_ x2_ x3_ l32 x36 l109 (w64 (x110 + 1)))) := by kernel_rfl
def place_Run.f (k : Nat) (x0_ : List T_api_Node) (x1_ : List T_api_Step) (x2_ : Int) (x3_ : Int) : Option ((List Int) × Int) := (topo_Check.f k x0_).bind fun t5 => (if t5 = 0 then ((place_Check.f k x1_).bind fun t9 => (if t9 = 0 then (if x2_ < 0 then (place_Run.j16 k x0_ x1_ x2_ x3_ true) else (if x2_ ≥ 8 then (place_Run.j16 k x0_ x1_ x2_ x3_ true) else (if x3_ < 1 then (place_Run.j16 k x0_ x1_ x2_ x3_ true) else (place_Run.j16 k x0_ x1_ x2_ x3_ (decide (x3_ > 3)))))) else (place_Run.j16 k x0_ x1_ x2_ x3_ true))) else (place_Run.j16 k x0_ x1_ x2_ x3_ true))
def place_Run.Post (W F : World) (r : (List Int) × Int) (v : Value) (w' : World) : Prop := ∃ (F' : World) (RA0_0 : Option Addr) (rc0_0 : Nat), v = .tuple #[.slice RA0_0 r.1.length rc0_0, .int .i64 r.2] ∧ St W (mine W []) F w' F' [row (Kn.int .i64) 3 (.slice RA0_0 r.1.length rc0_0) r.1]
theorem place_Run.calls (k : Nat) (x0_ : List T_api_Node) (x1_ : List T_api_Step) (x2_ : Int) (x3_ : Int) (A0_0 : Option Addr) (c0_0 : Nat) (A1_0 : Option Addr) (c1_0 : Nat) (r : (List Int) × Int) (W F : World) (hown : Sub F W) (g0_0 : Rd T_api_Node.k F A0_0 c0_0 x0_) (g1_0 : Rd T_api_Step.k F A1_0 c1_0 x1_) (H : place_Run.f k x0_ x1_ x2_ x3_ = some r) :
    Calls Tryz.prog 166 #[.slice A0_0 x0_.length c0_0, .slice A1_0 x1_.length c1_0, .int .i64 x2_, .int .i64 x3_] W fun e w' => ∃ v, e = .returned v ∧ place_Run.Post W F r v w' := by
 have hS := St.start (Own.nil hown)
 unfold place_Run.f at H
 refine enter (n := 97) rfl rfl rfl (Nat.le_of_ble_eq_true rfl) (fun a hE => ?_)
 refine wp_seq_k fun K1 hK1 => pl0 (plc hE (.r 0 2 .nil) (fun a hE => pld (hK1 _ _ (wp_seq_k fun K2 hK2 => wp_seq_k fun K3 hK3 => ?_))))
 have J19 : ∀ kq17, kq17 ≤ k → ∀ (G : Nat → Value) (y15 : Bool) (a : Act) (w' : World), Env 97 G a → At G [(0, .slice A0_0 x0_.length c0_0), (1, .slice A1_0 x1_.length c1_0), (2, .int .i64 x2_), (3, .int .i64 x3_), (42, .bool y15)] → St W (mine W []) F w' F [] → place_Run.j16 kq17 x0_ x1_ x2_ x3_ y15 = some r → K3 a w' := by
  intro kq17 hkq G y15 a u20 hE hA hS H
  cases kq17 with
  | zero => cases (show none = some r from H)
  | succ k18 =>
   rw [place_Run.j16_s] at H
   obtain ⟨J, hE⟩ := hE.at hA
   refine hK3 _ _ ?_
   rcases sp H with ⟨c21, H⟩ | ⟨c21, H⟩
   ·
    replace hE := hE.bt 42 c21
    refine ct hE (wp_seq_k fun K22 hK22 => pl0 (plc hE (.r 0 2 .nil) (fun a hE => pld (hK22 _ _ (wp_ret (then_ret ?_))))))
    replace hS := hS.nilrow (Kn.int .i64) 3
    obtain rfl := si H
    exact rtN hE ⟨_, rfl, _, _, _, rfl, hS⟩
   ·
    replace hE := hE.bf 42 c21
    refine cf hE (wp_skip (hK2 _ _ (wp_seq_k fun K24 hK24 => pl0 (plc hE (.r 0 1 .nil) (fun a hE => pld (hK24 _ _ (wp_seq_k fun K25 hK25 => pl0 (plc hE (.r 0 1 .nil) (fun a hE => pld (hK25 _ _ (wp_seq_k fun K26 hK26 => wp_seq_k fun K27 hK27 => pl0 (plc hE (.r 0 3 .nil) (fun a hE => pld (hK27 _ _ (wp_block ?_)))))))))))))))
    replace hS := hS.nilrow T_place_item.k 212
    replace hS := hS.nilrow (Kn.int .i64) 3
    replace hS := hS.front 1 rfl
    refine wp_loop_ghost (fun kq39 a w' => ∃ (G : Nat → Value) (A30 : Option Addr) (c31 : Nat) (l32 : List T_place_item) (A33 : Option Addr) (c34 : Nat) (l35 : List Int) (x36 : Int) (F37 : World), kq39 ≤ k18 ∧ Env 97 G a ∧ At G [(0, .slice A0_0 x0_.length c0_0), (2, .int .i64 x2_), (3, .int .i64 x3_), (10, .slice A30 l32.length c31), (11, .slice A33 l35.length c34), (43, .slice A1_0 x1_.length c1_0), (44, .int .i64 (x1_.length : Int)), (45, .int .i64 x36)] ∧ St W (mine W []) F w' F37 [row T_place_item.k 212 (.slice A30 l32.length c31) l32, row (Kn.int .i64) 3 (.slice A33 l35.length c34) l35] ∧ Rd T_api_Node.k F37 A0_0 c0_0 x0_ ∧ Rd T_api_Step.k F37 A1_0 c1_0 x1_ ∧  place_Run.l38 kq39 x0_ x1_ x2_ x3_ l32 l35 x36 = some r) k18 ⟨_, none, 0, [], none, 0, [], 0, F, Nat.le_refl _, hE, .of, hS, g0_0, g1_0, H⟩ ?_
    rintro kq39 a u41 ⟨G, A30, c31, l32, A33, c34, l35, x36, F37, hkq, hE, hA, hS, g0_0, g1_0, H⟩
    cases kq39 with
    | zero => cases (show none = some r from H)
    | succ k40 =>
     rw [place_Run.l38_s] at H
     obtain ⟨J, hE⟩ := hE.at hA
     refine wp_seq_k fun K42 hK42 => pl0 (plc hE (.r 0 1 .nil) (fun a hE => pld (hK42 _ _ (wp_seq_k fun K43 hK43 => ?_))))
     rcases sp H with ⟨c44, H⟩ | ⟨c44, H⟩
     ·
      replace hE := hE.kt 46 c44
      refine ct hE (wp_skip (hK43 _ _ (wp_seq_k fun K45 hK45 => wp_block (wp_seq_k fun K46 hK46 => pl0 ?_))))
      obtain ⟨c47, H⟩ := gd H
      have hE_ := hE
      obtain ⟨ad48, rfl⟩ := g1_0.addr c47.1 c47.2
      replace hE := hE_
      obtain ⟨cs50, rfl, hc51⟩ := g1_0.el T_api_Step.z x36 c47.1 c47.2
      refine plc hE (.x 0 c47 <| .cs 1 (hS.fcs hc51) <| .nil) (fun a hE => ple hE (.al (t := 175) hS [.int .i64 0, .int .i64 0, .int .i64 0]) ?_)
      rintro _ u53 a ⟨b52, rfl, hb52, hS, hg⟩ hE
      refine ple hE (.sto hS [.int .i64 ((nth T_api_Step.z x1_ x36).f0), .int .i64 ((nth T_api_Step.z x1_ x36).f1), .int .i64 ((nth T_api_Step.z x1_ x36).f2)]) ?_
      rintro _ u54 a ⟨rfl, hb52, hS, hz⟩ hE
      refine pld (hK46 _ _ (wp_seq_k fun K55 hK55 => pl0 (plc hE (.r 0 1 <| .b 1 0 hb52 <| .nil) (fun a hE => pld (hK55 _ _ (wp_block (wp_seq_k fun K56 hK56 => pl0 (plc hE (.r 0 2 .nil) (fun a hE => pld (hK56 _ _ ?_))))))))))
      rcases sp H with ⟨c57, H⟩ | ⟨c57, H⟩
      ·
       replace hE := hE.kt 74 c57
       refine ct hE (pl0 (plc hE (.r 0 1 .nil) (fun a hE => ple hE (.lit (d := T_place_item.k) (e := 212) hS [(⟨0, 0, 0⟩ : T_place_item)] (.cons rfl .nil)) ?_)))
       rintro _ u58 a ⟨A59, c60, rfl, hS, hg⟩ hE
       refine plc hE (.r 2 1 .nil) (fun a hE => pld ?_)
       refine block_n ?_
       refine block_n ?_
       refine hK45 _ _ (pl0 (plc hE (.r 0 2 .nil) (fun a hE => pld ?_)))
       replace hS := hS.front 1 rfl
       replace hS := hS.tail
       replace hS := hS.front 1 rfl
       replace hS := hS.tail
       exact then_n ⟨k40, by omega, _, A59, c60, [(⟨0, 0, 0⟩ : T_place_item)], A33, c34, l35, (w64 (x36 + 1)), F37, by omega, hE, .of, hS, g0_0, g1_0, H⟩
      ·
       replace hE := hE.kf 74 c57
       refine cf hE (wp_seq_k fun K62 hK62 => pl0 (plc hE (.r 0 2 .nil) (fun a hE => pld (hK62 _ _ ?_))))
       rcases sp H with ⟨c63, H⟩ | ⟨c63, H⟩
       ·
        replace hE := hE.kt 78 c63
        refine ct hE (wp_seq_k fun K64 hK64 => pl0 (plc hE (.r 0 1 .nil) (fun a hE => pld (hK64 _ _ (wp_seq_k fun K65 hK65 => wp_seq_k fun K66 hK66 => pl0 (plc hE (.r 0 3 .nil) (fun a hE => pld (hK66 _ _ (wp_block ?_)))))))))
        replace hS := hS.nilrow T_place_item.k 212
        replace hS := hS.front 3 rfl
        replace hS := hS.front 3 rfl
        replace hS := hS.front 3 rfl
        refine wp_loop_ghost (fun kq74 a w' => ∃ (G : Nat → Value) (A68 : Option Addr) (c69 : Nat) (l70 : List T_place_item) (x71 : Int) (F72 : World), kq74 ≤ k40 ∧ Env 97 G a ∧ At G [(0, .slice A0_0 x0_.length c0_0), (2, .int .i64 x2_), (3, .int .i64 x3_), (11, .slice A33 l35.length c34), (13, .pointer (some ⟨b52, 0, none⟩)), (14, .slice A68 l70.length c69), (43, .slice (some ad48) x1_.length c1_0), (44, .int .i64 (x1_.length : Int)), (45, .int .i64 x36), (80, .slice A30 l32.length c31), (81, .int .i64 (l32.length : Int)), (82, .int .i64 x71)] ∧ St W (mine W []) F w' F72 [box b52 #[.int .i64 ((nth T_api_Step.z x1_ x36).f0), .int .i64 ((nth T_api_Step.z x1_ x36).f1), .int .i64 ((nth T_api_Step.z x1_ x36).f2)] 175, row T_place_item.k 212 (.slice A30 l32.length c31) l32, row (Kn.int .i64) 3 (.slice A33 l35.length c34) l35, row T_place_item.k 212 (.slice A68 l70.length c69) l70] ∧ Rd T_api_Node.k F72 A0_0 c0_0 x0_ ∧ Rd T_api_Step.k F72 (some ad48) c1_0 x1_ ∧  place_Run.l73 kq74 x0_ x1_ x2_ x3_ l32 l35 x36 l70 x71 = some r) k40 ⟨_, none, 0, [], 0, F37, Nat.le_refl _, hE, .of, hS, g0_0, g1_0, H⟩ ?_
        rintro kq74 a u76 ⟨G, A68, c69, l70, x71, F72, hkq, hE, hA, hS, g0_0, g1_0, H⟩
        cases kq74 with
        | zero => cases (show none = some r from H)
        | succ k75 =>
         rw [place_Run.l73_s] at H
         obtain ⟨J, hE⟩ := hE.at hA
         refine wp_seq_k fun K77 hK77 => pl0 (plc hE (.r 0 1 .nil) (fun a hE => pld (hK77 _ _ (wp_seq_k fun K78 hK78 => ?_))))
         rcases sp H with ⟨c79, H⟩ | ⟨c79, H⟩
         ·
          replace hE := hE.kt 83 c79
          refine ct hE (wp_skip (hK78 _ _ (wp_seq_k fun K80 hK80 => wp_block (wp_seq_k fun K81 hK81 => pl0 ?_))))
          obtain ⟨c82, H⟩ := gd H
          have hr83 := hS.row_at (i := 1) rfl
          have hE_ := hE
          obtain ⟨b84, rfl⟩ := row_addr hr83 c82.1 c82.2
          replace hE := hE_
          have hr_ := hS.row_at (i := 1) rfl
          obtain ⟨cs86, rfl, hc87⟩ := row_el hr_ T_place_item.z x71 c82.1 c82.2
          refine plc hE (.x 0 c82 <| .cs 1 hc87 <| .nil) (fun a hE => ple hE (.al (t := 212) hS [.int .i64 0, .int .i64 0, .int .i64 0]) ?_)
          rintro _ u89 a ⟨b88, rfl, hb88, hS, hg⟩ hE
          refine ple hE (.sto hS [.int .i64 ((nth T_place_item.z l32 x71).f0), .int .i64 ((nth T_place_item.z l32 x71).f1), .int .i64 ((nth T_place_item.z l32 x71).f2)]) ?_
          rintro _ u90 a ⟨rfl, hb88, hS, hz⟩ hE
          refine pld (hK81 _ _ (pl0 ?_))
          have hb52 := hS.blk_at (i := 1) rfl
          refine plc hE (.r 0 2 <| .bn 2 0 3 hb88 <| .bn 3 0 3 hb52 <| .r 4 1 <| .nil) (fun a hE => ?_)
          obtain ⟨t92, h93, H⟩ := bd H
          refine ple hE (.cl en204 (place_choose.calls k75 x0_ (⟨(nth T_place_item.z l32 x71).f0, (nth T_place_item.z l32 x71).f1, (nth T_place_item.z l32 x71).f2⟩ : T_place_item) (⟨(nth T_api_Step.z x1_ x36).f0, (nth T_api_Step.z x1_ x36).f1, (nth T_api_Step.z x1_ x36).f2⟩ : T_api_Step) x2_ _ _ _ _ _ hS.own.sub g0_0 h93)) ?_
          rintro _ u91 a ⟨F94, A95, c96, rfl, hC⟩ hE
          have hs := hC.sub
          replace hS := hS.called (X := []) hC
          replace g0_0 := g0_0.mono hs
          replace g1_0 := g1_0.mono hs
          obtain ⟨c99, H⟩ := gd H
          replace hS := hS.front 5 rfl
          refine ple hE (.ap (d := T_place_item.k) 24 hS (row_src (hS.row_at (i := 1) rfl)) c99 c96) ?_
          rintro _ u102 a ⟨A100, c101, rfl, hS, hz⟩ hE
          refine plc hE (.r 7 1 .nil) (fun a hE => pld ?_)
          refine block_n ?_
          refine hK80 _ _ (pl0 (plc hE (.r 0 2 .nil) (fun a hE => pld ?_)))
          replace hS := hS.front 1 rfl
          replace hS := hS.tail
          replace hS := hS.front 1 rfl
          replace hS := hS.tail
          replace hS := hS.front 3 rfl
          replace hS := hS.front 3 rfl
          replace hS := hS.front 3 rfl
          exact then_n ⟨k75, by omega, _, A100, c101, (l70 ++ t92), (w64 (x71 + 1)), F94, by omega, hE, .of, hS, g0_0, g1_0, H⟩
         ·
          replace hE := hE.kf 83 c79
          refine cf hE ?_
          refine wp_exit ?_
          refine hK65 _ _ (pl0 (plc hE (.r 0 2 .nil) (fun a hE => pld ?_)))
          refine block_n ?_
          refine block_n ?_
          refine hK45 _ _ (pl0 (plc hE (.r 0 2 .nil) (fun a hE => pld ?_)))
          replace hS := hS.tail
          replace hS := hS.tail
          replace hS := hS.front 1 rfl
          exact then_n ⟨k75, by omega, _, A68, c69, l70, A33, c34, l35, (w64 (x36 + 1)), F72, by omega, hE, .of, hS, g0_0, g1_0, H⟩
       ·
        replace hE := hE.kf 78 c63
        refine cf hE (wp_seq_k fun K104 hK104 => wp_seq_k fun K105 hK105 => pl0 (plc hE (.r 0 3 .nil) (fun a hE => pld (hK105 _ _ (wp_block ?_)))))
        refine wp_loop_ghost (fun kq112 a w' => ∃ (G : Nat → Value) (A107 : Option Addr) (c108 : Nat) (l109 : List Int) (x110 : Int), kq112 ≤ k40 ∧ Env 97 G a ∧ At G [(0, .slice A0_0 x0_.length c0_0), (2, .int .i64 x2_), (3, .int .i64 x3_), (11, .slice A107 l109.length c108), (43, .slice (some ad48) x1_.length c1_0), (44, .int .i64 (x1_.length : Int)), (45, .int .i64 x36), (51, .slice A30 l32.length c31), (52, .int .i64 (l32.length : Int)), (53, .int .i64 x110)] ∧ St W (mine W []) F w' F37 [box b52 #[.int .i64 ((nth T_api_Step.z x1_ x36).f0), .int .i64 ((nth T_api_Step.z x1_ x36).f1), .int .i64 ((nth T_api_Step.z x1_ x36).f2)] 175, row T_place_item.k 212 (.slice A30 l32.length c31) l32, row (Kn.int .i64) 3 (.slice A107 l109.length c108) l109] ∧  place_Run.l111 kq112 x0_ x1_ x2_ x3_ l32 x36 l109 x110 = some r) k40 ⟨_, A33, c34, l35, 0, Nat.le_refl _, hE, .of, hS, H⟩ ?_
        rintro kq112 a u114 ⟨G, A107, c108, l109, x110, hkq, hE, hA, hS, H⟩
        cases kq112 with
        | zero => cases (show none = some r from H)
        | succ k113 =>
         rw [place_Run.l111_s] at H
         obtain ⟨J, hE⟩ := hE.at hA
         refine wp_seq_k fun K115 hK115 => pl0 (plc hE (.r 0 1 .nil) (fun a hE => pld (hK115 _ _ (wp_seq_k fun K116 hK116 => ?_))))
         rcases sp H with ⟨c117, H⟩ | ⟨c117, H⟩
         ·
          replace hE := hE.kt 54 c117
          refine ct hE (wp_skip (hK116 _ _ (wp_seq_k fun K118 hK118 => wp_block (wp_seq_k fun K119 hK119 => pl0 ?_))))
          obtain ⟨c120, H⟩ := gd H
          have hr121 := hS.row_at (i := 1) rfl
          have hE_ := hE
          obtain ⟨b122, rfl⟩ := row_addr hr121 c120.1 c120.2
          replace hE := hE_
          have hr_ := hS.row_at (i := 1) rfl
          obtain ⟨cs124, rfl, hc125⟩ := row_el hr_ T_place_item.z x110 c120.1 c120.2
          refine plc hE (.x 0 c120 <| .cs 1 hc125 <| .nil) (fun a hE => ple hE (.al (t := 212) hS [.int .i64 0, .int .i64 0, .int .i64 0]) ?_)
          rintro _ u127 a ⟨b126, rfl, hb126, hS, hg⟩ hE
          refine ple hE (.sto hS [.int .i64 ((nth T_place_item.z l32 x110).f0), .int .i64 ((nth T_place_item.z l32 x110).f1), .int .i64 ((nth T_place_item.z l32 x110).f2)]) ?_
          rintro _ u128 a ⟨rfl, hb126, hS, hz⟩ hE
          refine pld (hK119 _ _ (wp_seq_k fun K129 hK129 => ?_))
          have J138 : ∀ kq136, kq136 ≤ k113 → ∀ (G : Nat → Value) (y134 : Bool) (a : Act) (w' : World), Env 97 G a → At G [(0, .slice A0_0 x0_.length c0_0), (2, .int .i64 x2_), (3, .int .i64 x3_), (11, .slice A107 l109.length c108), (18, .pointer (some ⟨b126, 0, none⟩)), (43, .slice (some ad48) x1_.length c1_0), (44, .int .i64 (x1_.length : Int)), (45, .int .i64 x36), (51, .slice (some ⟨b122, 0, none⟩) l32.length c31), (52, .int .i64 (l32.length : Int)), (53, .int .i64 x110), (67, .bool y134)] → St W (mine W []) F w' F37 [box b126 #[.int .i64 ((nth T_place_item.z l32 x110).f0), .int .i64 ((nth T_place_item.z l32 x110).f1), .int .i64 ((nth T_place_item.z l32 x110).f2)] 212, box b52 #[.int .i64 ((nth T_api_Step.z x1_ x36).f0), .int .i64 ((nth T_api_Step.z x1_ x36).f1), .int .i64 ((nth T_api_Step.z x1_ x36).f2)] 175, row T_place_item.k 212 (.slice (some ⟨b122, 0, none⟩) l32.length c31) l32, row (Kn.int .i64) 3 (.slice A107 l109.length c108) l109] → place_Run.j135 kq136 x0_ x1_ x2_ x3_ l32 x36 l109 x110 y134 = some r → K129 a w' := by
           intro kq136 hkq G y134 a u139 hE hA hS H
           cases kq136 with
           | zero => cases (show none = some r from H)
           | succ k137 =>
            rw [place_Run.j135_s] at H
            obtain ⟨J, hE⟩ := hE.at hA
            refine hK129 _ _ ?_
            rcases sp H with ⟨c140, H⟩ | ⟨c140, H⟩
            ·
             replace hE := hE.bt 67 c140
             refine ct hE (pl0 ?_)
             have hb126 := hS.blk_at (i := 0) rfl
             refine plc hE (.r 0 2 <| .b 2 2 hb126 <| .nil) (fun a hE => ple hE (.lit (d := (Kn.int .i64)) (e := 3) hS [(nth T_place_item.z l32 x110).f2] (.cons rfl .nil)) ?_)
             rintro _ u141 a ⟨A142, c143, rfl, hS, hg⟩ hE
             obtain ⟨c145, H⟩ := gd H
             replace hS := hS.front 4 rfl
             refine ple hE (.ap (d := (Kn.int .i64)) 8 hS (row_src (hS.row_at (i := 1) rfl)) c145 c143) ?_
             rintro _ u148 a ⟨A146, c147, rfl, hS, hz⟩ hE
             refine plc hE (.r 5 1 .nil) (fun a hE => pld ?_)
             refine block_n ?_
             refine hK118 _ _ (pl0 (plc hE (.r 0 2 .nil) (fun a hE => pld ?_)))
             replace hS := hS.front 1 rfl
             replace hS := hS.tail
             replace hS := hS.front 1 rfl
             replace hS := hS.tail
             replace hS := hS.front 2 rfl
             replace hS := hS.front 2 rfl
             exact then_n ⟨k137, by omega, _, A146, c147, (l109 ++ [(nth T_place_item.z l32 x110).f2]), (w64 (x110 + 1)), by omega, hE, .of, hS, H⟩
            ·
             replace hE := hE.bf 67 c140
             refine cf hE (wp_skip ?_)
             refine block_n ?_
             refine hK118 _ _ (pl0 (plc hE (.r 0 2 .nil) (fun a hE => pld ?_)))
             replace hS := hS.tail
             exact then_n ⟨k137, by omega, _, A107, c108, l109, (w64 (x110 + 1)), by omega, hE, .of, hS, H⟩
          refine pl0 (plc hE (.r 0 5 .nil) (fun a hE => ?_))
          rcases sp H with ⟨c130, H⟩ | ⟨c130, H⟩
          ·
           replace hE := hE.kt 61 c130
           refine plc hE (.r 5 2 <| .b 7 2 hb126 <| .nil) (fun a hE => ?_)
           obtain ⟨t132, h133, H⟩ := bd H
           refine ple hE (.cl en118 (slices_Contains__int_int.calls k113 l109 ((nth T_place_item.z l32 x110).f2) _ _ _ _ _ (Sub.refl _) (hS.rd_at (i := 3) rfl) h133)) ?_
           rintro _ u131 a ⟨_, rfl, hC⟩ hE
           replace hS := hS.lent hC
           refine plc hE (.r 9 2 .nil) (fun a hE => pld ?_)
           exact J138 _ (by omega) _ (!t132) _ _ hE .of hS H
          ·
           replace hE := hE.kf 61 c130
           refine plc hE (.r 5 6 .nil) (fun a hE => pld ?_)
           exact J138 _ (by omega) _ false _ _ hE .of hS H
         ·
          replace hE := hE.kf 54 c117
          refine cf hE ?_
          refine wp_exit ?_
          refine hK104 _ _ (pl0 (plc hE (.r 0 1 .nil) (fun a hE => pld ?_)))
          refine block_n ?_
          refine block_n ?_
          refine hK45 _ _ (pl0 (plc hE (.r 0 2 .nil) (fun a hE => pld ?_)))
          replace hS := hS.nilrow T_place_item.k 212
          replace hS := hS.front 1 rfl
          replace hS := hS.tail
          replace hS := hS.front 1 rfl
          replace hS := hS.tail
          exact then_n ⟨k113, by omega, _, none, 0, [], A107, c108, l109, (w64 (x36 + 1)), F37, by omega, hE, .of, hS, g0_0, g1_0, H⟩
     ·
      replace hE := hE.kf 46 c44
      refine cf hE ?_
      refine wp_exit ?_
      refine hK26 _ _ (wp_seq_k fun K152 hK152 => pl0 (plc hE (.r 0 3 .nil) (fun a hE => pld (hK152 _ _ (wp_ret ?_)))))
      replace hS := hS.tail
      obtain rfl := si H
      exact rtN hE ⟨_, rfl, _, _, _, rfl, hS⟩
 refine pl0 (plc hE (.r 0 1 .nil) (fun a hE => ?_))
 obtain ⟨t5, h6, H⟩ := bd H
 refine ple hE (.cl en80 (topo_Check.calls k x0_ _ _ _ _ _ hS.own.sub g0_0 h6)) ?_
 rintro _ u4 a ⟨_, rfl, hC⟩ hE
 replace hS := hS.lent hC
 refine plc hE (.r 2 2 .nil) (fun a hE => ?_)
 rcases sp H with ⟨c7, H⟩ | ⟨c7, H⟩
 ·
  replace hE := hE.ktn 22 c7
  refine plc hE (.r 4 1 .nil) (fun a hE => ?_)
  obtain ⟨t9, h10, H⟩ := bd H
  refine ple hE (.cl en203 (place_Check.calls k x1_ _ _ _ _ _ hS.own.sub g1_0 h10)) ?_
  rintro _ u8 a ⟨_, rfl, hC⟩ hE
  replace hS := hS.lent hC
  refine plc hE (.r 6 3 .nil) (fun a hE => ?_)
  rcases sp H with ⟨c11, H⟩ | ⟨c11, H⟩
  ·
   replace hE := hE.ktn 27 c11
   refine plc hE (.r 9 4 .nil) (fun a hE => ?_)
   rcases sp H with ⟨c12, H⟩ | ⟨c12, H⟩
   ·
    replace hE := hE.kt 31 c12
    refine plc hE (.r 13 11 .nil) (fun a hE => pld ?_)
    exact J19 _ (by omega) _ true _ _ hE .of hS H
   ·
    replace hE := hE.kf 31 c12
    refine plc hE (.r 13 4 .nil) (fun a hE => ?_)
    rcases sp H with ⟨c13, H⟩ | ⟨c13, H⟩
    ·
     replace hE := hE.kt 35 c13
     refine plc hE (.r 17 7 .nil) (fun a hE => pld ?_)
     exact J19 _ (by omega) _ true _ _ hE .of hS H
    ·
     replace hE := hE.kf 35 c13
     refine plc hE (.r 17 4 .nil) (fun a hE => ?_)
     rcases sp H with ⟨c14, H⟩ | ⟨c14, H⟩
     ·
      replace hE := hE.kt 39 c14
      refine plc hE (.r 21 3 .nil) (fun a hE => pld ?_)
      exact J19 _ (by omega) _ true _ _ hE .of hS H
     ·
      replace hE := hE.kf 39 c14
      refine plc hE (.r 21 3 .nil) (fun a hE => pld ?_)
      exact J19 _ (by omega) _ (decide (x3_ > 3)) _ _ hE .of hS H
  ·
   replace hE := hE.kfn 27 c11
   refine plc hE (.r 9 15 .nil) (fun a hE => pld ?_)
   exact J19 _ (by omega) _ true _ _ hE .of hS H
 ·
  replace hE := hE.kfn 22 c7
  refine plc hE (.r 4 20 .nil) (fun a hE => pld ?_)
  exact J19 _ (by omega) _ true _ _ hE .of hS H

/-! ### windrose/place.Of: function 122 -/
def place_Of.f (k : Nat) (x0_ : List T_api_Node) (x1_ : Int) (x2_ : Int) : Option (List Int) := (place_Common.f k x2_).bind fun t4 => ((place_Run.f k x0_ t4 x1_ x2_).bind fun t14 => (some t14.1))
def place_Of.Post (W F : World) (r : List Int) (v : Value) (w' : World) : Prop := ∃ (F' : World) (RA0_0 : Option Addr) (rc0_0 : Nat), v = .slice RA0_0 r.length rc0_0 ∧ St W (mine W []) F w' F' [row (Kn.int .i64) 3 (.slice RA0_0 r.length rc0_0) r]
theorem place_Of.calls (k : Nat) (x0_ : List T_api_Node) (x1_ : Int) (x2_ : Int) (A0_0 : Option Addr) (c0_0 : Nat) (r : List Int) (W F : World) (hown : Sub F W) (g0_0 : Rd T_api_Node.k F A0_0 c0_0 x0_) (H : place_Of.f k x0_ x1_ x2_ = some r) :
    Calls Tryz.prog 122 #[.slice A0_0 x0_.length c0_0, .int .i64 x1_, .int .i64 x2_] W fun e w' => ∃ v, e = .returned v ∧ place_Of.Post W F r v w' := by
 have hS := St.start (Own.nil hown)
 unfold place_Of.f at H
 refine enter (n := 19) rfl rfl rfl (Nat.le_of_ble_eq_true rfl) (fun a hE => ?_)
 refine wp_seq_k fun K1 hK1 => pl0 (plc hE (.r 0 1 .nil) (fun a hE => pld (hK1 _ _ (wp_seq_k fun K2 hK2 => pl0 (plc hE (.r 0 2 .nil) (fun a hE => ?_))))))
 obtain ⟨t4, h5, H⟩ := bd H
 refine ple hE (.cl en167 (place_Common.calls k x2_ _ _ _ hS.own.sub h5)) ?_
 rintro _ u3 a ⟨F6, A7, c8, rfl, hC⟩ hE
 have hs := hC.sub
 replace hS := hS.called (X := []) hC
 replace g0_0 := g0_0.mono hs
 refine plc hE (.r 3 2 .nil) (fun a hE => ?_)
 obtain ⟨F11, hs, g12, hS⟩ := hS.give
 replace g0_0 := g0_0.mono hs
 obtain ⟨t14, h15, H⟩ := bd H
 refine ple hE (.cl en166 (place_Run.calls k x0_ t4 x1_ x2_ _ _ _ _ _ _ _ hS.own.sub g0_0 g12 h15)) ?_
 rintro _ u13 a ⟨F16, A17, c18, rfl, hC⟩ hE
 have hs := hC.sub
 replace hS := hS.called (X := []) hC
 replace g0_0 := g0_0.mono hs
 replace g12 := g12.mono hs
 refine plc hE (.r 6 5 .nil) (fun a hE => pld (hK2 _ _ (wp_seq_k fun K21 hK21 => pl0 (plc hE (.r 0 2 .nil) (fun a hE => pld (hK21 _ _ (wp_ret ?_)))))))
 obtain rfl := si H
 exact rt1 hE ⟨_, rfl, _, _, _, rfl, hS⟩

/-! ### windrose/maps.raw: function 71 -/
def maps_raw.f (k : Nat) (x0_ : T_api_Map) (x1_ : Int) : Option (List Int) := (maps_temp.f k x0_ x1_).bind fun t7 => (if t7.2 = true then (if 0 ≤ t7.1 ∧ t7.1 < (x0_.f5.length : Int) then ((slices_Clone__int_int.f ((nth T_api_Temp.z x0_.f5 t7.1).f1)).bind fun t21 => (some t21)) else (none)) else ((place_Of.f k x0_.f4 x1_ x0_.f1).bind fun t30 => (some t30)))
def maps_raw.Post (W F : World) (r : List Int) (v : Value) (w' : World) : Prop := ∃ (F' : World) (RA0_0 : Option Addr) (rc0_0 : Nat), v = .slice RA0_0 r.length rc0_0 ∧ St W (mine W []) F w' F' [row (Kn.int .i64) 3 (.slice RA0_0 r.length rc0_0) r]
theorem maps_raw.calls (k : Nat) (x0_ : T_api_Map) (x1_ : Int) (A0_4 : Option Addr) (c0_4 : Nat) (A0_5 : Option Addr) (c0_5 : Nat) (A0_6 : Option Addr) (c0_6 : Nat) (r : List Int) (W F : World) (hown : Sub F W) (g0_4 : Rd T_api_Node.k F A0_4 c0_4 x0_.f4) (g0_5 : Rd T_api_Temp.k F A0_5 c0_5 x0_.f5) (g0_6 : Rd T_api_Trail.k F A0_6 c0_6 x0_.f6) (H : maps_raw.f k x0_ x1_ = some r) :
    Calls Tryz.prog 71 #[.agg #[.int .i64 x0_.f0, .int .i64 x0_.f1, .int .i64 x0_.f2, .int .i64 x0_.f3, .slice A0_4 x0_.f4.length c0_4, .slice A0_5 x0_.f5.length c0_5, .slice A0_6 x0_.f6.length c0_6], .int .i64 x1_] W fun e w' => ∃ v, e = .returned v ∧ maps_raw.Post W F r v w' := by
 have hS := St.start (Own.nil hown)
 unfold maps_raw.f at H
 refine enter (n := 27) rfl rfl rfl (Nat.le_of_ble_eq_true rfl) (fun a hE => ?_)
 refine wp_seq_k fun K1 hK1 => pl0 (ple hE (.bx (t := 26) hS [.int .i64 x0_.f0, .int .i64 x0_.f1, .int .i64 x0_.f2, .int .i64 x0_.f3, .slice A0_4 x0_.f4.length c0_4, .slice A0_5 x0_.f5.length c0_5, .slice A0_6 x0_.f6.length c0_6]) ?_)
 rintro _ u3 a ⟨b2, rfl, hb2, hS, hg⟩ hE
 refine plc hE (.r 1 1 .nil) (fun a hE => pld (hK1 _ _ (wp_seq_k fun K4 hK4 => wp_seq_k fun K5 hK5 => pl0 (plc hE (.bn 0 0 7 hb2 <| .r 1 1 <| .nil) (fun a hE => ?_)))))
 obtain ⟨t7, h8, H⟩ := bd H
 refine ple hE (.cl en121 (maps_temp.calls k x0_ x1_ _ _ _ _ _ _ _ _ _ hS.own.sub g0_4 g0_5 g0_6 h8)) ?_
 rintro _ u6 a ⟨_, rfl, hC⟩ hE
 replace hS := hS.lent hC
 refine plc hE (.r 3 5 .nil) (fun a hE => pld (hK5 _ _ (wp_seq_k fun K9 hK9 => pl0 (plc hE (.r 0 1 .nil) (fun a hE => pld (hK9 _ _ ?_))))))
 rcases sp H with ⟨c10, H⟩ | ⟨c10, H⟩
 ·
  replace hE := hE.bt 13 c10
  refine ct hE (wp_seq_k fun K11 hK11 => pl0 ?_)
  have hb2 := hS.blk_at (i := 0) rfl
  obtain ⟨c12, H⟩ := gd H
  have hE_ := hE
  obtain ⟨ad13, rfl⟩ := g0_5.addr c12.1 c12.2
  replace hE := hE_
  obtain ⟨cs15, ⟨A17, c18, rfl, g19⟩, hc16⟩ := g0_5.el T_api_Temp.z t7.1 c12.1 c12.2
  refine plc hE (.r 0 1 <| .b 1 5 hb2 <| .r 2 1 <| .x 3 c12 <| .r 4 1 <| .c 5 (hS.fc hc16 1) <| .nil) (fun a hE => ?_)
  obtain ⟨t21, h22, H⟩ := bd H
  refine ple hE (.cl en112 (slices_Clone__int_int.calls ((nth T_api_Temp.z x0_.f5 t7.1).f1) _ _ _ _ _ hS.own.sub g19 h22)) ?_
  rintro _ u20 a ⟨F23, A24, c25, rfl, hC⟩ hE
  have hs := hC.sub
  replace hS := hS.called (X := []) hC
  replace g0_4 := g0_4.mono hs
  replace g0_5 := g0_5.mono hs
  replace g0_6 := g0_6.mono hs
  replace g19 := g19.mono hs
  refine plc hE (.r 7 1 .nil) (fun a hE => pld (hK11 _ _ (wp_ret (then_ret ?_))))
  replace hS := hS.front 1 rfl
  replace hS := hS.tail
  obtain rfl := si H
  exact rt1 hE ⟨_, rfl, _, _, _, rfl, hS⟩
 ·
  replace hE := hE.bf 13 c10
  refine cf hE (wp_skip (hK4 _ _ (wp_seq_k fun K28 hK28 => pl0 ?_)))
  have hb2 := hS.blk_at (i := 0) rfl
  refine plc hE (.r 0 1 <| .b 1 4 hb2 <| .r 2 2 <| .b 4 1 hb2 <| .nil) (fun a hE => ?_)
  obtain ⟨t30, h31, H⟩ := bd H
  refine ple hE (.cl en122 (place_Of.calls k x0_.f4 x1_ x0_.f1 _ _ _ _ _ hS.own.sub g0_4 h31)) ?_
  rintro _ u29 a ⟨F32, A33, c34, rfl, hC⟩ hE
  have hs := hC.sub
  replace hS := hS.called (X := []) hC
  replace g0_4 := g0_4.mono hs
  replace g0_5 := g0_5.mono hs
  replace g0_6 := g0_6.mono hs
  refine plc hE (.r 6 1 .nil) (fun a hE => pld (hK28 _ _ (wp_ret ?_)))
  replace hS := hS.front 1 rfl
  replace hS := hS.tail
  obtain rfl := si H
  exact rt1 hE ⟨_, rfl, _, _, _, rfl, hS⟩

/-! ### windrose/topo.Find$1: function 174 -/
def topo_Find_1.f (x0_ : T_api_Node) (x1_ : Int) : Option Int := (cmp_Compare_int.f x0_.f0 x1_).bind fun t6 => (some t6)
def topo_Find_1.Post (W F : World) (r : Int) (v : Value) (w' : World) : Prop := ∃ (F' : World), v = .int .i64 r ∧ St W (mine W []) F w' F' []
theorem topo_Find_1.calls (x0_ : T_api_Node) (x1_ : Int) (r : Int) (W F : World) (hown : Sub F W) (H : topo_Find_1.f x0_ x1_ = some r) :
    Calls Tryz.prog 174 #[.agg #[.int .i64 x0_.f0, .int .i64 x0_.f1, .int .i64 x0_.f2, .int .i64 x0_.f3, .bool x0_.f4, .bool x0_.f5], .int .i64 x1_] W fun e w' => ∃ v, e = .returned v ∧ topo_Find_1.Post W F r v w' := by
 have hS := St.start (Own.nil hown)
 unfold topo_Find_1.f at H
 refine enter (n := 9) rfl rfl rfl (Nat.le_of_ble_eq_true rfl) (fun a hE => ?_)
 refine wp_seq_k fun K1 hK1 => pl0 (ple hE (.bx (t := 104) hS [.int .i64 x0_.f0, .int .i64 x0_.f1, .int .i64 x0_.f2, .int .i64 x0_.f3, .bool x0_.f4, .bool x0_.f5]) ?_)
 rintro _ u3 a ⟨b2, rfl, hb2, hS, hg⟩ hE
 refine plc hE (.r 1 1 .nil) (fun a hE => pld (hK1 _ _ (wp_seq_k fun K4 hK4 => pl0 (plc hE (.r 0 1 <| .b 1 0 hb2 <| .r 2 1 <| .nil) (fun a hE => ?_)))))
 obtain ⟨t6, h7, H⟩ := bd H
 refine ple hE (.cl en161 (cmp_Compare_int.calls x0_.f0 x1_ _ _ _ hS.own.sub h7)) ?_
 rintro _ u5 a ⟨_, rfl, hC⟩ hE
 replace hS := hS.lent hC
 refine plc hE (.r 4 1 .nil) (fun a hE => pld (hK4 _ _ (wp_ret ?_)))
 replace hS := hS.tail
 obtain rfl := si H
 exact rt1 hE ⟨_, rfl, _, rfl, hS⟩

/-! ### slices.BinarySearchFunc[[]windrose/api.Node,windrose/api.Node,int]: function 173 -/
def slices_BinarySearchFunc__api_Node_api_Node_int_of_topo_Find_1.l7 : Nat → List T_api_Node → Int → Int → Int → Option (Int × Bool)
  | 0, _, _, _, _ => none
  | k + 1, x0_, x1_, x5, x6 => if x5 < x6 then (if 0 ≤ (w64 ((IntKind.u64.wrap (w64 (x5 + x6))).fdiv 2)) ∧ (w64 ((IntKind.u64.wrap (w64 (x5 + x6))).fdiv 2)) < (x0_.length : Int) then ((topo_Find_1.f (⟨(nth T_api_Node.z x0_ (w64 ((IntKind.u64.wrap (w64 (x5 + x6))).fdiv 2))).f0, (nth T_api_Node.z x0_ (w64 ((IntKind.u64.wrap (w64 (x5 + x6))).fdiv 2))).f1, (nth T_api_Node.z x0_ (w64 ((IntKind.u64.wrap (w64 (x5 + x6))).fdiv 2))).f2, (nth T_api_Node.z x0_ (w64 ((IntKind.u64.wrap (w64 (x5 + x6))).fdiv 2))).f3, (nth T_api_Node.z x0_ (w64 ((IntKind.u64.wrap (w64 (x5 + x6))).fdiv 2))).f4, (nth T_api_Node.z x0_ (w64 ((IntKind.u64.wrap (w64 (x5 + x6))).fdiv 2))).f5⟩ : T_api_Node) x1_).bind fun t22 => (if t22 < 0 then (slices_BinarySearchFunc__api_Node_api_Node_int_of_topo_Find_1.l7 k x0_ x1_ (w64 ((w64 ((IntKind.u64.wrap (w64 (x5 + x6))).fdiv 2)) + 1)) x6) else (slices_BinarySearchFunc__api_Node_api_Node_int_of_topo_Find_1.l7 k x0_ x1_ x5 (w64 ((IntKind.u64.wrap (w64 (x5 + x6))).fdiv 2))))) else (none)) else (if x5 < (x0_.length : Int) then (if 0 ≤ x5 ∧ x5 < (x0_.length : Int) then ((topo_Find_1.f (⟨(nth T_api_Node.z x0_ x5).f0, (nth T_api_Node.z x0_ x5).f1, (nth T_api_Node.z x0_ x5).f2, (nth T_api_Node.z x0_ x5).f3, (nth T_api_Node.z x0_ x5).f4, (nth T_api_Node.z x0_ x5).f5⟩ : T_api_Node) x1_).bind fun t33 => (some (x5, (t33 == 0)))) else (none)) else (some (x5, false)))
theorem slices_BinarySearchFunc__api_Node_api_Node_int_of_topo_Find_1.l7_s (k : Nat) (x0_ : List T_api_Node) (x1_ : Int) (x5 : Int) (x6 : Int) : slices_BinarySearchFunc__api_Node_api_Node_int_of_topo_Find_1.l7 (k + 1) x0_ x1_ x5 x6 = (if x5 < x6 then (if 0 ≤ (w64 ((IntKind.u64.wrap (w64 (x5 + x6))).fdiv 2)) ∧ (w64 ((IntKind.u64.wrap (w64 (x5 + x6))).fdiv 2)) < (x0_.length : Int) then ((topo_Find_1.f (⟨(nth T_api_Node.z x0_ (w64 ((IntKind.u64.wrap (w64 (x5 + x6))).fdiv 2))).f0, (nth T_api_Node.z x0_ (w64 ((IntKind.u64.wrap (w64 (x5 + x6))).fdiv 2))).f1, (nth T_api_Node.z x0_ (w64 ((IntKind.u64.wrap (w64 (x5 + x6))).fdiv 2))).f2, (nth T_api_Node.z x0_ (w64 ((IntKind.u64.wrap (w64 (x5 + x6))).fdiv 2))).f3, (nth T_api_Node.z x0_ (w64 ((IntKind.u64.wrap (w64 (x5 + x6))).fdiv 2))).f4, (nth T_api_Node.z x0_ (w64 ((IntKind.u64.wrap (w64 (x5 + x6))).fdiv 2))).f5⟩ : T_api_Node) x1_).bind fun t22 => (if t22 < 0 then (slices_BinarySearchFunc__api_Node_api_Node_int_of_topo_Find_1.l7 k x0_ x1_ (w64 ((w64 ((IntKind.u64.wrap (w64 (x5 + x6))).fdiv 2)) + 1)) x6) else (slices_BinarySearchFunc__api_Node_api_Node_int_of_topo_Find_1.l7 k x0_ x1_ x5 (w64 ((IntKind.u64.wrap (w64 (x5 + x6))).fdiv 2))))) else (none)) else (if x5 < (x0_.length : Int) then (if 0 ≤ x5 ∧ x5 < (x0_.length : Int) then ((topo_Find_1.f (⟨(nth T_api_Node.z x0_ x5).f0, (nth T_api_Node.z x0_ x5).f1, (nth T_api_Node.z x0_ x5).f2, (nth T_api_Node.z x0_ x5).f3, (nth T_api_Node.z x0_ x5).f4, (nth T_api_Node.z x0_ x5).f5⟩ : T_api_Node) x1_).bind fun t33 => (some (x5, (t33 == 0)))) else (none)) else (some (x5, false)))) := by kernel_rfl
def slices_BinarySearchFunc__api_Node_api_Node_int_of_topo_Find_1.f (k : Nat) (x0_ : List T_api_Node) (x1_ : Int) : Option (Int × Bool) := slices_BinarySearchFunc__api_Node_api_Node_int_of_topo_Find_1.l7 k x0_ x1_ 0 (x0_.length : Int)
def slices_BinarySearchFunc__api_Node_api_Node_int_of_topo_Find_1.Post (W F : World) (r : Int × Bool) (v : Value) (w' : World) : Prop := ∃ (F' : World), v = .tuple #[.int .i64 r.1, .bool r.2] ∧ St W (mine W []) F w' F' []
theorem slices_BinarySearchFunc__api_Node_api_Node_int_of_topo_Find_1.calls (k : Nat) (x0_ : List T_api_Node) (x1_ : Int) (A0_0 : Option Addr) (c0_0 : Nat) (r : Int × Bool) (W F : World) (hown : Sub F W) (g0_0 : Rd T_api_Node.k F A0_0 c0_0 x0_) (H : slices_BinarySearchFunc__api_Node_api_Node_int_of_topo_Find_1.f k x0_ x1_ = some r) :
    Calls Tryz.prog 173 #[.slice A0_0 x0_.length c0_0, .int .i64 x1_, .func (.func 174) #[] #[]] W fun e w' => ∃ v, e = .returned v ∧ slices_BinarySearchFunc__api_Node_api_Node_int_of_topo_Find_1.Post W F r v w' := by
 have hS := St.start (Own.nil hown)
 unfold slices_BinarySearchFunc__api_Node_api_Node_int_of_topo_Find_1.f at H
 refine enter (n := 49) rfl rfl rfl (Nat.le_of_ble_eq_true rfl) (fun a hE => ?_)
 refine wp_seq_k fun K1 hK1 => pl0 (plc hE (.r 0 2 .nil) (fun a hE => pld (hK1 _ _ (wp_seq_k fun K2 hK2 => pl0 (plc hE (.r 0 3 .nil) (fun a hE => pld (hK2 _ _ (wp_seq_k fun K3 hK3 => pl0 (plc hE (.r 0 3 .nil) (fun a hE => pld (hK3 _ _ (wp_seq_k fun K4 hK4 => wp_block ?_))))))))))))
 refine wp_loop_ghost (fun kq8 a w' => ∃ (G : Nat → Value) (x5 : Int) (x6 : Int), kq8 ≤ k ∧ Env 49 G a ∧ At G [(0, .slice A0_0 x0_.length c0_0), (1, .int .i64 x1_), (2, .func (.func 174) #[] #[]), (8, .int .i64 (x0_.length : Int)), (9, .int .i64 x5), (10, .int .i64 x6)] ∧ St W (mine W []) F w' F [] ∧  slices_BinarySearchFunc__api_Node_api_Node_int_of_topo_Find_1.l7 kq8 x0_ x1_ x5 x6 = some r) k ⟨_, 0, (x0_.length : Int), Nat.le_refl _, hE, .of, hS, H⟩ ?_
 rintro kq8 a u10 ⟨G, x5, x6, hkq, hE, hA, hS, H⟩
 cases kq8 with
 | zero => cases (show none = some r from H)
 | succ k9 =>
  rw [slices_BinarySearchFunc__api_Node_api_Node_int_of_topo_Find_1.l7_s] at H
  obtain ⟨J, hE⟩ := hE.at hA
  refine wp_seq_k fun K11 hK11 => wp_seq_k fun K12 hK12 => pl0 (plc hE (.r 0 3 .nil) (fun a hE => pld (hK12 _ _ ?_)))
  rcases sp H with ⟨c13, H⟩ | ⟨c13, H⟩
  ·
   replace hE := hE.kt 17 c13
   refine ct hE (wp_skip (hK11 _ _ (wp_block (wp_seq_k fun K14 hK14 => pl0 (plc hE (.r 0 7 .nil) (fun a hE => pld (hK14 _ _ (wp_seq_k fun K15 hK15 => pl0 ?_))))))))
   obtain ⟨c16, H⟩ := gd H
   have hE_ := hE
   obtain ⟨ad17, rfl⟩ := g0_0.addr c16.1 c16.2
   replace hE := hE_
   obtain ⟨cs19, rfl, hc20⟩ := g0_0.el T_api_Node.z (w64 ((IntKind.u64.wrap (w64 (x5 + x6))).fdiv 2)) c16.1 c16.2
   refine plc hE (.r 0 3 <| .x 3 c16 <| .cs 4 (hS.fcs hc20) <| .r 5 1 <| .nil) (fun a hE => ?_)
   obtain ⟨t22, h23, H⟩ := bd H
   refine ple hE (.cl en174 (topo_Find_1.calls (⟨(nth T_api_Node.z x0_ (w64 ((IntKind.u64.wrap (w64 (x5 + x6))).fdiv 2))).f0, (nth T_api_Node.z x0_ (w64 ((IntKind.u64.wrap (w64 (x5 + x6))).fdiv 2))).f1, (nth T_api_Node.z x0_ (w64 ((IntKind.u64.wrap (w64 (x5 + x6))).fdiv 2))).f2, (nth T_api_Node.z x0_ (w64 ((IntKind.u64.wrap (w64 (x5 + x6))).fdiv 2))).f3, (nth T_api_Node.z x0_ (w64 ((IntKind.u64.wrap (w64 (x5 + x6))).fdiv 2))).f4, (nth T_api_Node.z x0_ (w64 ((IntKind.u64.wrap (w64 (x5 + x6))).fdiv 2))).f5⟩ : T_api_Node) x1_ _ _ _ hS.own.sub h23)) ?_
   rintro _ u21 a ⟨_, rfl, hC⟩ hE
   replace hS := hS.lent hC
   refine plc hE (.r 7 1 .nil) (fun a hE => pld (hK15 _ _ ?_))
   rcases sp H with ⟨c24, H⟩ | ⟨c24, H⟩
   ·
    replace hE := hE.kt 31 c24
    refine ct hE (pl0 (plc hE (.r 0 3 .nil) (fun a hE => pld ?_)))
    refine block_n ?_
    exact then_n ⟨k9, by omega, _, (w64 ((w64 ((IntKind.u64.wrap (w64 (x5 + x6))).fdiv 2)) + 1)), x6, by omega, hE, .of, hS, H⟩
   ·
    replace hE := hE.kf 31 c24
    refine cf hE (pl0 (plc hE (.r 0 2 .nil) (fun a hE => pld ?_)))
    refine block_n ?_
    exact then_n ⟨k9, by omega, _, x5, (w64 ((IntKind.u64.wrap (w64 (x5 + x6))).fdiv 2)), by omega, hE, .of, hS, H⟩
  ·
   replace hE := hE.kf 17 c13
   refine cf hE ?_
   refine wp_exit ?_
   refine hK4 _ _ (wp_seq_k fun K25 hK25 => pl0 (plc hE (.r 0 5 .nil) (fun a hE => ?_)))
   rcases sp H with ⟨c26, H⟩ | ⟨c26, H⟩
   ·
    replace hE := hE.kt 39 c26
    obtain ⟨c27, H⟩ := gd H
    have hE_ := hE
    obtain ⟨ad28, rfl⟩ := g0_0.addr c27.1 c27.2
    replace hE := hE_
    obtain ⟨cs30, rfl, hc31⟩ := g0_0.el T_api_Node.z x5 c27.1 c27.2
    refine plc hE (.r 5 3 <| .x 8 c27 <| .cs 9 (hS.fcs hc31) <| .r 10 1 <| .nil) (fun a hE => ?_)
    obtain ⟨t33, h34, H⟩ := bd H
    refine ple hE (.cl en174 (topo_Find_1.calls (⟨(nth T_api_Node.z x0_ x5).f0, (nth T_api_Node.z x0_ x5).f1, (nth T_api_Node.z x0_ x5).f2, (nth T_api_Node.z x0_ x5).f3, (nth T_api_Node.z x0_ x5).f4, (nth T_api_Node.z x0_ x5).f5⟩ : T_api_Node) x1_ _ _ _ hS.own.sub h34)) ?_
    rintro _ u32 a ⟨_, rfl, hC⟩ hE
    replace hS := hS.lent hC
    refine plc hE (.r 12 4 .nil) (fun a hE => pld (hK25 _ _ (wp_ret ?_)))
    obtain rfl := si H
    exact rtN hE ⟨_, rfl, _, rfl, hS⟩
   ·
    replace hE := hE.kf 39 c26
    refine plc hE (.r 5 11 .nil) (fun a hE => pld (hK25 _ _ (wp_ret ?_)))
    obtain rfl := si H
    exact rtN hE ⟨_, rfl, _, rfl, hS⟩

/-! ### windrose/topo.Find: function 127 -/
def topo_Find.j15 : Nat → List T_api_Node → Int × Bool → Bool → Option (T_api_Node × Bool)
  | 0, _, _, _ => none
  | k + 1, x0_, t6, y14 => if y14 = true then (some ((⟨0, 0, 0, 0, false, false⟩ : T_api_Node), false)) else (if 0 ≤ t6.1 ∧ t6.1 < (x0_.length : Int) then (some ((⟨(nth T_api_Node.z x0_ t6.1).f0, (nth T_api_Node.z x0_ t6.1).f1, (nth T_api_Node.z x0_ t6.1).f2, (nth T_api_Node.z x0_ t6.1).f3, (nth T_api_Node.z x0_ t6.1).f4, (nth T_api_Node.z x0_ t6.1).f5⟩ : T_api_Node), true)) else (none))
theorem topo_Find.j15_s (k : Nat) (x0_ : List T_api_Node) (t6 : Int × Bool) (y14 : Bool) : topo_Find.j15 (k + 1) x0_ t6 y14 = (if y14 = true then (some ((⟨0, 0, 0, 0, false, false⟩ : T_api_Node), false)) else (if 0 ≤ t6.1 ∧ t6.1 < (x0_.length : Int) then (some ((⟨(nth T_api_Node.z x0_ t6.1).f0, (nth T_api_Node.z x0_ t6.1).f1, (nth T_api_Node.z x0_ t6.1).f2, (nth T_api_Node.z x0_ t6.1).f3, (nth T_api_Node.z x0_ t6.1).f4, (nth T_api_Node.z x0_ t6.1).f5⟩ : T_api_Node), true)) else (none))) := by kernel_rfl
def topo_Find.f (k : Nat) (x0_ : List T_api_Node) (x1_ : Int) : Option (T_api_Node × Bool) := (slices_BinarySearchFunc__api_Node_api_Node_int_of_topo_Find_1.f k x0_ x1_).bind fun t6 => (if t6.2 = true then ((topo_Check.f k x0_).bind fun t12 => (topo_Find.j15 k x0_ t6 (!(t12 == 0)))) else (topo_Find.j15 k x0_ t6 true))
def topo_Find.Post (W F : World) (r : T_api_Node × Bool) (v : Value) (w' : World) : Prop := ∃ (F' : World), v = .tuple #[.agg #[.int .i64 r.1.f0, .int .i64 r.1.f1, .int .i64 r.1.f2, .int .i64 r.1.f3, .bool r.1.f4, .bool r.1.f5], .bool r.2] ∧ St W (mine W []) F w' F' []
theorem topo_Find.calls (k : Nat) (x0_ : List T_api_Node) (x1_ : Int) (A0_0 : Option Addr) (c0_0 : Nat) (r : T_api_Node × Bool) (W F : World) (hown : Sub F W) (g0_0 : Rd T_api_Node.k F A0_0 c0_0 x0_) (H : topo_Find.f k x0_ x1_ = some r) :
    Calls Tryz.prog 127 #[.slice A0_0 x0_.length c0_0, .int .i64 x1_] W fun e w' => ∃ v, e = .returned v ∧ topo_Find.Post W F r v w' := by
 have hS := St.start (Own.nil hown)
 unfold topo_Find.f at H
 refine enter (n := 26) rfl rfl rfl (Nat.le_of_ble_eq_true rfl) (fun a hE => ?_)
 refine wp_seq_k fun K1 hK1 => pl0 (ple hE (.al (t := 104) hS [.int .i64 0, .int .i64 0, .int .i64 0, .int .i64 0, .bool false, .bool false]) ?_)
 rintro _ u3 a ⟨b2, rfl, hb2, hS, hg⟩ hE
 refine plc hE (.r 1 1 .nil) (fun a hE => pld (hK1 _ _ (wp_seq_k fun K4 hK4 => pl0 (plc hE (.r 0 2 .nil) (fun a hE => ?_)))))
 obtain ⟨t6, h7, H⟩ := bd H
 refine ple hE (.cl en173 (slices_BinarySearchFunc__api_Node_api_Node_int_of_topo_Find_1.calls k x0_ x1_ _ _ _ _ _ hS.own.sub g0_0 h7)) ?_
 rintro _ u5 a ⟨_, rfl, hC⟩ hE
 replace hS := hS.lent hC
 refine plc hE (.r 3 5 .nil) (fun a hE => pld (hK4 _ _ (wp_seq_k fun K8 hK8 => wp_seq_k fun K9 hK9 => ?_)))
 have J18 : ∀ kq16, kq16 ≤ k → ∀ (G : Nat → Value) (y14 : Bool) (a : Act) (w' : World), Env 26 G a → At G [(0, .slice A0_0 x0_.length c0_0), (4, .pointer (some ⟨b2, 0, none⟩)), (6, .int .i64 t6.1), (20, .bool y14)] → St W (mine W []) F w' F [box b2 #[.int .i64 0, .int .i64 0, .int .i64 0, .int .i64 0, .bool false, .bool false] 104] → topo_Find.j15 kq16 x0_ t6 y14 = some r → K9 a w' := by
  intro kq16 hkq G y14 a u19 hE hA hS H
  cases kq16 with
  | zero => cases (show none = some r from H)
  | succ k17 =>
   rw [topo_Find.j15_s] at H
   obtain ⟨J, hE⟩ := hE.at hA
   refine hK9 _ _ ?_
   rcases sp H with ⟨c20, H⟩ | ⟨c20, H⟩
   ·
    replace hE := hE.bt 20 c20
    refine ct hE (wp_seq_k fun K21 hK21 => pl0 (plc hE (.r 0 1 .nil) (fun a hE => ple hE (.sto hS [.int .i64 0, .int .i64 0, .int .i64 0, .int .i64 0, .bool false, .bool false]) ?_)))
    rintro _ u22 a ⟨rfl, hb2, hS, hz⟩ hE
    refine plc hE (.r 2 1 .nil) (fun a hE => pld (hK21 _ _ (wp_ret (then_ret ?_))))
    replace hS := hS.tail
    obtain rfl := si H
    exact retN hE rfl (of_decide_eq_true rfl) (.cell (by kernel_rfl) (res_blk [.int .i64 0, .int .i64 0, .int .i64 0, .int .i64 0, .bool false, .bool false] ag104 sz104 hb2 rfl) (.tmp (by kernel_rfl) .nil)) ⟨_, rfl, _, rfl, hS⟩
   ·
    replace hE := hE.bf 20 c20
    refine cf hE (wp_skip (hK8 _ _ (wp_seq_k fun K23 hK23 => pl0 ?_)))
    obtain ⟨c24, H⟩ := gd H
    have hE_ := hE
    obtain ⟨ad25, rfl⟩ := g0_0.addr c24.1 c24.2
    replace hE := hE_
    obtain ⟨cs27, rfl, hc28⟩ := g0_0.el T_api_Node.z t6.1 c24.1 c24.2
    refine plc hE (.r 0 2 <| .x 2 c24 <| .cs 3 (hS.fcs hc28) <| .nil) (fun a hE => ple hE (.sto hS [.int .i64 ((nth T_api_Node.z x0_ t6.1).f0), .int .i64 ((nth T_api_Node.z x0_ t6.1).f1), .int .i64 ((nth T_api_Node.z x0_ t6.1).f2), .int .i64 ((nth T_api_Node.z x0_ t6.1).f3), .bool ((nth T_api_Node.z x0_ t6.1).f4), .bool ((nth T_api_Node.z x0_ t6.1).f5)]) ?_)
    rintro _ u29 a ⟨rfl, hb2, hS, hz⟩ hE
    refine plc hE (.r 5 1 .nil) (fun a hE => pld (hK23 _ _ (wp_ret ?_)))
    replace hS := hS.tail
    obtain rfl := si H
    exact retN hE rfl (of_decide_eq_true rfl) (.cell (by kernel_rfl) (res_blk [.int .i64 ((nth T_api_Node.z x0_ t6.1).f0), .int .i64 ((nth T_api_Node.z x0_ t6.1).f1), .int .i64 ((nth T_api_Node.z x0_ t6.1).f2), .int .i64 ((nth T_api_Node.z x0_ t6.1).f3), .bool ((nth T_api_Node.z x0_ t6.1).f4), .bool ((nth T_api_Node.z x0_ t6.1).f5)] ag104 sz104 hb2 rfl) (.tmp (by kernel_rfl) .nil)) ⟨_, rfl, _, rfl, hS⟩
 refine pl0 (plc hE (.r 0 3 .nil) (fun a hE => ?_))
 rcases sp H with ⟨c10, H⟩ | ⟨c10, H⟩
 ·
  replace hE := hE.btn 16 c10
  refine plc hE (.r 3 1 .nil) (fun a hE => ?_)
  obtain ⟨t12, h13, H⟩ := bd H
  refine ple hE (.cl en80 (topo_Check.calls k x0_ _ _ _ _ _ hS.own.sub g0_0 h13)) ?_
  rintro _ u11 a ⟨_, rfl, hC⟩ hE
  replace hS := hS.lent hC
  refine plc hE (.r 5 2 .nil) (fun a hE => pld ?_)
  exact J18 _ (by omega) _ (!(t12 == 0)) _ _ hE .of hS H
 ·
  replace hE := hE.bfn 16 c10
  refine plc hE (.r 3 4 .nil) (fun a hE => pld ?_)
  exact J18 _ (by omega) _ true _ _ hE .of hS H

/-! ### windrose/maps.up$1: function 126 -/
def maps_up_1.f (k : Nat) (x0_ : Int) (xf0_ : T_api_Map) : Option Bool := (topo_Find.f k xf0_.f4 x0_).bind fun t4 => (some (!t4.1.f4))
def maps_up_1.Post (W F : World) (r : Bool) (v : Value) (w' : World) : Prop := ∃ (F' : World), v = .bool r ∧ St W (mine W []) F w' F' []
theorem maps_up_1.calls (k : Nat) (x0_ : Int) (xf0_ : T_api_Map) (pf0_ : Nat) (Af0_4 : Option Addr) (cf0_4 : Nat) (Af0_5 : Option Addr) (cf0_5 : Nat) (Af0_6 : Option Addr) (cf0_6 : Nat) (r : Bool) (W F : World) (hown : Sub F W) (gf0_4 : Rd T_api_Node.k F Af0_4 cf0_4 xf0_.f4) (gf0_5 : Rd T_api_Temp.k F Af0_5 cf0_5 xf0_.f5) (gf0_6 : Rd T_api_Trail.k F Af0_6 cf0_6 xf0_.f6) (hpf0_ : F.heap[pf0_]? = some (.cells #[.int .i64 xf0_.f0, .int .i64 xf0_.f1, .int .i64 xf0_.f2, .int .i64 xf0_.f3, .slice Af0_4 xf0_.f4.length cf0_4, .slice Af0_5 xf0_.f5.length cf0_5, .slice Af0_6 xf0_.f6.length cf0_6] 26 (0, 0))) (H : maps_up_1.f k x0_ xf0_ = some r) :
    Calls Tryz.prog 126 #[.int .i64 x0_, .pointer (some ⟨pf0_, 0, none⟩)] W fun e w' => ∃ v, e = .returned v ∧ maps_up_1.Post W F r v w' := by
 have hS := St.start (Own.nil hown)
 unfold maps_up_1.f at H
 refine enter (n := 16) rfl rfl rfl (Nat.le_of_ble_eq_true rfl) (fun a hE => ?_)
 refine wp_seq_k fun K1 hK1 => pl0 (plc hE (.r 0 1 .nil) (fun a hE => pld (hK1 _ _ (wp_seq_k fun K2 hK2 => pl0 (plc hE (.r 0 1 <| .b 1 4 (hS.own.sub _ _ _ _ hpf0_) <| .r 2 1 <| .nil) (fun a hE => ?_))))))
 obtain ⟨t4, h5, H⟩ := bd H
 refine ple hE (.cl en127 (topo_Find.calls k xf0_.f4 x0_ _ _ _ _ _ hS.own.sub gf0_4 h5)) ?_
 rintro _ u3 a ⟨_, rfl, hC⟩ hE
 replace hS := hS.lent hC
 refine plc hE (.r 4 3 .nil) (fun a hE => ple hE (.al (t := 104) hS [.int .i64 0, .int .i64 0, .int .i64 0, .int .i64 0, .bool false, .bool false]) ?_)
 rintro _ u7 a ⟨b6, rfl, hb6, hS, hg⟩ hE
 refine ple hE (.sto hS [.int .i64 t4.1.f0, .int .i64 t4.1.f1, .int .i64 t4.1.f2, .int .i64 t4.1.f3, .bool t4.1.f4, .bool t4.1.f5]) ?_
 rintro _ u8 a ⟨rfl, hb6, hS, hz⟩ hE
 refine plc hE (.r 9 1 .nil) (fun a hE => pld (hK2 _ _ (wp_seq_k fun K9 hK9 => pl0 (plc hE (.r 0 1 <| .b 1 4 hb6 <| .r 2 2 <| .nil) (fun a hE => pld (hK9 _ _ (wp_ret ?_)))))))
 replace hS := hS.tail
 obtain rfl := si H
 exact rt1 hE ⟨_, rfl, _, rfl, hS⟩

/-! ### slices.IndexFunc[[]int,int]: function 157 -/
def slices_IndexFunc__int_int_of_maps_up_1.l5 : Nat → List Int → T_api_Map → Int → Option Int
  | 0, _, _, _ => none
  | k + 1, x0_, x1c0_, x4 => if x4 < (x0_.length : Int) then (if 0 ≤ x4 ∧ x4 < (x0_.length : Int) then ((maps_up_1.f k (nth 0 x0_ x4) x1c0_).bind fun t21 => (if t21 = true then (some x4) else (slices_IndexFunc__int_int_of_maps_up_1.l5 k x0_ x1c0_ (w64 (x4 + 1))))) else (none)) else (some (-1))
theorem slices_IndexFunc__int_int_of_maps_up_1.l5_s (k : Nat) (x0_ : List Int) (x1c0_ : T_api_Map) (x4 : Int) : slices_IndexFunc__int_int_of_maps_up_1.l5 (k + 1) x0_ x1c0_ x4 = (if x4 < (x0_.length : Int) then (if 0 ≤ x4 ∧ x4 < (x0_.length : Int) then ((maps_up_1.f k (nth 0 x0_ x4) x1c0_).bind fun t21 => (if t21 = true then (some x4) else (slices_IndexFunc__int_int_of_maps_up_1.l5 k x0_ x1c0_ (w64 (x4 + 1))))) else (none)) else (some (-1))) := by kernel_rfl
def slices_IndexFunc__int_int_of_maps_up_1.f (k : Nat) (x0_ : List Int) (x1c0_ : T_api_Map) : Option Int := slices_IndexFunc__int_int_of_maps_up_1.l5 k x0_ x1c0_ 0
def slices_IndexFunc__int_int_of_maps_up_1.Post (W F : World) (r : Int) (v : Value) (w' : World) : Prop := ∃ (F' : World), v = .int .i64 r ∧ St W (mine W []) F w' F' []
theorem slices_IndexFunc__int_int_of_maps_up_1.calls (k : Nat) (x0_ : List Int) (x1c0_ : T_api_Map) (A0_0 : Option Addr) (c0_0 : Nat) (p1c0_ : Nat) (A1c0_4 : Option Addr) (c1c0_4 : Nat) (A1c0_5 : Option Addr) (c1c0_5 : Nat) (A1c0_6 : Option Addr) (c1c0_6 : Nat) (r : Int) (W F : World) (hown : Sub F W) (g0_0 : Rd (Kn.int .i64) F A0_0 c0_0 x0_) (g1c0_4 : Rd T_api_Node.k F A1c0_4 c1c0_4 x1c0_.f4) (g1c0_5 : Rd T_api_Temp.k F A1c0_5 c1c0_5 x1c0_.f5) (g1c0_6 : Rd T_api_Trail.k F A1c0_6 c1c0_6 x1c0_.f6) (hp1c0_ : F.heap[p1c0_]? = some (.cells #[.int .i64 x1c0_.f0, .int .i64 x1c0_.f1, .int .i64 x1c0_.f2, .int .i64 x1c0_.f3, .slice A1c0_4 x1c0_.f4.length c1c0_4, .slice A1c0_5 x1c0_.f5.length c1c0_5, .slice A1c0_6 x1c0_.f6.length c1c0_6] 26 (0, 0))) (H : slices_IndexFunc__int_int_of_maps_up_1.f k x0_ x1c0_ = some r) :
    Calls Tryz.prog 157 #[.slice A0_0 x0_.length c0_0, .func (.func 126) #[] #[.pointer (some ⟨p1c0_, 0, none⟩)]] W fun e w' => ∃ v, e = .returned v ∧ slices_IndexFunc__int_int_of_maps_up_1.Post W F r v w' := by
 have hS := St.start (Own.nil hown)
 unfold slices_IndexFunc__int_int_of_maps_up_1.f at H
 refine enter (n := 19) rfl rfl rfl (Nat.le_of_ble_eq_true rfl) (fun a hE => ?_)
 refine wp_seq_k fun K1 hK1 => pl0 (plc hE (.r 0 1 .nil) (fun a hE => pld (hK1 _ _ (wp_seq_k fun K2 hK2 => wp_seq_k fun K3 hK3 => pl0 (plc hE (.r 0 3 .nil) (fun a hE => pld (hK3 _ _ (wp_block ?_))))))))
 refine wp_loop_ghost (fun kq6 a w' => ∃ (G : Nat → Value) (x4 : Int), kq6 ≤ k ∧ Env 19 G a ∧ At G [(0, .slice A0_0 x0_.length c0_0), (1, .func (.func 126) #[] #[.pointer (some ⟨p1c0_, 0, none⟩)]), (7, .int .i64 (x0_.length : Int)), (8, .int .i64 x4)] ∧ St W (mine W []) F w' F [] ∧  slices_IndexFunc__int_int_of_maps_up_1.l5 kq6 x0_ x1c0_ x4 = some r) k ⟨_, 0, Nat.le_refl _, hE, .of, hS, H⟩ ?_
 rintro kq6 a u8 ⟨G, x4, hkq, hE, hA, hS, H⟩
 cases kq6 with
 | zero => cases (show none = some r from H)
 | succ k7 =>
  rw [slices_IndexFunc__int_int_of_maps_up_1.l5_s] at H
  obtain ⟨J, hE⟩ := hE.at hA
  refine wp_seq_k fun K9 hK9 => pl0 (plc hE (.r 0 1 .nil) (fun a hE => pld (hK9 _ _ (wp_seq_k fun K10 hK10 => ?_))))
  rcases sp H with ⟨c11, H⟩ | ⟨c11, H⟩
  ·
   replace hE := hE.kt 9 c11
   refine ct hE (wp_skip (hK10 _ _ (wp_seq_k fun K12 hK12 => wp_block (wp_seq_k fun K13 hK13 => pl0 (plc hE (.r 0 2 .nil) (fun a hE => pld (hK13 _ _ (wp_seq_k fun K14 hK14 => pl0 ?_))))))))
   obtain ⟨c15, H⟩ := gd H
   have hE_ := hE
   obtain ⟨ad16, rfl⟩ := g0_0.addr c15.1 c15.2
   replace hE := hE_
   obtain ⟨cs18, rfl, hc19⟩ := g0_0.el 0 x4 c15.1 c15.2
   refine plc hE (.r 0 3 <| .x 3 c15 <| .c 4 (hS.fc hc19 0) <| .nil) (fun a hE => ?_)
   obtain ⟨t21, h22, H⟩ := bd H
   refine ple hE (.cl en126 (maps_up_1.calls k7 (nth 0 x0_ x4) x1c0_ _ _ _ _ _ _ _ _ _ _ hS.own.sub g1c0_4 g1c0_5 g1c0_6 hp1c0_ h22)) ?_
   rintro _ u20 a ⟨_, rfl, hC⟩ hE
   replace hS := hS.lent hC
   refine pld (hK14 _ _ ?_)
   rcases sp H with ⟨c23, H⟩ | ⟨c23, H⟩
   ·
    replace hE := hE.bt 16 c23
    refine ct hE (wp_seq_k fun K24 hK24 => pl0 (plc hE (.r 0 2 .nil) (fun a hE => pld (hK24 _ _ (wp_ret (block_ret (then_ret (then_ret (block_ret (then_ret ?_))))))))))
    obtain rfl := si H
    exact rt1 hE ⟨_, rfl, _, rfl, hS⟩
   ·
    replace hE := hE.bf 16 c23
    refine cf hE (wp_skip ?_)
    refine block_n ?_
    refine hK12 _ _ (pl0 (plc hE (.r 0 2 .nil) (fun a hE => pld ?_)))
    exact then_n ⟨k7, by omega, _, (w64 (x4 + 1)), by omega, hE, .of, hS, H⟩
  ·
   replace hE := hE.kf 9 c11
   refine cf hE ?_
   refine wp_exit ?_
   refine hK2 _ _ (wp_seq_k fun K25 hK25 => pl0 (plc hE (.r 0 1 .nil) (fun a hE => pld (hK25 _ _ (wp_ret ?_)))))
   obtain rfl := si H
   exact rt1 hE ⟨_, rfl, _, rfl, hS⟩

/-! ### slices.DeleteFunc[[]int,int]: function 125 -/
def slices_DeleteFunc__int_int_of_maps_up_1.l15 : Nat → List Int → T_api_Map → List Int → Int → Int → Option (List Int)
  | 0, _, _, _, _, _ => none
  | k + 1, x0_, x1c0_, l12, x13, x14 => if x14 < (x0_.length : Int) then (if 0 ≤ x14 ∧ x14 < (x0_.length : Int) then ((maps_up_1.f k (nth 0 l12 x14) x1c0_).bind fun t33 => (if t33 = true then (slices_DeleteFunc__int_int_of_maps_up_1.l15 k x0_ x1c0_ l12 x13 (w64 (x14 + 1))) else (if 0 ≤ x13 ∧ x13 < (x0_.length : Int) then (slices_DeleteFunc__int_int_of_maps_up_1.l15 k x0_ x1c0_ (l12.set (x13).toNat (nth 0 l12 x14)) (w64 (x13 + 1)) (w64 (x14 + 1))) else (none)))) else (none)) else (if 0 ≤ x13 ∧ x13 ≤ (x0_.length : Int) then (some (cutl (l12.take (x13).toNat ++ List.replicate (x0_.length - (x13).toNat) 0) 0 x13)) else (none))
theorem slices_DeleteFunc__int_int_of_maps_up_1.l15_s (k : Nat) (x0_ : List Int) (x1c0_ : T_api_Map) (l12 : List Int) (x13 : Int) (x14 : Int) : slices_DeleteFunc__int_int_of_maps_up_1.l15 (k + 1) x0_ x1c0_ l12 x13 x14 = (if x14 < (x0_.length : Int) then (if 0 ≤ x14 ∧ x14 < (x0_.length : Int) then ((maps_up_1.f k (nth 0 l12 x14) x1c0_).bind fun t33 => (if t33 = true then (slices_DeleteFunc__int_int_of_maps_up_1.l15 k x0_ x1c0_ l12 x13 (w64 (x14 + 1))) else (if 0 ≤ x13 ∧ x13 < (x0_.length : Int) then (slices_DeleteFunc__int_int_of_maps_up_1.l15 k x0_ x1c0_ (l12.set (x13).toNat (nth 0 l12 x14)) (w64 (x13 + 1)) (w64 (x14 + 1))) else (none)))) else (none)) else (if 0 ≤ x13 ∧ x13 ≤ (x0_.length : Int) then (some (cutl (l12.take (x13).toNat ++ List.replicate (x0_.length - (x13).toNat) 0) 0 x13)) else (none))) := by kernel_rfl
def slices_DeleteFunc__int_int_of_maps_up_1.f (k : Nat) (x0_ : List Int) (x1c0_ : T_api_Map) : Option (List Int) := (slices_IndexFunc__int_int_of_maps_up_1.f k x0_ x1c0_).bind fun t4 => (if t4 = (-1) then (some x0_) else (slices_DeleteFunc__int_int_of_maps_up_1.l15 k x0_ x1c0_ x0_ t4 (w64 (t4 + 1))))
def slices_DeleteFunc__int_int_of_maps_up_1.Post (x0_ : List Int) (x1c0_ : T_api_Map) (A0_0 : Option Addr) (c0_0 : Nat) (p1c0_ : Nat) (A1c0_4 : Option Addr) (c1c0_4 : Nat) (A1c0_5 : Option Addr) (c1c0_5 : Nat) (A1c0_6 : Option Addr) (c1c0_6 : Nat) (W F : World) (r : List Int) (v : Value) (w' : World) : Prop := ∃ (F' : World) (RA0_0 : Option Addr) (rc0_0 : Nat), v = .slice RA0_0 r.length rc0_0 ∧ St W (mine W [row (Kn.int .i64) 3 (.slice A0_0 x0_.length c0_0) x0_]) F w' F' [row (Kn.int .i64) 3 (.slice RA0_0 r.length rc0_0) r]
theorem slices_DeleteFunc__int_int_of_maps_up_1.calls (k : Nat) (x0_ : List Int) (x1c0_ : T_api_Map) (A0_0 : Option Addr) (c0_0 : Nat) (p1c0_ : Nat) (A1c0_4 : Option Addr) (c1c0_4 : Nat) (A1c0_5 : Option Addr) (c1c0_5 : Nat) (A1c0_6 : Option Addr) (c1c0_6 : Nat) (r : List Int) (W F : World) (hown : Own W F [row (Kn.int .i64) 3 (.slice A0_0 x0_.length c0_0) x0_]) (g1c0_4 : Rd T_api_Node.k F A1c0_4 c1c0_4 x1c0_.f4) (g1c0_5 : Rd T_api_Temp.k F A1c0_5 c1c0_5 x1c0_.f5) (g1c0_6 : Rd T_api_Trail.k F A1c0_6 c1c0_6 x1c0_.f6) (hp1c0_ : F.heap[p1c0_]? = some (.cells #[.int .i64 x1c0_.f0, .int .i64 x1c0_.f1, .int .i64 x1c0_.f2, .int .i64 x1c0_.f3, .slice A1c0_4 x1c0_.f4.length c1c0_4, .slice A1c0_5 x1c0_.f5.length c1c0_5, .slice A1c0_6 x1c0_.f6.length c1c0_6] 26 (0, 0))) (H : slices_DeleteFunc__int_int_of_maps_up_1.f k x0_ x1c0_ = some r) :
    Calls Tryz.prog 125 #[.slice A0_0 x0_.length c0_0, .func (.func 126) #[] #[.pointer (some ⟨p1c0_, 0, none⟩)]] W fun e w' => ∃ v, e = .returned v ∧ slices_DeleteFunc__int_int_of_maps_up_1.Post x0_ x1c0_ A0_0 c0_0 p1c0_ A1c0_4 c1c0_4 A1c0_5 c1c0_5 A1c0_6 c1c0_6 W F r v w' := by
 have hS := St.start hown
 obtain ⟨N, hN⟩ : ∃ N, N = mine W [row (Kn.int .i64) 3 (.slice A0_0 x0_.length c0_0) x0_] := ⟨_, rfl⟩
 rw [← hN] at hS
 unfold slices_DeleteFunc__int_int_of_maps_up_1.f at H
 refine enter (n := 42) rfl rfl rfl (Nat.le_of_ble_eq_true rfl) (fun a hE => ?_)
 refine wp_seq_k fun K1 hK1 => pl0 (plc hE (.r 0 1 .nil) (fun a hE => pld (hK1 _ _ (wp_seq_k fun K2 hK2 => pl0 (plc hE (.r 0 2 .nil) (fun a hE => ?_))))))
 obtain ⟨t4, h5, H⟩ := bd H
 refine ple hE (.cl en157 (slices_IndexFunc__int_int_of_maps_up_1.calls k x0_ x1c0_ _ _ _ _ _ _ _ _ _ _ _ _ (Sub.refl _) (hS.rd_at (i := 0) rfl) (g1c0_4.mono hS.own.sub) (g1c0_5.mono hS.own.sub) (g1c0_6.mono hS.own.sub) (hS.own.sub _ _ _ _ hp1c0_) h5)) ?_
 rintro _ u3 a ⟨_, rfl, hC⟩ hE
 replace hS := hS.lent hC
 refine plc hE (.r 3 1 .nil) (fun a hE => pld (hK2 _ _ (wp_seq_k fun K6 hK6 => wp_seq_k fun K7 hK7 => pl0 (plc hE (.r 0 2 .nil) (fun a hE => pld (hK7 _ _ ?_))))))
 rcases sp H with ⟨c8, H⟩ | ⟨c8, H⟩
 ·
  replace hE := hE.kt 12 c8
  refine ct hE (wp_seq_k fun K9 hK9 => pl0 (plc hE (.r 0 2 .nil) (fun a hE => pld (hK9 _ _ (wp_ret (then_ret ?_))))))
  rw [hN] at hS
  obtain rfl := si H
  exact rt1 hE ⟨_, rfl, _, _, _, rfl, hS⟩
 ·
  replace hE := hE.kf 12 c8
  refine cf hE (wp_skip (hK6 _ _ (wp_seq_k fun K10 hK10 => wp_seq_k fun K11 hK11 => pl0 (plc hE (.r 0 3 .nil) (fun a hE => pld (hK11 _ _ (wp_block ?_)))))))
  refine wp_loop_ghost (fun kq16 a w' => ∃ (G : Nat → Value) (l12 : List Int) (x13 : Int) (x14 : Int), kq16 ≤ k ∧ Env 42 G a ∧ At G [(0, .slice A0_0 x0_.length c0_0), (1, .func (.func 126) #[] #[.pointer (some ⟨p1c0_, 0, none⟩)]), (5, .int .i64 x13), (6, .int .i64 x14)] ∧ St W N F w' F [row (Kn.int .i64) 3 (.slice A0_0 x0_.length c0_0) l12] ∧  slices_DeleteFunc__int_int_of_maps_up_1.l15 kq16 x0_ x1c0_ l12 x13 x14 = some r) k ⟨_, x0_, t4, (w64 (t4 + 1)), Nat.le_refl _, hE, .of, hS, H⟩ ?_
  rintro kq16 a u18 ⟨G, l12, x13, x14, hkq, hE, hA, hS, H⟩
  cases kq16 with
  | zero => cases (show none = some r from H)
  | succ k17 =>
   rw [slices_DeleteFunc__int_int_of_maps_up_1.l15_s] at H
   obtain ⟨J, hE⟩ := hE.at hA
   refine wp_seq_k fun K19 hK19 => wp_seq_k fun K20 hK20 => pl0 (plc hE (.r 0 4 .nil) (fun a hE => pld (hK20 _ _ ?_)))
   rcases sp H with ⟨c21, H⟩ | ⟨c21, H⟩
   ·
    replace hE := hE.kt 19 c21
    refine ct hE (wp_skip (hK19 _ _ (wp_seq_k fun K22 hK22 => wp_block (wp_seq_k fun K23 hK23 => pl0 ?_))))
    obtain ⟨c24, H⟩ := gd H
    have hr25 := hS.row_at (i := 0) rfl
    have c26 : 0 ≤ x14 ∧ x14 < (l12.length : Int) := by rw [← (row_form hr25).1]; exact c24
    have hE_ := hE
    obtain ⟨b27, rfl⟩ := row_addr hr25 c26.1 c26.2
    replace hE := hE_
    have hr_ := hS.row_at (i := 0) rfl
    obtain ⟨cs29, rfl, hc30⟩ := row_el hr_ 0 x14 c26.1 c26.2
    refine plc hE (.r 0 2 <| .x 2 c24 <| .c 3 (hc30 0 _ rfl) <| .r 4 1 <| .nil) (fun a hE => pld (hK23 _ _ (wp_seq_k fun K31 hK31 => pl0 (plc hE (.r 0 2 .nil) (fun a hE => ?_)))))
    obtain ⟨t33, h34, H⟩ := bd H
    refine ple hE (.cl en126 (maps_up_1.calls k17 (nth 0 l12 x14) x1c0_ _ _ _ _ _ _ _ _ _ _ hS.own.sub g1c0_4 g1c0_5 g1c0_6 hp1c0_ h34)) ?_
    rintro _ u32 a ⟨_, rfl, hC⟩ hE
    replace hS := hS.lent hC
    refine plc hE (.r 3 1 .nil) (fun a hE => pld (hK31 _ _ ?_))
    rcases sp H with ⟨c35, H⟩ | ⟨c35, H⟩
    ·
     replace hE := hE.btn 29 c35
     refine cf hE (wp_skip ?_)
     refine block_n ?_
     refine hK22 _ _ (pl0 (plc hE (.r 0 3 .nil) (fun a hE => pld ?_)))
     exact then_n ⟨k17, by omega, _, l12, x13, (w64 (x14 + 1)), by omega, hE, .of, hS, H⟩
    ·
     replace hE := hE.bfn 29 c35
     refine ct hE (wp_seq_k fun K36 hK36 => pl0 ?_)
     obtain ⟨c37, H⟩ := gd H
     have hr38 := hS.row_at (i := 0) rfl
     have c39 : 0 ≤ x13 ∧ x13 < (l12.length : Int) := by rw [← (row_form hr38).1]; exact c37
     have hr_ := hS.row_at (i := 0) rfl
     obtain ⟨cs41, rfl, hc42⟩ := row_el hr_ 0 x13 c39.1 c39.2
     refine plc hE (.r 0 3 <| .x 3 c37 <| .nil) (fun a hE => ?_)
     obtain ⟨cs44, rfl, hc45⟩ := row_el (hS.row_at (i := 0) rfl) 0 x13 c39.1 c39.2
     refine ple hE (.set (d := (Kn.int .i64)) (n := x0_.length) (i := x13) (nth 0 l12 x14) (0) (ea0 _ _) hS c39 [.int .i64 (nth 0 l12 x13)] hc45 [.int .i64 (nth 0 l12 x14)] rfl) ?_
     rintro _ u43 a ⟨rfl, hS, hz⟩ hE
     refine pld (hK36 _ _ (pl0 (plc hE (.r 0 3 .nil) (fun a hE => pld ?_))))
     refine block_n ?_
     refine hK22 _ _ (pl0 (plc hE (.r 0 3 .nil) (fun a hE => pld ?_)))
     exact then_n ⟨k17, by omega, _, (l12.set (x13).toNat (nth 0 l12 x14)), (w64 (x13 + 1)), (w64 (x14 + 1)), by omega, hE, .of, hS, H⟩
   ·
    replace hE := hE.kf 19 c21
    refine cf hE ?_
    refine wp_exit ?_
    refine hK10 _ _ (wp_seq_k fun K46 hK46 => pl0 ?_)
    obtain ⟨c47, H⟩ := gd H
    obtain ⟨A48, c49, hA50, hv51⟩ := y_suf (P := Tryz.prog) (k := .i64) (hS.row_at (i := 0) rfl) c47
    refine plc hE (.r 0 2 <| .y 2 (hv51 (by kernel_rfl)) <| .nil) (fun a hE => ple hE (.clr (d := (Kn.int .i64)) (n := x0_.length) (c' := c49) (lo := x13) 8 0 hS c47 hA50 (by rw [zr3]; exact rfl)) ?_)
    rintro _ u52 a ⟨rfl, hS, hz⟩ hE
    refine pld (hK46 _ _ (wp_seq_k fun K53 hK53 => pl0 ?_))
    have hv54 := hS.row_at (i := 0) rfl
    replace hS := hS.shrink c47
    refine plc hE (.r 0 2 <| .y 2 (y_pre (k := .i64) hv54 c47) <| .r 3 1 <| .nil) (fun a hE => pld (hK53 _ _ (wp_ret ?_)))
    rw [hN] at hS
    obtain rfl := si H
    exact rt1 hE ⟨_, rfl, _, _, _, rfl, hS⟩

/-! ### windrose/maps.up: function 74 -/
def maps_up.f (k : Nat) (x0_ : T_api_Map) (x1_ : List Int) : Option (List Int) := (slices_DeleteFunc__int_int_of_maps_up_1.f k x1_ x0_).bind fun t8 => (some t8)
def maps_up.Post (x0_ : T_api_Map) (x1_ : List Int) (A0_4 : Option Addr) (c0_4 : Nat) (A0_5 : Option Addr) (c0_5 : Nat) (A0_6 : Option Addr) (c0_6 : Nat) (A1_0 : Option Addr) (c1_0 : Nat) (W F : World) (r : List Int) (v : Value) (w' : World) : Prop := ∃ (F' : World) (RA0_0 : Option Addr) (rc0_0 : Nat), v = .slice RA0_0 r.length rc0_0 ∧ St W (mine W [row (Kn.int .i64) 3 (.slice A1_0 x1_.length c1_0) x1_]) F w' F' [row (Kn.int .i64) 3 (.slice RA0_0 r.length rc0_0) r]
theorem maps_up.calls (k : Nat) (x0_ : T_api_Map) (x1_ : List Int) (A0_4 : Option Addr) (c0_4 : Nat) (A0_5 : Option Addr) (c0_5 : Nat) (A0_6 : Option Addr) (c0_6 : Nat) (A1_0 : Option Addr) (c1_0 : Nat) (r : List Int) (W F : World) (hown : Own W F [row (Kn.int .i64) 3 (.slice A1_0 x1_.length c1_0) x1_]) (g0_4 : Rd T_api_Node.k F A0_4 c0_4 x0_.f4) (g0_5 : Rd T_api_Temp.k F A0_5 c0_5 x0_.f5) (g0_6 : Rd T_api_Trail.k F A0_6 c0_6 x0_.f6) (H : maps_up.f k x0_ x1_ = some r) :
    Calls Tryz.prog 74 #[.agg #[.int .i64 x0_.f0, .int .i64 x0_.f1, .int .i64 x0_.f2, .int .i64 x0_.f3, .slice A0_4 x0_.f4.length c0_4, .slice A0_5 x0_.f5.length c0_5, .slice A0_6 x0_.f6.length c0_6], .slice A1_0 x1_.length c1_0] W fun e w' => ∃ v, e = .returned v ∧ maps_up.Post x0_ x1_ A0_4 c0_4 A0_5 c0_5 A0_6 c0_6 A1_0 c1_0 W F r v w' := by
 have hS := St.start hown
 obtain ⟨N, hN⟩ : ∃ N, N = mine W [row (Kn.int .i64) 3 (.slice A1_0 x1_.length c1_0) x1_] := ⟨_, rfl⟩
 rw [← hN] at hS
 unfold maps_up.f at H
 refine enter (n := 8) rfl rfl rfl (Nat.le_of_ble_eq_true rfl) (fun a hE => ?_)
 refine wp_seq_k fun K1 hK1 => pl0 (ple hE (.bx (t := 26) hS [.int .i64 x0_.f0, .int .i64 x0_.f1, .int .i64 x0_.f2, .int .i64 x0_.f3, .slice A0_4 x0_.f4.length c0_4, .slice A0_5 x0_.f5.length c0_5, .slice A0_6 x0_.f6.length c0_6]) ?_)
 rintro _ u3 a ⟨b2, rfl, hb2, hS, hg⟩ hE
 refine plc hE (.r 1 1 .nil) (fun a hE => pld (hK1 _ _ (wp_seq_k fun K4 hK4 => pl0 (plc hE (.r 0 2 .nil) (fun a hE => ?_)))))
 obtain ⟨F5, hs, g6, hS⟩ := hS.giveb
 replace g0_4 := g0_4.mono hs
 replace g0_5 := g0_5.mono hs
 replace g0_6 := g0_6.mono hs
 obtain ⟨t8, h9, H⟩ := bd H
 refine ple hE (.cl en125 (slices_DeleteFunc__int_int_of_maps_up_1.calls k x1_ x0_ _ _ _ _ _ _ _ _ _ _ _ _ (Own.left (X := [row (Kn.int .i64) 3 (.slice A1_0 x1_.length c1_0) x1_]) hS.own) g0_4 g0_5 g0_6 g6 h9)) ?_
 rintro _ u7 a ⟨F10, A11, c12, rfl, hC⟩ hE
 have hs := hC.sub
 replace hS := hS.called (X := [row (Kn.int .i64) 3 (.slice A1_0 x1_.length c1_0) x1_]) hC
 replace g0_4 := g0_4.mono hs
 replace g0_5 := g0_5.mono hs
 replace g0_6 := g0_6.mono hs
 replace g6 := hs _ _ _ _ g6
 refine plc hE (.r 3 1 .nil) (fun a hE => pld (hK4 _ _ (wp_ret ?_)))
 rw [hN] at hS
 obtain rfl := si H
 exact rt1 hE ⟨_, rfl, _, _, _, rfl, hS⟩

/-! ### windrose/maps.follow: function 79 -/
def maps_follow.l20 : Nat → T_api_Map → T_api_Map → List T_api_Trail → List T_api_Trail → Int → Option (List T_api_Trail)
  | 0, _, _, _, _, _ => none
  | k + 1, x0_, x1_, t8, l17, x18 => if x18 < (t8.length : Int) then (if 0 ≤ x18 ∧ x18 < (t8.length : Int) then ((maps_raw.f k x0_ x18).bind fun t44 => ((maps_up.f k x0_ t44).bind fun t52 => ((maps_raw.f k x1_ x18).bind fun t62 => ((maps_up.f k x1_ t62).bind fun t70 => ((slices_Equal__int_int.f k t52 t70).bind fun t78 => (if t78 = true then (maps_follow.l20 k x0_ x1_ t8 l17 (w64 (x18 + 1))) else (if (t52.length : Int) ≥ x0_.f2 then (none) else (maps_follow.l20 k x0_ x1_ t8 (l17.set (x18).toNat (⟨(w64 (x0_.f0 + 1)), (nth T_api_Trail.z l17 x18).f1⟩ : T_api_Trail)) (w64 (x18 + 1)))))))))) else (none)) else (some l17)
theorem maps_follow.l20_s (k : Nat) (x0_ : T_api_Map) (x1_ : T_api_Map) (t8 : List T_api_Trail) (l17 : List T_api_Trail) (x18 : Int) : maps_follow.l20 (k + 1) x0_ x1_ t8 l17 x18 = (if x18 < (t8.length : Int) then (if 0 ≤ x18 ∧ x18 < (t8.length : Int) then ((maps_raw.f k x0_ x18).bind fun t44 => ((maps_up.f k x0_ t44).bind fun t52 => ((maps_raw.f k x1_ x18).bind fun t62 => ((maps_up.f k x1_ t62).bind fun t70 => ((slices_Equal__int_int.f k t52 t70).bind fun t78 => (if t78 = true then (maps_follow.l20 k x0_ x1_ t8 l17 (w64 (x18 + 1))) else (if (t52.length : Int) ≥ x0_.f2 then (none) else (maps_follow.l20 k x0_ x1_ t8 (l17.set (x18).toNat (⟨(w64 (x0_.f0 + 1)), (nth T_api_Trail.z l17 x18).f1⟩ : T_api_Trail)) (w64 (x18 + 1)))))))))) else (none)) else (some l17)) := by kernel_rfl
def maps_follow.f (k : Nat) (x0_ : T_api_Map) (x1_ : T_api_Map) : Option (List T_api_Trail) := (slices_Clone__api_Trail_api_Trail.f x1_.f6).bind fun t8 => (maps_follow.l20 k x0_ x1_ t8 t8 0)
def maps_follow.Post (W F : World) (r : List T_api_Trail) (v : Value) (w' : World) : Prop := ∃ (F' : World) (RA0_0 : Option Addr) (rc0_0 : Nat), v = .slice RA0_0 r.length rc0_0 ∧ St W (mine W []) F w' F' [row T_api_Trail.k 49 (.slice RA0_0 r.length rc0_0) r]
theorem maps_follow.calls (k : Nat) (x0_ : T_api_Map) (x1_ : T_api_Map) (A0_4 : Option Addr) (c0_4 : Nat) (A0_5 : Option Addr) (c0_5 : Nat) (A0_6 : Option Addr) (c0_6 : Nat) (A1_4 : Option Addr) (c1_4 : Nat) (A1_5 : Option Addr) (c1_5 : Nat) (A1_6 : Option Addr) (c1_6 : Nat) (r : List T_api_Trail) (W F : World) (hown : Sub F W) (g0_4 : Rd T_api_Node.k F A0_4 c0_4 x0_.f4) (g0_5 : Rd T_api_Temp.k F A0_5 c0_5 x0_.f5) (g0_6 : Rd T_api_Trail.k F A0_6 c0_6 x0_.f6) (g1_4 : Rd T_api_Node.k F A1_4 c1_4 x1_.f4) (g1_5 : Rd T_api_Temp.k F A1_5 c1_5 x1_.f5) (g1_6 : Rd T_api_Trail.k F A1_6 c1_6 x1_.f6) (H : maps_follow.f k x0_ x1_ = some r) :
    Calls Tryz.prog 79 #[.agg #[.int .i64 x0_.f0, .int .i64 x0_.f1, .int .i64 x0_.f2, .int .i64 x0_.f3, .slice A0_4 x0_.f4.length c0_4, .slice A0_5 x0_.f5.length c0_5, .slice A0_6 x0_.f6.length c0_6], .agg #[.int .i64 x1_.f0, .int .i64 x1_.f1, .int .i64 x1_.f2, .int .i64 x1_.f3, .slice A1_4 x1_.f4.length c1_4, .slice A1_5 x1_.f5.length c1_5, .slice A1_6 x1_.f6.length c1_6]] W fun e w' => ∃ v, e = .returned v ∧ maps_follow.Post W F r v w' := by
 have hS := St.start (Own.nil hown)
 unfold maps_follow.f at H
 refine enter (n := 65) rfl rfl rfl (Nat.le_of_ble_eq_true rfl) (fun a hE => ?_)
 refine wp_seq_k fun K1 hK1 => pl0 (ple hE (.bx (t := 26) hS [.int .i64 x0_.f0, .int .i64 x0_.f1, .int .i64 x0_.f2, .int .i64 x0_.f3, .slice A0_4 x0_.f4.length c0_4, .slice A0_5 x0_.f5.length c0_5, .slice A0_6 x0_.f6.length c0_6]) ?_)
 rintro _ u3 a ⟨b2, rfl, hb2, hS, hg⟩ hE
 refine ple hE (.bx (t := 26) hS [.int .i64 x1_.f0, .int .i64 x1_.f1, .int .i64 x1_.f2, .int .i64 x1_.f3, .slice A1_4 x1_.f4.length c1_4, .slice A1_5 x1_.f5.length c1_5, .slice A1_6 x1_.f6.length c1_6]) ?_
 rintro _ u5 a ⟨b4, rfl, hb4, hS, hg⟩ hE
 refine plc hE (.r 2 1 .nil) (fun a hE => pld (hK1 _ _ (wp_seq_k fun K6 hK6 => pl0 (plc hE (.r 0 1 <| .b 1 6 hb4 <| .nil) (fun a hE => ?_)))))
 obtain ⟨t8, h9, H⟩ := bd H
 refine ple hE (.cl en130 (slices_Clone__api_Trail_api_Trail.calls x1_.f6 _ _ _ _ _ hS.own.sub g1_6 h9)) ?_
 rintro _ u7 a ⟨F10, A11, c12, rfl, hC⟩ hE
 have hs := hC.sub
 replace hS := hS.called (X := []) hC
 replace g0_4 := g0_4.mono hs
 replace g0_5 := g0_5.mono hs
 replace g0_6 := g0_6.mono hs
 replace g1_4 := g1_4.mono hs
 replace g1_5 := g1_5.mono hs
 replace g1_6 := g1_6.mono hs
 refine plc hE (.r 3 1 .nil) (fun a hE => pld (hK6 _ _ (wp_seq_k fun K15 hK15 => wp_seq_k fun K16 hK16 => pl0 (plc hE (.r 0 3 .nil) (fun a hE => pld (hK16 _ _ (wp_block ?_)))))))
 replace hS := hS.front 2 rfl
 replace hS := hS.front 2 rfl
 refine wp_loop_ghost (fun kq21 a w' => ∃ (G : Nat → Value) (l17 : List T_api_Trail) (x18 : Int) (F19 : World), kq21 ≤ k ∧ Env 65 G a ∧ At G [(2, .pointer (some ⟨b2, 0, none⟩)), (3, .pointer (some ⟨b4, 0, none⟩)), (5, .slice A11 t8.length c12), (13, .slice A11 t8.length c12), (14, .int .i64 (t8.length : Int)), (15, .int .i64 x18)] ∧ St W (mine W []) F w' F19 [box b4 #[.int .i64 x1_.f0, .int .i64 x1_.f1, .int .i64 x1_.f2, .int .i64 x1_.f3, .slice A1_4 x1_.f4.length c1_4, .slice A1_5 x1_.f5.length c1_5, .slice A1_6 x1_.f6.length c1_6] 26, box b2 #[.int .i64 x0_.f0, .int .i64 x0_.f1, .int .i64 x0_.f2, .int .i64 x0_.f3, .slice A0_4 x0_.f4.length c0_4, .slice A0_5 x0_.f5.length c0_5, .slice A0_6 x0_.f6.length c0_6] 26, row T_api_Trail.k 49 (.slice A11 t8.length c12) l17] ∧ Rd T_api_Node.k F19 A1_4 c1_4 x1_.f4 ∧ Rd T_api_Temp.k F19 A1_5 c1_5 x1_.f5 ∧ Rd T_api_Trail.k F19 A1_6 c1_6 x1_.f6 ∧ Rd T_api_Node.k F19 A0_4 c0_4 x0_.f4 ∧ Rd T_api_Temp.k F19 A0_5 c0_5 x0_.f5 ∧ Rd T_api_Trail.k F19 A0_6 c0_6 x0_.f6 ∧  maps_follow.l20 kq21 x0_ x1_ t8 l17 x18 = some r) k ⟨_, t8, 0, F10, Nat.le_refl _, hE, .of, hS, g1_4, g1_5, g1_6, g0_4, g0_5, g0_6, H⟩ ?_
 rintro kq21 a u23 ⟨G, l17, x18, F19, hkq, hE, hA, hS, g1_4, g1_5, g1_6, g0_4, g0_5, g0_6, H⟩
 cases kq21 with
 | zero => cases (show none = some r from H)
 | succ k22 =>
  rw [maps_follow.l20_s] at H
  obtain ⟨J, hE⟩ := hE.at hA
  refine wp_seq_k fun K24 hK24 => pl0 (plc hE (.r 0 1 .nil) (fun a hE => pld (hK24 _ _ (wp_seq_k fun K25 hK25 => ?_))))
  rcases sp H with ⟨c26, H⟩ | ⟨c26, H⟩
  ·
   replace hE := hE.kt 16 c26
   refine ct hE (wp_skip (hK25 _ _ (wp_seq_k fun K27 hK27 => wp_block (wp_seq_k fun K28 hK28 => pl0 ?_))))
   obtain ⟨c29, H⟩ := gd H
   have hr30 := hS.row_at (i := 2) rfl
   have c31 : 0 ≤ x18 ∧ x18 < (l17.length : Int) := by rw [← (row_form hr30).1]; exact c29
   have hE_ := hE
   obtain ⟨b32, rfl⟩ := row_addr hr30 c31.1 c31.2
   replace hE := hE_
   have hr_ := hS.row_at (i := 2) rfl
   obtain ⟨cs34, ⟨A36, c37, rfl, g38⟩, hc35⟩ := row_el hr_ T_api_Trail.z x18 c31.1 c31.2
   refine plc hE (.r 0 1 <| .x 1 c29 <| .cs 2 hc35 <| .nil) (fun a hE => ple hE (.al (t := 49) hS [.int .i64 0, .slice none 0 0]) ?_)
   rintro _ u40 a ⟨b39, rfl, hb39, hS, hg⟩ hE
   refine plc hE (.r 4 1 .nil) (fun a hE => ple hE (.sto hS [.int .i64 ((nth T_api_Trail.z l17 x18).f0), .slice A36 (((nth T_api_Trail.z l17 x18).f1).length) c37]) ?_)
   rintro _ u41 a ⟨rfl, hb39, hS, hz⟩ hE
   refine pld (hK28 _ _ (wp_seq_k fun K42 hK42 => ?_))
   refine drawn 6 ⟨[4], [], fun q => False⟩ mixed rfl (by kernel_rfl) (fun hst => ?_)
   replace hS := hS.drew
   have hb2 := hS.blk_at (i := 2) rfl
   refine mny 3 hst hE (.bn 0 0 7 hb2 <| .bn 1 0 7 hb2 <| .r 2 1 <| .nil) (fun a hE => ?_)
   obtain ⟨t44, h45, H⟩ := bd H
   refine on1 3 hE (.cl en71 (maps_raw.calls k22 x0_ x18 _ _ _ _ _ _ _ _ _ hS.own.sub g0_4 g0_5 g0_6 h45)) ?_
   rintro _ u43 a ⟨F46, A47, c48, rfl, hC⟩ hE
   refine ⟨.of hC.agr, ?_⟩
   have hs := hC.sub
   replace hS := hS.called (X := []) hC
   replace g38 := g38.mono hs
   replace g0_4 := g0_4.mono hs
   replace g0_5 := g0_5.mono hs
   replace g0_6 := g0_6.mono hs
   replace g1_4 := g1_4.mono hs
   replace g1_5 := g1_5.mono hs
   replace g1_6 := g1_6.mono hs
   obtain ⟨t52, h53, H⟩ := bd H
   refine on1 4 hE (.cl en74 (maps_up.calls k22 x0_ t44 _ _ _ _ _ _ _ _ _ _ _ (Own.left (X := [row (Kn.int .i64) 3 (.slice A47 t44.length c48) t44]) hS.own) g0_4 g0_5 g0_6 h53)) ?_
   rintro _ u51 a ⟨F54, A55, c56, rfl, hC⟩ hE
   refine ⟨.d, ?_⟩
   have hs := hC.sub
   replace hS := hS.called (X := [row (Kn.int .i64) 3 (.slice A47 t44.length c48) t44]) hC
   replace g38 := g38.mono hs
   replace g0_4 := g0_4.mono hs
   replace g0_5 := g0_5.mono hs
   replace g0_6 := g0_6.mono hs
   replace g1_4 := g1_4.mono hs
   replace g1_5 := g1_5.mono hs
   replace g1_6 := g1_6.mono hs
   refine mny 0 hst hE (.r 5 1 .nil) (fun a hE => ?_)
   refine dn ?_
   refine hK42 _ _ (wp_seq_k fun K59 hK59 => wp_seq_k fun K60 hK60 => ?_)
   refine drawn 7 ⟨[5], [], fun q => False⟩ mixed rfl (by kernel_rfl) (fun hst => ?_)
   replace hS := hS.drew
   have hb4 := hS.blk_at (i := 2) rfl
   refine mny 3 hst hE (.r 0 1 <| .bn 1 0 7 hb4 <| .bn 2 0 7 hb4 <| .r 3 1 <| .nil) (fun a hE => ?_)
   obtain ⟨t62, h63, H⟩ := bd H
   refine on1 4 hE (.cl en71 (maps_raw.calls k22 x1_ x18 _ _ _ _ _ _ _ _ _ hS.own.sub g1_4 g1_5 g1_6 h63)) ?_
   rintro _ u61 a ⟨F64, A65, c66, rfl, hC⟩ hE
   refine ⟨.of hC.agr, ?_⟩
   have hs := hC.sub
   replace hS := hS.called (X := []) hC
   replace g38 := g38.mono hs
   replace g0_4 := g0_4.mono hs
   replace g0_5 := g0_5.mono hs
   replace g0_6 := g0_6.mono hs
   replace g1_4 := g1_4.mono hs
   replace g1_5 := g1_5.mono hs
   replace g1_6 := g1_6.mono hs
   obtain ⟨t70, h71, H⟩ := bd H
   refine on1 5 hE (.cl en74 (maps_up.calls k22 x1_ t62 _ _ _ _ _ _ _ _ _ _ _ (Own.left (X := [row (Kn.int .i64) 3 (.slice A65 t62.length c66) t62]) hS.own) g1_4 g1_5 g1_6 h71)) ?_
   rintro _ u69 a ⟨F72, A73, c74, rfl, hC⟩ hE
   refine ⟨.d, ?_⟩
   have hs := hC.sub
   replace hS := hS.called (X := [row (Kn.int .i64) 3 (.slice A65 t62.length c66) t62]) hC
   replace g38 := g38.mono hs
   replace g0_4 := g0_4.mono hs
   replace g0_5 := g0_5.mono hs
   replace g0_6 := g0_6.mono hs
   replace g1_4 := g1_4.mono hs
   replace g1_5 := g1_5.mono hs
   replace g1_6 := g1_6.mono hs
   obtain ⟨t78, h79, H⟩ := bd H
   refine on1 6 hE (.cl en90 (slices_Equal__int_int.calls k22 t52 t70 _ _ _ _ _ _ _ (Sub.refl _) (hS.rd_at (i := 1) rfl) (hS.rd_at (i := 0) rfl) h79)) ?_
   rintro _ u77 a ⟨_, rfl, hC⟩ hE
   refine ⟨.of hC.agr, ?_⟩
   replace hS := hS.lent hC
   refine dn ?_
   refine hK60 _ _ ?_
   rcases sp H with ⟨c80, H⟩ | ⟨c80, H⟩
   ·
    replace hE := hE.bt 31 c80
    refine ct hE ?_
    refine wp_exit ?_
    refine hK27 _ _ (pl0 (plc hE (.r 0 2 .nil) (fun a hE => pld ?_)))
    replace hS := hS.tail
    replace hS := hS.tail
    replace hS := hS.tail
    exact then_n ⟨k22, by omega, _, l17, (w64 (x18 + 1)), F72, by omega, hE, .of, hS, g1_4, g1_5, g1_6, g0_4, g0_5, g0_6, H⟩
   ·
    replace hE := hE.bf 31 c80
    refine cf hE (wp_skip (hK59 _ _ (wp_seq_k fun K81 hK81 => wp_seq_k fun K82 hK82 => pl0 ?_)))
    have hb2 := hS.blk_at (i := 4) rfl
    refine plc hE (.r 0 3 <| .b 3 2 hb2 <| .r 4 1 <| .nil) (fun a hE => pld (hK82 _ _ ?_))
    rcases sp H with ⟨c83, H⟩ | ⟨c83, H⟩
    ·
     replace hE := hE.kt 36 c83
     refine ct hE (wp_seq_k fun K84 hK84 => ?_)
     refine drawn 8 ⟨[7], [], fun q => False⟩ mixed rfl (by kernel_rfl) (fun hst => ?_)
     replace hS := hS.drew
     have hb39 := hS.blk_at (i := 2) rfl
     refine mny 5 hst hE (.r 0 1 <| .b 1 0 hb39 <| .r 2 1 <| .nil) (fun a hE => ?_)
     cases (show none = some r from H)
    ·
     replace hE := hE.kf 36 c83
     refine cf hE (wp_skip (hK81 _ _ (wp_seq_k fun K85 hK85 => pl0 (plc hE (.r 0 1 <| .b 1 0 hb2 <| .r 2 2 <| .nil) (fun a hE => ?_)))))
     replace hS := hS.front 2 rfl
     refine ple hE (.sto hS [.int .i64 (w64 (x0_.f0 + 1)), .slice A36 (((nth T_api_Trail.z l17 x18).f1).length) c37]) ?_
     rintro _ u86 a ⟨rfl, hb39, hS, hz⟩ hE
     refine pld (hK85 _ _ (pl0 ?_))
     have hr87 := hS.row_at (i := 5) rfl
     have c88 : 0 ≤ x18 ∧ x18 < (l17.length : Int) := by rw [← (row_form hr87).1]; exact c29
     have hr_ := hS.row_at (i := 5) rfl
     obtain ⟨cs90, ⟨A92, c93, rfl, g94⟩, hc91⟩ := row_el hr_ T_api_Trail.z x18 c88.1 c88.2
     refine plc hE (.r 0 2 <| .bn 2 0 2 hb39 <| .x 3 c29 <| .nil) (fun a hE => ?_)
     replace hS := hS.front 5 rfl
     obtain ⟨cs99, ⟨A96, c97, rfl, g98⟩, hc100⟩ := row_el (hS.row_at (i := 0) rfl) T_api_Trail.z x18 c88.1 c88.2
     refine ple hE (.set (d := T_api_Trail.k) (n := t8.length) (i := x18) (⟨(w64 (x0_.f0 + 1)), (nth T_api_Trail.z l17 x18).f1⟩ : T_api_Trail) (0) (ea0 _ _) hS c88 [.int .i64 ((nth T_api_Trail.z l17 x18).f0), .slice A96 (((nth T_api_Trail.z l17 x18).f1).length) c97] hc100 [.int .i64 (w64 (x0_.f0 + 1)), .slice A36 (((nth T_api_Trail.z l17 x18).f1).length) c37] ⟨_, _, rfl, g38⟩) ?_
     rintro _ u95 a ⟨rfl, hS, hz⟩ hE
     refine pld ?_
     refine block_n ?_
     refine hK27 _ _ (pl0 (plc hE (.r 0 2 .nil) (fun a hE => pld ?_)))
     replace hS := hS.front 1 rfl
     replace hS := hS.tail
     replace hS := hS.front 1 rfl
     replace hS := hS.tail
     replace hS := hS.front 1 rfl
     replace hS := hS.tail
     replace hS := hS.front 2 rfl
     replace hS := hS.front 2 rfl
     exact then_n ⟨k22, by omega, _, (l17.set (x18).toNat (⟨(w64 (x0_.f0 + 1)), (nth T_api_Trail.z l17 x18).f1⟩ : T_api_Trail)), (w64 (x18 + 1)), F72, by omega, hE, .of, hS, g1_4, g1_5, g1_6, g0_4, g0_5, g0_6, H⟩
  ·
   replace hE := hE.kf 16 c26
   refine cf hE ?_
   refine wp_exit ?_
   refine hK15 _ _ (wp_seq_k fun K101 hK101 => pl0 (plc hE (.r 0 2 .nil) (fun a hE => pld (hK101 _ _ (wp_ret ?_)))))
   have hn102 := (row_form (hS.row_at (i := 2) rfl)).1
   replace hE := hE.set (d := 4) (v := .slice A11 l17.length c12) (Eq.trans (b := .slice A11 t8.length c12) (by kernel_rfl) (by rw [← hn102]))
   replace hS : St W (mine W []) F u23 F19 [box b4 #[.int .i64 x1_.f0, .int .i64 x1_.f1, .int .i64 x1_.f2, .int .i64 x1_.f3, .slice A1_4 x1_.f4.length c1_4, .slice A1_5 x1_.f5.length c1_5, .slice A1_6 x1_.f6.length c1_6] 26, box b2 #[.int .i64 x0_.f0, .int .i64 x0_.f1, .int .i64 x0_.f2, .int .i64 x0_.f3, .slice A0_4 x0_.f4.length c0_4, .slice A0_5 x0_.f5.length c0_5, .slice A0_6 x0_.f6.length c0_6] 26, row T_api_Trail.k 49 (.slice A11 l17.length c12) l17] := by rw [← hn102]; exact hS
   replace hS := hS.tail
   replace hS := hS.tail
   obtain rfl := si H
   exact rt1 hE ⟨_, rfl, _, _, _, rfl, hS⟩

/-! ### windrose/maps.Apply: function 26 -/
def maps_Apply.j21 : Nat → T_api_Map → T_api_Delta → Bool → Option (T_api_Map × Int)
  | 0, _, _, _ => none
  | k + 1, x0_, x1_, y20 => if y20 = true then ((maps_own.f k x0_).bind fun t29 => (some (t29, 1))) else (if x0_.f0 = 2147483647 then ((maps_own.f k x0_).bind fun t53 => (some (t53, 6))) else ((maps_own.f k x0_).bind fun t77 => ((maps_turned.f k t77 x1_).bind fun t95 => (if t95.2 = 0 then ((maps_follow.f k x0_ t95.1).bind fun t149 => (some ((⟨(w64 (t95.1.f0 + 1)), t95.1.f1, t95.1.f2, t95.1.f3, t95.1.f4, t95.1.f5, t149⟩ : T_api_Map), 0))) else ((maps_own.f k x0_).bind fun t125 => (some (t125, t95.2)))))))
theorem maps_Apply.j21_s (k : Nat) (x0_ : T_api_Map) (x1_ : T_api_Delta) (y20 : Bool) : maps_Apply.j21 (k + 1) x0_ x1_ y20 = (if y20 = true then ((maps_own.f k x0_).bind fun t29 => (some (t29, 1))) else (if x0_.f0 = 2147483647 then ((maps_own.f k x0_).bind fun t53 => (some (t53, 6))) else ((maps_own.f k x0_).bind fun t77 => ((maps_turned.f k t77 x1_).bind fun t95 => (if t95.2 = 0 then ((maps_follow.f k x0_ t95.1).bind fun t149 => (some ((⟨(w64 (t95.1.f0 + 1)), t95.1.f1, t95.1.f2, t95.1.f3, t95.1.f4, t95.1.f5, t149⟩ : T_api_Map), 0))) else ((maps_own.f k x0_).bind fun t125 => (some (t125, t95.2)))))))) := by kernel_rfl
def maps_Apply.f (k : Nat) (x0_ : T_api_Map) (x1_ : T_api_Delta) : Option (T_api_Map × Int) := (maps_Check.f k x0_).bind fun t11 => (if t11 = 0 then (if x1_.f0 < 1 then (maps_Apply.j21 k x0_ x1_ true) else (if x1_.f0 ≥ 11 then (maps_Apply.j21 k x0_ x1_ true) else ((maps_bare.f x1_).bind fun t18 => (maps_Apply.j21 k x0_ x1_ (!t18))))) else (some ((⟨0, 0, 0, 0, [], [], []⟩ : T_api_Map), 1)))
def maps_Apply.Post (W F : World) (r : T_api_Map × Int) (v : Value) (w' : World) : Prop := ∃ (F' : World) (RA0_4 : Option Addr) (rc0_4 : Nat) (RA0_5 : Option Addr) (rc0_5 : Nat) (RA0_6 : Option Addr) (rc0_6 : Nat), v = .tuple #[.agg #[.int .i64 r.1.f0, .int .i64 r.1.f1, .int .i64 r.1.f2, .int .i64 r.1.f3, .slice RA0_4 r.1.f4.length rc0_4, .slice RA0_5 r.1.f5.length rc0_5, .slice RA0_6 r.1.f6.length rc0_6], .int .i64 r.2] ∧ St W (mine W []) F w' F' [row T_api_Trail.k 49 (.slice RA0_6 r.1.f6.length rc0_6) r.1.f6] ∧ Rd T_api_Node.k F' RA0_4 rc0_4 r.1.f4 ∧ Rd T_api_Temp.k F' RA0_5 rc0_5 r.1.f5
theorem maps_Apply.calls (k : Nat) (x0_ : T_api_Map) (x1_ : T_api_Delta) (A0_4 : Option Addr) (c0_4 : Nat) (A0_5 : Option Addr) (c0_5 : Nat) (A0_6 : Option Addr) (c0_6 : Nat) (A1_6 : Option Addr) (c1_6 : Nat) (r : T_api_Map × Int) (W F : World) (hown : Sub F W) (g0_4 : Rd T_api_Node.k F A0_4 c0_4 x0_.f4) (g0_5 : Rd T_api_Temp.k F A0_5 c0_5 x0_.f5) (g0_6 : Rd T_api_Trail.k F A0_6 c0_6 x0_.f6) (g1_6 : Rd (Kn.int .i64) F A1_6 c1_6 x1_.f6) (H : maps_Apply.f k x0_ x1_ = some r) :
    Calls Tryz.prog 26 #[.agg #[.int .i64 x0_.f0, .int .i64 x0_.f1, .int .i64 x0_.f2, .int .i64 x0_.f3, .slice A0_4 x0_.f4.length c0_4, .slice A0_5 x0_.f5.length c0_5, .slice A0_6 x0_.f6.length c0_6], .agg #[.int .i64 x1_.f0, .int .i64 x1_.f1, .int .i64 x1_.f2, .int .i64 x1_.f3, .int .i64 x1_.f4, .int .i64 x1_.f5, .slice A1_6 x1_.f6.length c1_6]] W fun e w' => ∃ v, e = .returned v ∧ maps_Apply.Post W F r v w' := by
 have hS := St.start (Own.nil hown)
 unfold maps_Apply.f at H
 refine enter (n := 56) rfl rfl rfl (Nat.le_of_ble_eq_true rfl) (fun a hE => ?_)
 refine wp_seq_k fun K1 hK1 => pl0 (ple hE (.bx (t := 26) hS [.int .i64 x0_.f0, .int .i64 x0_.f1, .int .i64 x0_.f2, .int .i64 x0_.f3, .slice A0_4 x0_.f4.length c0_4, .slice A0_5 x0_.f5.length c0_5, .slice A0_6 x0_.f6.length c0_6]) ?_)
 rintro _ u3 a ⟨b2, rfl, hb2, hS, hg⟩ hE
 refine ple hE (.bx (t := 40) hS [.int .i64 x1_.f0, .int .i64 x1_.f1, .int .i64 x1_.f2, .int .i64 x1_.f3, .int .i64 x1_.f4, .int .i64 x1_.f5, .slice A1_6 x1_.f6.length c1_6]) ?_
 rintro _ u5 a ⟨b4, rfl, hb4, hS, hg⟩ hE
 refine ple hE (.al (t := 26) hS [.int .i64 0, .int .i64 0, .int .i64 0, .int .i64 0, .slice none 0 0, .slice none 0 0, .slice none 0 0]) ?_
 rintro _ u7 a ⟨b6, rfl, hb6, hS, hg⟩ hE
 refine plc hE (.r 3 1 .nil) (fun a hE => pld (hK1 _ _ (wp_seq_k fun K8 hK8 => wp_block (wp_seq_k fun K9 hK9 => pl0 ?_))))
 have hb2 := hS.blk_at (i := 2) rfl
 refine plc hE (.bn 0 0 7 hb2 .nil) (fun a hE => ?_)
 obtain ⟨t11, h12, H⟩ := bd H
 refine ple hE (.cl en32 (maps_Check.calls k x0_ _ _ _ _ _ _ _ _ _ hS.own.sub g0_4 g0_5 g0_6 h12)) ?_
 rintro _ u10 a ⟨_, rfl, hC⟩ hE
 replace hS := hS.lent hC
 refine plc hE (.r 2 2 .nil) (fun a hE => pld (hK9 _ _ ?_))
 rcases sp H with ⟨c13, H⟩ | ⟨c13, H⟩
 ·
  replace hE := hE.ktn 8 c13
  refine cf hE (wp_seq_k fun K14 hK14 => ?_)
  have J24 : ∀ kq22, kq22 ≤ k → ∀ (G : Nat → Value) (y20 : Bool) (a : Act) (w' : World), Env 56 G a → At G [(2, .pointer (some ⟨b2, 0, none⟩)), (3, .pointer (some ⟨b4, 0, none⟩)), (4, .pointer (some ⟨b6, 0, none⟩)), (13, .bool y20)] → St W (mine W []) F w' F [box b6 #[.int .i64 0, .int .i64 0, .int .i64 0, .int .i64 0, .slice none 0 0, .slice none 0 0, .slice none 0 0] 26, box b4 #[.int .i64 x1_.f0, .int .i64 x1_.f1, .int .i64 x1_.f2, .int .i64 x1_.f3, .int .i64 x1_.f4, .int .i64 x1_.f5, .slice A1_6 x1_.f6.length c1_6] 40, box b2 #[.int .i64 x0_.f0, .int .i64 x0_.f1, .int .i64 x0_.f2, .int .i64 x0_.f3, .slice A0_4 x0_.f4.length c0_4, .slice A0_5 x0_.f5.length c0_5, .slice A0_6 x0_.f6.length c0_6] 26] → maps_Apply.j21 kq22 x0_ x1_ y20 = some r → K14 a w' := by
   intro kq22 hkq G y20 a u25 hE hA hS H
   cases kq22 with
   | zero => cases (show none = some r from H)
   | succ k23 =>
    rw [maps_Apply.j21_s] at H
    obtain ⟨J, hE⟩ := hE.at hA
    refine hK14 _ _ ?_
    rcases sp H with ⟨c26, H⟩ | ⟨c26, H⟩
    ·
     replace hE := hE.bt 13 c26
     refine ct hE (wp_seq_k fun K27 hK27 => pl0 ?_)
     have hb2 := hS.blk_at (i := 2) rfl
     refine plc hE (.bn 0 0 7 hb2 .nil) (fun a hE => ?_)
     obtain ⟨t29, h30, H⟩ := bd H
     refine ple hE (.cl en77 (maps_own.calls k23 x0_ _ _ _ _ _ _ _ _ _ hS.own.sub g0_4 g0_5 g0_6 h30)) ?_
     rintro _ u28 a ⟨F31, A32, c33, A36, c37, A40, c41, rfl, hC⟩ hE
     have hs := hC.sub
     replace hS := hS.called (X := []) hC
     replace g0_4 := g0_4.mono hs
     replace g0_5 := g0_5.mono hs
     replace g0_6 := g0_6.mono hs
     replace g1_6 := g1_6.mono hs
     replace hS := hS.front 3 rfl
     refine ple hE (.sto hS [.int .i64 t29.f0, .int .i64 t29.f1, .int .i64 t29.f2, .int .i64 t29.f3, .slice A32 t29.f4.length c33, .slice A36 t29.f5.length c37, .slice A40 t29.f6.length c41]) ?_
     rintro _ u44 a ⟨rfl, hb6, hS, hz⟩ hE
     refine plc hE (.r 3 1 .nil) (fun a hE => pld (hK27 _ _ (wp_ret (block_ret (then_ret ?_)))))
     replace hS := hS.front 1 rfl
     obtain ⟨F45, hs, g46, hS⟩ := hS.give
     replace g0_4 := g0_4.mono hs
     replace g0_5 := g0_5.mono hs
     replace g0_6 := g0_6.mono hs
     replace g1_6 := g1_6.mono hs
     replace hS := hS.front 1 rfl
     obtain ⟨F47, hs, g48, hS⟩ := hS.give
     replace g0_4 := g0_4.mono hs
     replace g0_5 := g0_5.mono hs
     replace g0_6 := g0_6.mono hs
     replace g46 := g46.mono hs
     replace g1_6 := g1_6.mono hs
     replace hS := hS.tail
     replace hS := hS.front 1 rfl
     replace hS := hS.tail
     replace hS := hS.front 1 rfl
     replace hS := hS.tail
     obtain rfl := si H
     exact retN hE rfl (of_decide_eq_true rfl) (.cell (by kernel_rfl) (res_blk [.int .i64 t29.f0, .int .i64 t29.f1, .int .i64 t29.f2, .int .i64 t29.f3, .slice A32 t29.f4.length c33, .slice A36 t29.f5.length c37, .slice A40 t29.f6.length c41] ag26 sz26 hb6 rfl) (.tmp (by kernel_rfl) .nil)) ⟨_, rfl, _, _, _, _, _, _, _, rfl, hS, g46, g48⟩
    ·
     replace hE := hE.bf 13 c26
     refine cf hE (wp_seq_k fun K49 hK49 => pl0 ?_)
     have hb2 := hS.blk_at (i := 2) rfl
     refine plc hE (.r 0 1 <| .b 1 0 hb2 <| .r 2 2 <| .nil) (fun a hE => pld (hK49 _ _ ?_))
     rcases sp H with ⟨c50, H⟩ | ⟨c50, H⟩
     ·
      replace hE := hE.kt 29 c50
      refine ct hE (wp_seq_k fun K51 hK51 => pl0 (plc hE (.bn 0 0 7 hb2 .nil) (fun a hE => ?_)))
      obtain ⟨t53, h54, H⟩ := bd H
      refine ple hE (.cl en77 (maps_own.calls k23 x0_ _ _ _ _ _ _ _ _ _ hS.own.sub g0_4 g0_5 g0_6 h54)) ?_
      rintro _ u52 a ⟨F55, A56, c57, A60, c61, A64, c65, rfl, hC⟩ hE
      have hs := hC.sub
      replace hS := hS.called (X := []) hC
      replace g0_4 := g0_4.mono hs
      replace g0_5 := g0_5.mono hs
      replace g0_6 := g0_6.mono hs
      replace g1_6 := g1_6.mono hs
      replace hS := hS.front 3 rfl
      refine ple hE (.sto hS [.int .i64 t53.f0, .int .i64 t53.f1, .int .i64 t53.f2, .int .i64 t53.f3, .slice A56 t53.f4.length c57, .slice A60 t53.f5.length c61, .slice A64 t53.f6.length c65]) ?_
      rintro _ u68 a ⟨rfl, hb6, hS, hz⟩ hE
      refine plc hE (.r 3 1 .nil) (fun a hE => pld (hK51 _ _ (wp_ret (block_ret (then_ret ?_)))))
      replace hS := hS.front 1 rfl
      obtain ⟨F69, hs, g70, hS⟩ := hS.give
      replace g0_4 := g0_4.mono hs
      replace g0_5 := g0_5.mono hs
      replace g0_6 := g0_6.mono hs
      replace g1_6 := g1_6.mono hs
      replace hS := hS.front 1 rfl
      obtain ⟨F71, hs, g72, hS⟩ := hS.give
      replace g0_4 := g0_4.mono hs
      replace g0_5 := g0_5.mono hs
      replace g0_6 := g0_6.mono hs
      replace g70 := g70.mono hs
      replace g1_6 := g1_6.mono hs
      replace hS := hS.tail
      replace hS := hS.front 1 rfl
      replace hS := hS.tail
      replace hS := hS.front 1 rfl
      replace hS := hS.tail
      obtain rfl := si H
      exact retN hE rfl (of_decide_eq_true rfl) (.cell (by kernel_rfl) (res_blk [.int .i64 t53.f0, .int .i64 t53.f1, .int .i64 t53.f2, .int .i64 t53.f3, .slice A56 t53.f4.length c57, .slice A60 t53.f5.length c61, .slice A64 t53.f6.length c65] ag26 sz26 hb6 rfl) (.tmp (by kernel_rfl) .nil)) ⟨_, rfl, _, _, _, _, _, _, _, rfl, hS, g70, g72⟩
     ·
      replace hE := hE.kf 29 c50
      refine cf hE (wp_skip ?_)
      refine block_n ?_
      refine hK8 _ _ (wp_seq_k fun K76 hK76 => ?_)
      refine drawn 10 ⟨[3, 8], [], fun q => False⟩ mixed rfl (by kernel_rfl) (fun hst => ?_)
      replace hS := hS.drew
      have hb2 := hS.blk_at (i := 2) rfl
      have hb4 := hS.blk_at (i := 1) rfl
      refine mny 8 hst hE (.bn 0 0 7 hb2 <| .bn 2 0 7 hb4 <| .nil) (fun a hE => ?_)
      obtain ⟨t77, h78, H⟩ := bd H
      obtain ⟨t95, h96, H⟩ := bd H
      refine meet2 (fun a w' => ∃ (G : Nat → Value) (b93 : Nat) (A103 : Option Addr) (c104 : Nat) (A107 : Option Addr) (c108 : Nat) (A110 : Option Addr) (c111 : Nat) (F117 : World), Env 56 G a ∧ At G [(2, .pointer (some ⟨b2, 0, none⟩)), (4, .pointer (some ⟨b6, 0, none⟩)), (6, .pointer (some ⟨b93, 0, none⟩)), (40, .agg #[.int .i64 t95.1.f0, .int .i64 t95.1.f1, .int .i64 t95.1.f2, .int .i64 t95.1.f3, .slice A103 t95.1.f4.length c104, .slice A107 t95.1.f5.length c108, .slice A110 t95.1.f6.length c111]), (41, .int .i64 t95.2)] ∧ St W (mine W []) F w' F117 [box b93 #[.int .i64 0, .int .i64 0, .int .i64 0, .int .i64 0, .slice none 0 0, .slice none 0 0, .slice none 0 0] 26, box b6 #[.int .i64 0, .int .i64 0, .int .i64 0, .int .i64 0, .slice none 0 0, .slice none 0 0, .slice none 0 0] 26, box b4 #[.int .i64 x1_.f0, .int .i64 x1_.f1, .int .i64 x1_.f2, .int .i64 x1_.f3, .int .i64 x1_.f4, .int .i64 x1_.f5, .slice A1_6 x1_.f6.length c1_6] 40, box b2 #[.int .i64 x0_.f0, .int .i64 x0_.f1, .int .i64 x0_.f2, .int .i64 x0_.f3, .slice A0_4 x0_.f4.length c0_4, .slice A0_5 x0_.f5.length c0_5, .slice A0_6 x0_.f6.length c0_6] 26, row T_api_Node.k 104 (.slice A103 t95.1.f4.length c104) t95.1.f4] ∧ Rd T_api_Temp.k F117 A107 c108 t95.1.f5 ∧ Rd T_api_Trail.k F117 A110 c111 t95.1.f6 ∧ Rd (Kn.int .i64) F117 A1_6 c1_6 x1_.f6 ∧ Rd T_api_Node.k F117 A0_4 c0_4 x0_.f4 ∧ Rd T_api_Temp.k F117 A0_5 c0_5 x0_.f5 ∧ Rd T_api_Trail.k F117 A0_6 c0_6 x0_.f6) 2 255 ?_ (fun hJb => ?_)
      ·
       rintro a u118 ⟨G, b93, A103, c104, A107, c108, A110, c111, F117, hE, hA, hS, g109, g112, g1_6, g0_4, g0_5, g0_6⟩
       obtain ⟨J, hE⟩ := hE.at hA
       refine on1 8 hE (.sto hS [.int .i64 t95.1.f0, .int .i64 t95.1.f1, .int .i64 t95.1.f2, .int .i64 t95.1.f3, .slice A103 t95.1.f4.length c104, .slice A107 t95.1.f5.length c108, .slice A110 t95.1.f6.length c111]) ?_
       rintro _ u119 a ⟨rfl, hb93, hS, hz⟩ hE
       refine ⟨.d, ?_⟩
       refine mny 0 hst hE (.r 9 1 .nil) (fun a hE => ?_)
       refine dn ?_
       refine hK76 _ _ (wp_seq_k fun K120 hK120 => wp_seq_k fun K121 hK121 => pl0 (plc hE (.r 0 2 .nil) (fun a hE => pld (hK121 _ _ ?_))))
       rcases sp H with ⟨c122, H⟩ | ⟨c122, H⟩
       ·
        replace hE := hE.ktn 43 c122
        refine cf hE (wp_skip (hK120 _ _ (wp_seq_k fun K145 hK145 => pl0 ?_)))
        have hb2 := hS.blk_at (i := 3) rfl
        refine plc hE (.bn 0 0 7 hb2 <| .bn 1 0 7 hb93 <| .nil) (fun a hE => ?_)
        replace hS := hS.front 4 rfl
        obtain ⟨F146, hs, g147, hS⟩ := hS.give
        replace g109 := g109.mono hs
        replace g112 := g112.mono hs
        replace g0_4 := g0_4.mono hs
        replace g0_5 := g0_5.mono hs
        replace g0_6 := g0_6.mono hs
        replace g1_6 := g1_6.mono hs
        obtain ⟨t149, h150, H⟩ := bd H
        refine ple hE (.cl en79 (maps_follow.calls k23 x0_ t95.1 _ _ _ _ _ _ _ _ _ _ _ _ _ _ _ hS.own.sub g0_4 g0_5 g0_6 g147 g109 g112 h150)) ?_
        rintro _ u148 a ⟨F151, A152, c153, rfl, hC⟩ hE
        have hs := hC.sub
        replace hS := hS.called (X := []) hC
        replace g147 := g147.mono hs
        replace g109 := g109.mono hs
        replace g112 := g112.mono hs
        replace g0_4 := g0_4.mono hs
        replace g0_5 := g0_5.mono hs
        replace g0_6 := g0_6.mono hs
        replace g1_6 := g1_6.mono hs
        refine plc hE (.r 3 1 .nil) (fun a hE => ?_)
        replace hS := hS.front 1 rfl
        refine ple hE (.sto hS [.int .i64 t95.1.f0, .int .i64 t95.1.f1, .int .i64 t95.1.f2, .int .i64 t95.1.f3, .slice A103 t95.1.f4.length c104, .slice A107 t95.1.f5.length c108, .slice A152 t149.length c153]) ?_
        rintro _ u156 a ⟨rfl, hb93, hS, hz⟩ hE
        refine pld (hK145 _ _ (wp_seq_k fun K157 hK157 => pl0 (plc hE (.r 0 1 <| .b 1 0 hb93 <| .r 2 2 <| .nil) (fun a hE => ple hE (.sto hS [.int .i64 (w64 (t95.1.f0 + 1)), .int .i64 t95.1.f1, .int .i64 t95.1.f2, .int .i64 t95.1.f3, .slice A103 t95.1.f4.length c104, .slice A107 t95.1.f5.length c108, .slice A152 t149.length c153]) ?_))))
        rintro _ u158 a ⟨rfl, hb93, hS, hz⟩ hE
        refine pld (hK157 _ _ (wp_seq_k fun K159 hK159 => pl0 (plc hE (.bn 0 0 7 hb93 .nil) (fun a hE => ?_))))
        replace hS := hS.front 2 rfl
        refine ple hE (.sto hS [.int .i64 (w64 (t95.1.f0 + 1)), .int .i64 t95.1.f1, .int .i64 t95.1.f2, .int .i64 t95.1.f3, .slice A103 t95.1.f4.length c104, .slice A107 t95.1.f5.length c108, .slice A152 t149.length c153]) ?_
        rintro _ u160 a ⟨rfl, hb6, hS, hz⟩ hE
        refine plc hE (.r 2 1 .nil) (fun a hE => pld (hK159 _ _ (wp_ret ?_)))
        replace hS := hS.tail
        replace hS := hS.tail
        replace hS := hS.front 1 rfl
        replace hS := hS.tail
        replace hS := hS.front 1 rfl
        replace hS := hS.tail
        obtain rfl := si H
        exact retN hE rfl (of_decide_eq_true rfl) (.cell (by kernel_rfl) (res_blk [.int .i64 (w64 (t95.1.f0 + 1)), .int .i64 t95.1.f1, .int .i64 t95.1.f2, .int .i64 t95.1.f3, .slice A103 t95.1.f4.length c104, .slice A107 t95.1.f5.length c108, .slice A152 t149.length c153] ag26 sz26 hb6 rfl) (.tmp (by kernel_rfl) .nil)) ⟨_, rfl, _, _, _, _, _, _, _, rfl, hS, g147, g109⟩
       ·
        replace hE := hE.kfn 43 c122
        refine ct hE (wp_seq_k fun K123 hK123 => pl0 ?_)
        have hb2 := hS.blk_at (i := 3) rfl
        refine plc hE (.bn 0 0 7 hb2 .nil) (fun a hE => ?_)
        obtain ⟨t125, h126, H⟩ := bd H
        refine ple hE (.cl en77 (maps_own.calls k23 x0_ _ _ _ _ _ _ _ _ _ hS.own.sub g0_4 g0_5 g0_6 h126)) ?_
        rintro _ u124 a ⟨F127, A128, c129, A132, c133, A136, c137, rfl, hC⟩ hE
        have hs := hC.sub
        replace hS := hS.called (X := []) hC
        replace g109 := g109.mono hs
        replace g112 := g112.mono hs
        replace g0_4 := g0_4.mono hs
        replace g0_5 := g0_5.mono hs
        replace g0_6 := g0_6.mono hs
        replace g1_6 := g1_6.mono hs
        refine plc hE (.r 2 1 .nil) (fun a hE => ?_)
        replace hS := hS.front 4 rfl
        refine ple hE (.sto hS [.int .i64 t125.f0, .int .i64 t125.f1, .int .i64 t125.f2, .int .i64 t125.f3, .slice A128 t125.f4.length c129, .slice A132 t125.f5.length c133, .slice A136 t125.f6.length c137]) ?_
        rintro _ u140 a ⟨rfl, hb6, hS, hz⟩ hE
        refine plc hE (.r 4 1 .nil) (fun a hE => pld (hK123 _ _ (wp_ret (then_ret ?_))))
        replace hS := hS.front 1 rfl
        obtain ⟨F141, hs, g142, hS⟩ := hS.give
        replace g109 := g109.mono hs
        replace g112 := g112.mono hs
        replace g0_4 := g0_4.mono hs
        replace g0_5 := g0_5.mono hs
        replace g0_6 := g0_6.mono hs
        replace g1_6 := g1_6.mono hs
        replace hS := hS.front 1 rfl
        obtain ⟨F143, hs, g144, hS⟩ := hS.give
        replace g109 := g109.mono hs
        replace g112 := g112.mono hs
        replace g0_4 := g0_4.mono hs
        replace g0_5 := g0_5.mono hs
        replace g0_6 := g0_6.mono hs
        replace g142 := g142.mono hs
        replace g1_6 := g1_6.mono hs
        replace hS := hS.tail
        replace hS := hS.front 1 rfl
        replace hS := hS.tail
        replace hS := hS.front 1 rfl
        replace hS := hS.tail
        replace hS := hS.front 1 rfl
        replace hS := hS.tail
        replace hS := hS.front 1 rfl
        replace hS := hS.tail
        obtain rfl := si H
        exact retN hE rfl (of_decide_eq_true rfl) (.cell (by kernel_rfl) (res_blk [.int .i64 t125.f0, .int .i64 t125.f1, .int .i64 t125.f2, .int .i64 t125.f3, .slice A128 t125.f4.length c129, .slice A132 t125.f5.length c133, .slice A136 t125.f6.length c137] ag26 sz26 hb6 rfl) (.tmp (by kernel_rfl) .nil)) ⟨_, rfl, _, _, _, _, _, _, _, rfl, hS, g142, g144⟩
      ·
       refine meet2 (fun a w' => ∃ (G : Nat → Value) (b93 : Nat) (A81 : Option Addr) (c82 : Nat) (A85 : Option Addr) (c86 : Nat) (A89 : Option Addr) (c90 : Nat) (F114 : World), Env 56 G a ∧ At G [(2, .pointer (some ⟨b2, 0, none⟩)), (4, .pointer (some ⟨b6, 0, none⟩)), (6, .pointer (some ⟨b93, 0, none⟩)), (37, .agg #[.int .i64 t77.f0, .int .i64 t77.f1, .int .i64 t77.f2, .int .i64 t77.f3, .slice A81 t77.f4.length c82, .slice A85 t77.f5.length c86, .slice A89 t77.f6.length c90]), (38, .agg #[.int .i64 x1_.f0, .int .i64 x1_.f1, .int .i64 x1_.f2, .int .i64 x1_.f3, .int .i64 x1_.f4, .int .i64 x1_.f5, .slice A1_6 x1_.f6.length c1_6])] ∧ St W (mine W []) F w' F114 [box b93 #[.int .i64 0, .int .i64 0, .int .i64 0, .int .i64 0, .slice none 0 0, .slice none 0 0, .slice none 0 0] 26, box b6 #[.int .i64 0, .int .i64 0, .int .i64 0, .int .i64 0, .slice none 0 0, .slice none 0 0, .slice none 0 0] 26, box b4 #[.int .i64 x1_.f0, .int .i64 x1_.f1, .int .i64 x1_.f2, .int .i64 x1_.f3, .int .i64 x1_.f4, .int .i64 x1_.f5, .slice A1_6 x1_.f6.length c1_6] 40, box b2 #[.int .i64 x0_.f0, .int .i64 x0_.f1, .int .i64 x0_.f2, .int .i64 x0_.f3, .slice A0_4 x0_.f4.length c0_4, .slice A0_5 x0_.f5.length c0_5, .slice A0_6 x0_.f6.length c0_6] 26, row T_api_Node.k 104 (.slice A81 t77.f4.length c82) t77.f4, row T_api_Temp.k 97 (.slice A85 t77.f5.length c86) t77.f5, row T_api_Trail.k 49 (.slice A89 t77.f6.length c90) t77.f6] ∧ Rd (Kn.int .i64) F114 A1_6 c1_6 x1_.f6 ∧ Rd T_api_Node.k F114 A0_4 c0_4 x0_.f4 ∧ Rd T_api_Temp.k F114 A0_5 c0_5 x0_.f5 ∧ Rd T_api_Trail.k F114 A0_6 c0_6 x0_.f6) 6 135 ?_ (fun hJ => ?_)
       ·
        rintro a u115 ⟨G, b93, A81, c82, A85, c86, A89, c90, F114, hE, hA, hS, g1_6, g0_4, g0_5, g0_6⟩
        obtain ⟨J, hE⟩ := hE.at hA
        replace hS := hS.front 5 rfl
        obtain ⟨F97, hs, g98, hS⟩ := hS.give
        replace g1_6 := g1_6.mono hs
        replace g0_4 := g0_4.mono hs
        replace g0_5 := g0_5.mono hs
        replace g0_6 := g0_6.mono hs
        replace hS := hS.front 5 rfl
        obtain ⟨F99, hs, g100, hS⟩ := hS.give
        replace g98 := g98.mono hs
        replace g1_6 := g1_6.mono hs
        replace g0_4 := g0_4.mono hs
        replace g0_5 := g0_5.mono hs
        replace g0_6 := g0_6.mono hs
        replace hS := hS.front 4 rfl
        refine on1 3 hE (.cl en78 (maps_turned.calls k23 t77 x1_ _ _ _ _ _ _ _ _ _ _ _ (Own.left (X := [row T_api_Node.k 104 (.slice A81 t77.f4.length c82) t77.f4]) hS.own) g98 g100 g1_6 h96)) ?_
        rintro _ u101 a ⟨F102, A103, c104, A107, c108, A110, c111, rfl, hC, g109, g112⟩ hE
        refine ⟨.d, ?_⟩
        have hs := hC.sub
        replace hS := hS.called (X := [row T_api_Node.k 104 (.slice A81 t77.f4.length c82) t77.f4]) hC
        replace g98 := g98.mono hs
        replace g100 := g100.mono hs
        replace g1_6 := g1_6.mono hs
        replace g0_4 := g0_4.mono hs
        replace g0_5 := g0_5.mono hs
        replace g0_6 := g0_6.mono hs
        refine mny 2 hst hE (.r 4 3 .nil) (fun a hE => ?_)
        replace hS := hS.front 4 rfl
        replace hS := hS.front 4 rfl
        replace hS := hS.front 4 rfl
        replace hS := hS.front 4 rfl
        exact hJb _ _ ⟨_, b93, A103, c104, A107, c108, A110, c111, F102, hE, .of, hS, g109, g112, g1_6, g0_4, g0_5, g0_6⟩
       ·
        refine pk2 1 7 ?_ ?_
        ·
         refine pk1 1 hE (.cl en77 (maps_own.calls k23 x0_ _ _ _ _ _ _ _ _ _ hS.own.sub g0_4 g0_5 g0_6 h78)) ?_
         rintro _ u79 a ⟨F80, A81, c82, A85, c86, A89, c90, rfl, hC⟩ hE
         refine ⟨.of hC.agr, ?_⟩
         have hs := hC.sub
         replace hS := hS.called (X := []) hC
         replace g0_4 := g0_4.mono hs
         replace g0_5 := g0_5.mono hs
         replace g0_6 := g0_6.mono hs
         replace g1_6 := g1_6.mono hs
         refine pk2 7 3 ?_ ?_
         ·
          refine pk1 7 hE (.al (t := 26) hS [.int .i64 0, .int .i64 0, .int .i64 0, .int .i64 0, .slice none 0 0, .slice none 0 0, .slice none 0 0]) ?_
          rintro _ u94 a ⟨b93, rfl, hb93, hS, hg⟩ hE
          refine ⟨.of hg, ?_⟩
          replace hS := hS.front 3 rfl
          replace hS := hS.front 3 rfl
          replace hS := hS.front 3 rfl
          replace hS := hS.front 6 rfl
          replace hS := hS.front 6 rfl
          replace hS := hS.front 6 rfl
          replace hS := hS.front 6 rfl
          exact hJ _ _ ⟨_, b93, A81, c82, A85, c86, A89, c90, F80, hE, .of, hS, g1_6, g0_4, g0_5, g0_6⟩
         ·
          replace hS := hS.front 1 rfl
          obtain ⟨F97, hs, g98, hS⟩ := hS.give
          replace g0_4 := g0_4.mono hs
          replace g0_5 := g0_5.mono hs
          replace g0_6 := g0_6.mono hs
          replace g1_6 := g1_6.mono hs
          replace hS := hS.front 1 rfl
          obtain ⟨F99, hs, g100, hS⟩ := hS.give
          replace g0_4 := g0_4.mono hs
          replace g0_5 := g0_5.mono hs
          replace g0_6 := g0_6.mono hs
          replace g98 := g98.mono hs
          replace g1_6 := g1_6.mono hs
          refine pk1 3 hE (.cl en78 (maps_turned.calls k23 t77 x1_ _ _ _ _ _ _ _ _ _ _ _ (Own.left (X := [row T_api_Node.k 104 (.slice A81 t77.f4.length c82) t77.f4]) hS.own) g98 g100 g1_6 h96)) ?_
          rintro _ u101 a ⟨F102, A103, c104, A107, c108, A110, c111, rfl, hC, g109, g112⟩ hE
          refine ⟨.d, ?_⟩
          have hs := hC.sub
          replace hS := hS.called (X := [row T_api_Node.k 104 (.slice A81 t77.f4.length c82) t77.f4]) hC
          replace g0_4 := g0_4.mono hs
          replace g0_5 := g0_5.mono hs
          replace g0_6 := g0_6.mono hs
          replace g98 := g98.mono hs
          replace g100 := g100.mono hs
          replace g1_6 := g1_6.mono hs
          refine mny 3 hst hE (.r 4 3 .nil) (fun a hE => ?_)
          refine on1 7 hE (.al (t := 26) hS [.int .i64 0, .int .i64 0, .int .i64 0, .int .i64 0, .slice none 0 0, .slice none 0 0, .slice none 0 0]) ?_
          rintro _ u94 a ⟨b93, rfl, hb93, hS, hg⟩ hE
          refine ⟨.of hg, ?_⟩
          replace hS := hS.front 1 rfl
          replace hS := hS.front 4 rfl
          replace hS := hS.front 4 rfl
          replace hS := hS.front 4 rfl
          replace hS := hS.front 4 rfl
          exact hJb _ _ ⟨_, b93, A103, c104, A107, c108, A110, c111, F102, hE, .of, hS, g109, g112, g1_6, g0_4, g0_5, g0_6⟩
        ·
         refine pk1 7 hE (.al (t := 26) hS [.int .i64 0, .int .i64 0, .int .i64 0, .int .i64 0, .slice none 0 0, .slice none 0 0, .slice none 0 0]) ?_
         rintro _ u94 a ⟨b93, rfl, hb93, hS, hg⟩ hE
         refine ⟨.of hg, ?_⟩
         refine on1 1 hE (.cl en77 (maps_own.calls k23 x0_ _ _ _ _ _ _ _ _ _ hS.own.sub g0_4 g0_5 g0_6 h78)) ?_
         rintro _ u79 a ⟨F80, A81, c82, A85, c86, A89, c90, rfl, hC⟩ hE
         refine ⟨.of hC.agr, ?_⟩
         have hs := hC.sub
         replace hS := hS.called (X := []) hC
         replace g0_4 := g0_4.mono hs
         replace g0_5 := g0_5.mono hs
         replace g0_6 := g0_6.mono hs
         replace g1_6 := g1_6.mono hs
         replace hS := hS.front 2 rfl
         replace hS := hS.front 2 rfl
         replace hS := hS.front 2 rfl
         replace hS := hS.front 6 rfl
         replace hS := hS.front 6 rfl
         replace hS := hS.front 6 rfl
         replace hS := hS.front 6 rfl
         exact hJ _ _ ⟨_, b93, A81, c82, A85, c86, A89, c90, F80, hE, .of, hS, g1_6, g0_4, g0_5, g0_6⟩
  refine pl0 ?_
  have hb4 := hS.blk_at (i := 1) rfl
  refine plc hE (.r 0 1 <| .b 1 0 hb4 <| .r 2 2 <| .nil) (fun a hE => ?_)
  rcases sp H with ⟨c15, H⟩ | ⟨c15, H⟩
  ·
   replace hE := hE.kt 17 c15
   refine plc hE (.r 4 10 .nil) (fun a hE => pld ?_)
   exact J24 _ (by omega) _ true _ _ hE .of hS H
  ·
   replace hE := hE.kf 17 c15
   refine plc hE (.r 4 1 <| .b 5 0 hb4 <| .r 6 3 <| .nil) (fun a hE => ?_)
   rcases sp H with ⟨c16, H⟩ | ⟨c16, H⟩
   ·
    replace hE := hE.kt 22 c16
    refine plc hE (.r 9 5 .nil) (fun a hE => pld ?_)
    exact J24 _ (by omega) _ true _ _ hE .of hS H
   ·
    replace hE := hE.kf 22 c16
    refine plc hE (.bn 9 0 7 hb4 .nil) (fun a hE => ?_)
    obtain ⟨t18, h19, H⟩ := bd H
    refine ple hE (.cl en76 (maps_bare.calls x1_ _ _ _ _ _ hS.own.sub g1_6 h19)) ?_
    rintro _ u17 a ⟨_, rfl, hC⟩ hE
    replace hS := hS.lent hC
    refine plc hE (.r 11 3 .nil) (fun a hE => pld ?_)
    exact J24 _ (by omega) _ (!t18) _ _ hE .of hS H
 ·
  replace hE := hE.kfn 8 c13
  refine ct hE (wp_seq_k fun K73 hK73 => pl0 (plc hE (.r 0 1 .nil) (fun a hE => ple hE (.sto hS [.int .i64 0, .int .i64 0, .int .i64 0, .int .i64 0, .slice none 0 0, .slice none 0 0, .slice none 0 0]) ?_)))
  rintro _ u74 a ⟨rfl, hb6, hS, hz⟩ hE
  refine plc hE (.r 2 1 .nil) (fun a hE => pld (hK73 _ _ (wp_ret (block_ret (then_ret ?_)))))
  replace hS := hS.nilrow T_api_Trail.k 49
  replace hS := hS.front 1 rfl
  replace hS := hS.tail
  replace hS := hS.front 1 rfl
  replace hS := hS.tail
  replace hS := hS.front 1 rfl
  replace hS := hS.tail
  obtain rfl := si H
  exact retN hE rfl (of_decide_eq_true rfl) (.cell (by kernel_rfl) (res_blk [.int .i64 0, .int .i64 0, .int .i64 0, .int .i64 0, .slice none 0 0, .slice none 0 0, .slice none 0 0] ag26 sz26 hb6 rfl) (.tmp (by kernel_rfl) .nil)) ⟨_, rfl, _, _, _, _, _, _, _, rfl, hS, (Rd.nil _ _), (Rd.nil _ _)⟩

/-! ### windrose/quorum.in: function 116 -/
def quorum_in.f (x0_ : Int) (x1_ : Int) (x2_ : Int) : Option Bool := if x0_ ≥ x1_ then (some (decide (x0_ ≤ x2_))) else (some false)
def quorum_in.Post (W F : World) (r : Bool) (v : Value) (w' : World) : Prop := ∃ (F' : World), v = .bool r ∧ St W (mine W []) F w' F' []
theorem quorum_in.calls (x0_ : Int) (x1_ : Int) (x2_ : Int) (r : Bool) (W F : World) (hown : Sub F W) (H : quorum_in.f x0_ x1_ x2_ = some r) :
    Calls Tryz.prog 116 #[.int .i64 x0_, .int .i64 x1_, .int .i64 x2_] W fun e w' => ∃ v, e = .returned v ∧ quorum_in.Post W F r v w' := by
 have hS := St.start (Own.nil hown)
 unfold quorum_in.f at H
 refine enter (n := 15) rfl rfl rfl (Nat.le_of_ble_eq_true rfl) (fun a hE => ?_)
 refine wp_seq_k fun K1 hK1 => pl0 (plc hE (.r 0 1 .nil) (fun a hE => pld (hK1 _ _ (wp_seq_k fun K2 hK2 => pl0 (plc hE (.r 0 4 .nil) (fun a hE => ?_))))))
 rcases sp H with ⟨c3, H⟩ | ⟨c3, H⟩
 ·
  replace hE := hE.kt 10 c3
  refine plc hE (.r 4 5 .nil) (fun a hE => pld (hK2 _ _ (wp_ret ?_)))
  obtain rfl := si H
  exact rt1 hE ⟨_, rfl, _, rfl, hS⟩
 ·
  replace hE := hE.kf 10 c3
  refine plc hE (.r 4 5 .nil) (fun a hE => pld (hK2 _ _ (wp_ret ?_)))
  obtain rfl := si H
  exact rt1 hE ⟨_, rfl, _, rfl, hS⟩

/-! ### windrose/quorum.has$1: function 156 -/
def quorum_has_1.f (x0_ : T_api_Info) (xf0_ : Int) : Option Bool := some (x0_.f0 == xf0_)
def quorum_has_1.Post (W F : World) (r : Bool) (v : Value) (w' : World) : Prop := ∃ (F' : World), v = .bool r ∧ St W (mine W []) F w' F' []
theorem quorum_has_1.calls (x0_ : T_api_Info) (xf0_ : Int) (pf0_ : Nat) (r : Bool) (W F : World) (hown : Sub F W) (hpf0_ : F.heap[pf0_]? = some (.cells #[.int .i64 xf0_] 3 (0, 0))) (H : quorum_has_1.f x0_ xf0_ = some r) :
    Calls Tryz.prog 156 #[.agg #[.int .i64 x0_.f0, .int .i64 x0_.f1, .int .i64 x0_.f2, .int .i64 x0_.f3, .int .i64 x0_.f4], .pointer (some ⟨pf0_, 0, none⟩)] W fun e w' => ∃ v, e = .returned v ∧ quorum_has_1.Post W F r v w' := by
 have hS := St.start (Own.nil hown)
 unfold quorum_has_1.f at H
 refine enter (n := 8) rfl rfl rfl (Nat.le_of_ble_eq_true rfl) (fun a hE => ?_)
 refine wp_seq_k fun K1 hK1 => pl0 (ple hE (.bx (t := 86) hS [.int .i64 x0_.f0, .int .i64 x0_.f1, .int .i64 x0_.f2, .int .i64 x0_.f3, .int .i64 x0_.f4]) ?_)
 rintro _ u3 a ⟨b2, rfl, hb2, hS, hg⟩ hE
 refine plc hE (.r 1 1 .nil) (fun a hE => pld (hK1 _ _ (wp_seq_k fun K4 hK4 => pl0 (plc hE (.r 0 1 <| .b 1 0 hb2 <| .b 2 0 (hS.own.sub _ _ _ _ hpf0_) <| .r 3 2 <| .nil) (fun a hE => pld (hK4 _ _ (wp_ret ?_)))))))
 replace hS := hS.tail
 obtain rfl := si H
 exact rt1 hE ⟨_, rfl, _, rfl, hS⟩

/-! ### slices.IndexFunc[[]windrose/api.Info,windrose/api.Info]: function 190 -/
def slices_IndexFunc__api_Info_api_Info_of_quorum_has_1.l5 : Nat → List T_api_Info → Int → Int → Option Int
  | 0, _, _, _ => none
  | k + 1, x0_, x1c0_, x4 => if x4 < (x0_.length : Int) then (if 0 ≤ x4 ∧ x4 < (x0_.length : Int) then ((quorum_has_1.f (⟨(nth T_api_Info.z x0_ x4).f0, (nth T_api_Info.z x0_ x4).f1, (nth T_api_Info.z x0_ x4).f2, (nth T_api_Info.z x0_ x4).f3, (nth T_api_Info.z x0_ x4).f4⟩ : T_api_Info) x1c0_).bind fun t21 => (if t21 = true then (some x4) else (slices_IndexFunc__api_Info_api_Info_of_quorum_has_1.l5 k x0_ x1c0_ (w64 (x4 + 1))))) else (none)) else (some (-1))
theorem slices_IndexFunc__api_Info_api_Info_of_quorum_has_1.l5_s (k : Nat) (x0_ : List T_api_Info) (x1c0_ : Int) (x4 : Int) : slices_IndexFunc__api_Info_api_Info_of_quorum_has_1.l5 (k + 1) x0_ x1c0_ x4 = (if x4 < (x0_.length : Int) then (if 0 ≤ x4 ∧ x4 < (x0_.length : Int) then ((quorum_has_1.f (⟨(nth T_api_Info.z x0_ x4).f0, (nth T_api_Info.z x0_ x4).f1, (nth T_api_Info.z x0_ x4).f2, (nth T_api_Info.z x0_ x4).f3, (nth T_api_Info.z x0_ x4).f4⟩ : T_api_Info) x1c0_).bind fun t21 => (if t21 = true then (some x4) else (slices_IndexFunc__api_Info_api_Info_of_quorum_has_1.l5 k x0_ x1c0_ (w64 (x4 + 1))))) else (none)) else (some (-1))) := by kernel_rfl
def slices_IndexFunc__api_Info_api_Info_of_quorum_has_1.f (k : Nat) (x0_ : List T_api_Info) (x1c0_ : Int) : Option Int := slices_IndexFunc__api_Info_api_Info_of_quorum_has_1.l5 k x0_ x1c0_ 0
def slices_IndexFunc__api_Info_api_Info_of_quorum_has_1.Post (W F : World) (r : Int) (v : Value) (w' : World) : Prop := ∃ (F' : World), v = .int .i64 r ∧ St W (mine W []) F w' F' []
theorem slices_IndexFunc__api_Info_api_Info_of_quorum_has_1.calls (k : Nat) (x0_ : List T_api_Info) (x1c0_ : Int) (A0_0 : Option Addr) (c0_0 : Nat) (p1c0_ : Nat) (r : Int) (W F : World) (hown : Sub F W) (g0_0 : Rd T_api_Info.k F A0_0 c0_0 x0_) (hp1c0_ : F.heap[p1c0_]? = some (.cells #[.int .i64 x1c0_] 3 (0, 0))) (H : slices_IndexFunc__api_Info_api_Info_of_quorum_has_1.f k x0_ x1c0_ = some r) :
    Calls Tryz.prog 190 #[.slice A0_0 x0_.length c0_0, .func (.func 156) #[] #[.pointer (some ⟨p1c0_, 0, none⟩)]] W fun e w' => ∃ v, e = .returned v ∧ slices_IndexFunc__api_Info_api_Info_of_quorum_has_1.Post W F r v w' := by
 have hS := St.start (Own.nil hown)
 unfold slices_IndexFunc__api_Info_api_Info_of_quorum_has_1.f at H
 refine enter (n := 19) rfl rfl rfl (Nat.le_of_ble_eq_true rfl) (fun a hE => ?_)
 refine wp_seq_k fun K1 hK1 => pl0 (plc hE (.r 0 1 .nil) (fun a hE => pld (hK1 _ _ (wp_seq_k fun K2 hK2 => wp_seq_k fun K3 hK3 => pl0 (plc hE (.r 0 3 .nil) (fun a hE => pld (hK3 _ _ (wp_block ?_))))))))
 refine wp_loop_ghost (fun kq6 a w' => ∃ (G : Nat → Value) (x4 : Int), kq6 ≤ k ∧ Env 19 G a ∧ At G [(0, .slice A0_0 x0_.length c0_0), (1, .func (.func 156) #[] #[.pointer (some ⟨p1c0_, 0, none⟩)]), (7, .int .i64 (x0_.length : Int)), (8, .int .i64 x4)] ∧ St W (mine W []) F w' F [] ∧  slices_IndexFunc__api_Info_api_Info_of_quorum_has_1.l5 kq6 x0_ x1c0_ x4 = some r) k ⟨_, 0, Nat.le_refl _, hE, .of, hS, H⟩ ?_
 rintro kq6 a u8 ⟨G, x4, hkq, hE, hA, hS, H⟩
 cases kq6 with
 | zero => cases (show none = some r from H)
 | succ k7 =>
  rw [slices_IndexFunc__api_Info_api_Info_of_quorum_has_1.l5_s] at H
  obtain ⟨J, hE⟩ := hE.at hA
  refine wp_seq_k fun K9 hK9 => pl0 (plc hE (.r 0 1 .nil) (fun a hE => pld (hK9 _ _ (wp_seq_k fun K10 hK10 => ?_))))
  rcases sp H with ⟨c11, H⟩ | ⟨c11, H⟩
  ·
   replace hE := hE.kt 9 c11
   refine ct hE (wp_skip (hK10 _ _ (wp_seq_k fun K12 hK12 => wp_block (wp_seq_k fun K13 hK13 => pl0 (plc hE (.r 0 2 .nil) (fun a hE => pld (hK13 _ _ (wp_seq_k fun K14 hK14 => pl0 ?_))))))))
   obtain ⟨c15, H⟩ := gd H
   have hE_ := hE
   obtain ⟨ad16, rfl⟩ := g0_0.addr c15.1 c15.2
   replace hE := hE_
   obtain ⟨cs18, rfl, hc19⟩ := g0_0.el T_api_Info.z x4 c15.1 c15.2
   refine plc hE (.r 0 3 <| .x 3 c15 <| .cs 4 (hS.fcs hc19) <| .nil) (fun a hE => ?_)
   obtain ⟨t21, h22, H⟩ := bd H
   refine ple hE (.cl en156 (quorum_has_1.calls (⟨(nth T_api_Info.z x0_ x4).f0, (nth T_api_Info.z x0_ x4).f1, (nth T_api_Info.z x0_ x4).f2, (nth T_api_Info.z x0_ x4).f3, (nth T_api_Info.z x0_ x4).f4⟩ : T_api_Info) x1c0_ _ _ _ _ hS.own.sub hp1c0_ h22)) ?_
   rintro _ u20 a ⟨_, rfl, hC⟩ hE
   replace hS := hS.lent hC
   refine pld (hK14 _ _ ?_)
   rcases sp H with ⟨c23, H⟩ | ⟨c23, H⟩
   ·
    replace hE := hE.bt 16 c23
    refine ct hE (wp_seq_k fun K24 hK24 => pl0 (plc hE (.r 0 2 .nil) (fun a hE => pld (hK24 _ _ (wp_ret (block_ret (then_ret (then_ret (block_ret (then_ret ?_))))))))))
    obtain rfl := si H
    exact rt1 hE ⟨_, rfl, _, rfl, hS⟩
   ·
    replace hE := hE.bf 16 c23
    refine cf hE (wp_skip ?_)
    refine block_n ?_
    refine hK12 _ _ (pl0 (plc hE (.r 0 2 .nil) (fun a hE => pld ?_)))
    exact then_n ⟨k7, by omega, _, (w64 (x4 + 1)), by omega, hE, .of, hS, H⟩
  ·
   replace hE := hE.kf 9 c11
   refine cf hE ?_
   refine wp_exit ?_
   refine hK2 _ _ (wp_seq_k fun K25 hK25 => pl0 (plc hE (.r 0 1 .nil) (fun a hE => pld (hK25 _ _ (wp_ret ?_)))))
   obtain rfl := si H
   exact rt1 hE ⟨_, rfl, _, rfl, hS⟩

end Go.Proofs.YtpohepinmjmbkaaGreat.QB
