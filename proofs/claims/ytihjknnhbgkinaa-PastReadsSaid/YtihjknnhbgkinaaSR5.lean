/- Functions of the program, what each computes (written by wip/s/sl.py). -/
import Derived.Test.YtihjknnhbgkinaaSR4
namespace Go.Proofs.Ytihjknnhbgkinaa.SR
open Go Go.RowKit Go.Proofs.Ytihjknnhbgkinaa.Sl
set_option linter.unusedVariables false
set_option linter.unusedSimpArgs false
/-! ### windrose/windroseref27.ReadMap: function 29 -/
mutual
def windroseref27_ReadMap.l32 : Nat → T_api_Data → Int → Int → Int → Int → Int → Int → List T_api_Node → Option (T_api_Map × Bool)
  | 0, _, _, _, _, _, _, _, _ => none
  | k + 1, x0_, t9, t12, t15, t18, x27, x28, l31 => (windroseref27_take.f x0_.f0 4).bind fun t39 => (if x28 < t39 then (windroseref27_ReadMap.j43 k x0_ t9 t12 t15 t18 x27 x28 l31 (decide (x28 < 20))) else (windroseref27_ReadMap.j43 k x0_ t9 t12 t15 t18 x27 x28 l31 false))
def windroseref27_ReadMap.j43 : Nat → T_api_Data → Int → Int → Int → Int → Int → Int → List T_api_Node → Bool → Option (T_api_Map × Bool)
  | 0, _, _, _, _, _, _, _, _, _ => none
  | k + 1, x0_, t9, t12, t15, t18, x27, x28, l31, y42 => if y42 = true then ((windroseref27_take.f x0_.f0 x27).bind fun t52 => ((windroseref27_take.f x0_.f0 (w64 (x27 + 1))).bind fun t55 => ((windroseref27_take.f x0_.f0 (w64 (x27 + 2))).bind fun t58 => ((windroseref27_take.f x0_.f0 (w64 (x27 + 3))).bind fun t61 => ((windroseref27_take.f x0_.f0 (w64 (x27 + 4))).bind fun t64 => ((windroseref27_take.f x0_.f0 (w64 (x27 + 5))).bind fun t67 => (if ((l31.length : Int) + ((1 : Nat) : Int)) * 40 ≤ 140737488355328 then (windroseref27_ReadMap.l32 k x0_ t9 t12 t15 t18 (w64 (x27 + 6)) (w64 (x28 + 1)) (l31 ++ [(⟨t52, t55, t58, t61, (t64 == 1), (t67 == 1)⟩ : T_api_Node)])) else (none)))))))) else ((windroseref27_take.f x0_.f0 x27).bind fun t81 => (windroseref27_ReadMap.l93 k x0_ t9 t12 t15 t18 l31 t81 (w64 (x27 + 1)) 0 []))
def windroseref27_ReadMap.l93 : Nat → T_api_Data → Int → Int → Int → Int → List T_api_Node → Int → Int → Int → List T_api_Temp → Option (T_api_Map × Bool)
  | 0, _, _, _, _, _, _, _, _, _, _ => none
  | k + 1, x0_, t9, t12, t15, t18, l31, t81, x87, x88, l91 => if x88 < t81 then (windroseref27_ReadMap.j101 k x0_ t9 t12 t15 t18 l31 t81 x87 x88 l91 (decide (x88 < 20))) else (windroseref27_ReadMap.j101 k x0_ t9 t12 t15 t18 l31 t81 x87 x88 l91 false)
def windroseref27_ReadMap.j101 : Nat → T_api_Data → Int → Int → Int → Int → List T_api_Node → Int → Int → Int → List T_api_Temp → Bool → Option (T_api_Map × Bool)
  | 0, _, _, _, _, _, _, _, _, _, _, _ => none
  | k + 1, x0_, t9, t12, t15, t18, l31, t81, x87, x88, l91, y100 => if y100 = true then ((windroseref27_take.f x0_.f0 x87).bind fun t110 => ((windroseref27_nodes.f k x0_.f0 (w64 (x87 + 1))).bind fun t117 => (if ((l91.length : Int) + ((1 : Nat) : Int)) * 32 ≤ 140737488355328 then (windroseref27_ReadMap.l93 k x0_ t9 t12 t15 t18 l31 t81 t117.2 (w64 (x88 + 1)) (l91 ++ [(⟨t110, t117.1⟩ : T_api_Temp)])) else (none)))) else (windroseref27_ReadMap.l146 k x0_ t9 t12 t15 t18 l31 l91 x87 0 [])
def windroseref27_ReadMap.l146 : Nat → T_api_Data → Int → Int → Int → Int → List T_api_Node → List T_api_Temp → Int → Int → List T_api_Trail → Option (T_api_Map × Bool)
  | 0, _, _, _, _, _, _, _, _, _, _ => none
  | k + 1, x0_, t9, t12, t15, t18, l31, l91, x140, x141, l144 => if x141 < t18 then (windroseref27_ReadMap.j154 k x0_ t9 t12 t15 t18 l31 l91 x140 x141 l144 (decide (x141 < 8))) else (windroseref27_ReadMap.j154 k x0_ t9 t12 t15 t18 l31 l91 x140 x141 l144 false)
def windroseref27_ReadMap.j154 : Nat → T_api_Data → Int → Int → Int → Int → List T_api_Node → List T_api_Temp → Int → Int → List T_api_Trail → Bool → Option (T_api_Map × Bool)
  | 0, _, _, _, _, _, _, _, _, _, _, _ => none
  | k + 1, x0_, t9, t12, t15, t18, l31, l91, x140, x141, l144, y153 => if y153 = true then ((windroseref27_take.f x0_.f0 x140).bind fun t163 => ((windroseref27_take.f x0_.f0 (w64 (x140 + 1))).bind fun t170 => (windroseref27_ReadMap.l182 k x0_ t9 t12 t15 t18 l31 l91 x141 l144 t163 t170 (w64 (x140 + 2)) 0 []))) else ((windroseref08_May.f k (⟨t9, t12, t15, t18, l31, l91, l144⟩ : T_api_Map)).bind fun t241 => (if t241 = true then ((windroseref27_Map.f k (⟨t9, t12, t15, t18, l31, l91, l144⟩ : T_api_Map)).bind fun t251 => ((windroseref02_Same.f k t251 x0_).bind fun t262 => (windroseref27_ReadMap.j278 k t9 t12 t15 t18 (!t262) l31 l91 l144))) else (windroseref27_ReadMap.j278 k t9 t12 t15 t18 true l31 l91 l144)))
def windroseref27_ReadMap.l182 : Nat → T_api_Data → Int → Int → Int → Int → List T_api_Node → List T_api_Temp → Int → List T_api_Trail → Int → Int → Int → Int → List T_api_Span → Option (T_api_Map × Bool)
  | 0, _, _, _, _, _, _, _, _, _, _, _, _, _, _ => none
  | k + 1, x0_, t9, t12, t15, t18, l31, l91, x141, l144, t163, t170, x176, x177, l180 => if x177 < t170 then (windroseref27_ReadMap.j190 k x0_ t9 t12 t15 t18 l31 l91 x141 l144 t163 t170 x176 x177 l180 (decide (x176 < (x0_.f0.length : Int)))) else (windroseref27_ReadMap.j190 k x0_ t9 t12 t15 t18 l31 l91 x141 l144 t163 t170 x176 x177 l180 false)
def windroseref27_ReadMap.j190 : Nat → T_api_Data → Int → Int → Int → Int → List T_api_Node → List T_api_Temp → Int → List T_api_Trail → Int → Int → Int → Int → List T_api_Span → Bool → Option (T_api_Map × Bool)
  | 0, _, _, _, _, _, _, _, _, _, _, _, _, _, _, _ => none
  | k + 1, x0_, t9, t12, t15, t18, l31, l91, x141, l144, t163, t170, x176, x177, l180, y189 => if y189 = true then ((windroseref27_take.f x0_.f0 x176).bind fun t199 => ((windroseref27_nodes.f k x0_.f0 (w64 (x176 + 1))).bind fun t206 => (if ((l180.length : Int) + ((1 : Nat) : Int)) * 32 ≤ 140737488355328 then (windroseref27_ReadMap.l182 k x0_ t9 t12 t15 t18 l31 l91 x141 l144 t163 t170 t206.2 (w64 (x177 + 1)) (l180 ++ [(⟨t199, t206.1⟩ : T_api_Span)])) else (none)))) else (if ((l144.length : Int) + ((1 : Nat) : Int)) * 32 ≤ 140737488355328 then (windroseref27_ReadMap.l146 k x0_ t9 t12 t15 t18 l31 l91 x176 (w64 (x141 + 1)) (l144 ++ [(⟨t163, l180⟩ : T_api_Trail)])) else (none))
def windroseref27_ReadMap.j278 : Nat → Int → Int → Int → Int → Bool → List T_api_Node → List T_api_Temp → List T_api_Trail → Option (T_api_Map × Bool)
  | 0, _, _, _, _, _, _, _, _ => none
  | k + 1, t9, t12, t15, t18, y264, l267, l271, l275 => if y264 = true then (some ((⟨0, 0, 0, 0, [], [], []⟩ : T_api_Map), false)) else (some ((⟨t9, t12, t15, t18, l267, l271, l275⟩ : T_api_Map), true))
end
theorem windroseref27_ReadMap.l32_s (k : Nat) (x0_ : T_api_Data) (t9 : Int) (t12 : Int) (t15 : Int) (t18 : Int) (x27 : Int) (x28 : Int) (l31 : List T_api_Node) : windroseref27_ReadMap.l32 (k + 1) x0_ t9 t12 t15 t18 x27 x28 l31 = ((windroseref27_take.f x0_.f0 4).bind fun t39 => (if x28 < t39 then (windroseref27_ReadMap.j43 k x0_ t9 t12 t15 t18 x27 x28 l31 (decide (x28 < 20))) else (windroseref27_ReadMap.j43 k x0_ t9 t12 t15 t18 x27 x28 l31 false))) := by kernel_rfl
theorem windroseref27_ReadMap.j43_s (k : Nat) (x0_ : T_api_Data) (t9 : Int) (t12 : Int) (t15 : Int) (t18 : Int) (x27 : Int) (x28 : Int) (l31 : List T_api_Node) (y42 : Bool) : windroseref27_ReadMap.j43 (k + 1) x0_ t9 t12 t15 t18 x27 x28 l31 y42 = (if y42 = true then ((windroseref27_take.f x0_.f0 x27).bind fun t52 => ((windroseref27_take.f x0_.f0 (w64 (x27 + 1))).bind fun t55 => ((windroseref27_take.f x0_.f0 (w64 (x27 + 2))).bind fun t58 => ((windroseref27_take.f x0_.f0 (w64 (x27 + 3))).bind fun t61 => ((windroseref27_take.f x0_.f0 (w64 (x27 + 4))).bind fun t64 => ((windroseref27_take.f x0_.f0 (w64 (x27 + 5))).bind fun t67 => (if ((l31.length : Int) + ((1 : Nat) : Int)) * 40 ≤ 140737488355328 then (windroseref27_ReadMap.l32 k x0_ t9 t12 t15 t18 (w64 (x27 + 6)) (w64 (x28 + 1)) (l31 ++ [(⟨t52, t55, t58, t61, (t64 == 1), (t67 == 1)⟩ : T_api_Node)])) else (none)))))))) else ((windroseref27_take.f x0_.f0 x27).bind fun t81 => (windroseref27_ReadMap.l93 k x0_ t9 t12 t15 t18 l31 t81 (w64 (x27 + 1)) 0 []))) := by kernel_rfl
theorem windroseref27_ReadMap.l93_s (k : Nat) (x0_ : T_api_Data) (t9 : Int) (t12 : Int) (t15 : Int) (t18 : Int) (l31 : List T_api_Node) (t81 : Int) (x87 : Int) (x88 : Int) (l91 : List T_api_Temp) : windroseref27_ReadMap.l93 (k + 1) x0_ t9 t12 t15 t18 l31 t81 x87 x88 l91 = (if x88 < t81 then (windroseref27_ReadMap.j101 k x0_ t9 t12 t15 t18 l31 t81 x87 x88 l91 (decide (x88 < 20))) else (windroseref27_ReadMap.j101 k x0_ t9 t12 t15 t18 l31 t81 x87 x88 l91 false)) := by kernel_rfl
theorem windroseref27_ReadMap.j101_s (k : Nat) (x0_ : T_api_Data) (t9 : Int) (t12 : Int) (t15 : Int) (t18 : Int) (l31 : List T_api_Node) (t81 : Int) (x87 : Int) (x88 : Int) (l91 : List T_api_Temp) (y100 : Bool) : windroseref27_ReadMap.j101 (k + 1) x0_ t9 t12 t15 t18 l31 t81 x87 x88 l91 y100 = (if y100 = true then ((windroseref27_take.f x0_.f0 x87).bind fun t110 => ((windroseref27_nodes.f k x0_.f0 (w64 (x87 + 1))).bind fun t117 => (if ((l91.length : Int) + ((1 : Nat) : Int)) * 32 ≤ 140737488355328 then (windroseref27_ReadMap.l93 k x0_ t9 t12 t15 t18 l31 t81 t117.2 (w64 (x88 + 1)) (l91 ++ [(⟨t110, t117.1⟩ : T_api_Temp)])) else (none)))) else (windroseref27_ReadMap.l146 k x0_ t9 t12 t15 t18 l31 l91 x87 0 [])) := by kernel_rfl
theorem windroseref27_ReadMap.l146_s (k : Nat) (x0_ : T_api_Data) (t9 : Int) (t12 : Int) (t15 : Int) (t18 : Int) (l31 : List T_api_Node) (l91 : List T_api_Temp) (x140 : Int) (x141 : Int) (l144 : List T_api_Trail) : windroseref27_ReadMap.l146 (k + 1) x0_ t9 t12 t15 t18 l31 l91 x140 x141 l144 = (if x141 < t18 then (windroseref27_ReadMap.j154 k x0_ t9 t12 t15 t18 l31 l91 x140 x141 l144 (decide (x141 < 8))) else (windroseref27_ReadMap.j154 k x0_ t9 t12 t15 t18 l31 l91 x140 x141 l144 false)) := by kernel_rfl
theorem windroseref27_ReadMap.j154_s (k : Nat) (x0_ : T_api_Data) (t9 : Int) (t12 : Int) (t15 : Int) (t18 : Int) (l31 : List T_api_Node) (l91 : List T_api_Temp) (x140 : Int) (x141 : Int) (l144 : List T_api_Trail) (y153 : Bool) : windroseref27_ReadMap.j154 (k + 1) x0_ t9 t12 t15 t18 l31 l91 x140 x141 l144 y153 = (if y153 = true then ((windroseref27_take.f x0_.f0 x140).bind fun t163 => ((windroseref27_take.f x0_.f0 (w64 (x140 + 1))).bind fun t170 => (windroseref27_ReadMap.l182 k x0_ t9 t12 t15 t18 l31 l91 x141 l144 t163 t170 (w64 (x140 + 2)) 0 []))) else ((windroseref08_May.f k (⟨t9, t12, t15, t18, l31, l91, l144⟩ : T_api_Map)).bind fun t241 => (if t241 = true then ((windroseref27_Map.f k (⟨t9, t12, t15, t18, l31, l91, l144⟩ : T_api_Map)).bind fun t251 => ((windroseref02_Same.f k t251 x0_).bind fun t262 => (windroseref27_ReadMap.j278 k t9 t12 t15 t18 (!t262) l31 l91 l144))) else (windroseref27_ReadMap.j278 k t9 t12 t15 t18 true l31 l91 l144)))) := by kernel_rfl
theorem windroseref27_ReadMap.l182_s (k : Nat) (x0_ : T_api_Data) (t9 : Int) (t12 : Int) (t15 : Int) (t18 : Int) (l31 : List T_api_Node) (l91 : List T_api_Temp) (x141 : Int) (l144 : List T_api_Trail) (t163 : Int) (t170 : Int) (x176 : Int) (x177 : Int) (l180 : List T_api_Span) : windroseref27_ReadMap.l182 (k + 1) x0_ t9 t12 t15 t18 l31 l91 x141 l144 t163 t170 x176 x177 l180 = (if x177 < t170 then (windroseref27_ReadMap.j190 k x0_ t9 t12 t15 t18 l31 l91 x141 l144 t163 t170 x176 x177 l180 (decide (x176 < (x0_.f0.length : Int)))) else (windroseref27_ReadMap.j190 k x0_ t9 t12 t15 t18 l31 l91 x141 l144 t163 t170 x176 x177 l180 false)) := by kernel_rfl
theorem windroseref27_ReadMap.j190_s (k : Nat) (x0_ : T_api_Data) (t9 : Int) (t12 : Int) (t15 : Int) (t18 : Int) (l31 : List T_api_Node) (l91 : List T_api_Temp) (x141 : Int) (l144 : List T_api_Trail) (t163 : Int) (t170 : Int) (x176 : Int) (x177 : Int) (l180 : List T_api_Span) (y189 : Bool) : windroseref27_ReadMap.j190 (k + 1) x0_ t9 t12 t15 t18 l31 l91 x141 l144 t163 t170 x176 x177 l180 y189 = (if y189 = true then ((windroseref27_take.f x0_.f0 x176).bind fun t199 => ((windroseref27_nodes.f k x0_.f0 (w64 (x176 + 1))).bind fun t206 => (if ((l180.length : Int) + ((1 : Nat) : Int)) * 32 ≤ 140737488355328 then (windroseref27_ReadMap.l182 k x0_ t9 t12 t15 t18 l31 l91 x141 l144 t163 t170 t206.2 (w64 (x177 + 1)) (l180 ++ [(⟨t199, t206.1⟩ : T_api_Span)])) else (none)))) else (if ((l144.length : Int) + ((1 : Nat) : Int)) * 32 ≤ 140737488355328 then (windroseref27_ReadMap.l146 k x0_ t9 t12 t15 t18 l31 l91 x176 (w64 (x141 + 1)) (l144 ++ [(⟨t163, l180⟩ : T_api_Trail)])) else (none))) := by kernel_rfl
theorem windroseref27_ReadMap.j278_s (k : Nat) (t9 : Int) (t12 : Int) (t15 : Int) (t18 : Int) (y264 : Bool) (l267 : List T_api_Node) (l271 : List T_api_Temp) (l275 : List T_api_Trail) : windroseref27_ReadMap.j278 (k + 1) t9 t12 t15 t18 y264 l267 l271 l275 = (if y264 = true then (some ((⟨0, 0, 0, 0, [], [], []⟩ : T_api_Map), false)) else (some ((⟨t9, t12, t15, t18, l267, l271, l275⟩ : T_api_Map), true))) := by kernel_rfl
def windroseref27_ReadMap.f (k : Nat) (x0_ : T_api_Data) : Option (T_api_Map × Bool) := (windroseref27_take.f x0_.f0 0).bind fun t9 => ((windroseref27_take.f x0_.f0 1).bind fun t12 => ((windroseref27_take.f x0_.f0 2).bind fun t15 => ((windroseref27_take.f x0_.f0 3).bind fun t18 => (windroseref27_ReadMap.l32 k x0_ t9 t12 t15 t18 5 0 []))))
def windroseref27_ReadMap.Post (W F : World) (r : T_api_Map × Bool) (v : Value) (w' : World) : Prop := ∃ (F' : World) (RA0_4 : Option Addr) (rc0_4 : Nat) (RA0_5 : Option Addr) (rc0_5 : Nat) (RA0_6 : Option Addr) (rc0_6 : Nat), v = .tuple #[.agg #[.int .i64 r.1.f0, .int .i64 r.1.f1, .int .i64 r.1.f2, .int .i64 r.1.f3, .slice RA0_4 r.1.f4.length rc0_4, .slice RA0_5 r.1.f5.length rc0_5, .slice RA0_6 r.1.f6.length rc0_6], .bool r.2] ∧ St W (mine W []) F w' F' [] ∧ Rd T_api_Node.k F' RA0_4 rc0_4 r.1.f4 ∧ Rd T_api_Temp.k F' RA0_5 rc0_5 r.1.f5 ∧ Rd T_api_Trail.k F' RA0_6 rc0_6 r.1.f6
set_option maxHeartbeats 4000000 in
set_option maxRecDepth 100000 in
theorem windroseref27_ReadMap.calls (k : Nat) (x0_ : T_api_Data) (A0_0 : Option Addr) (c0_0 : Nat) (A0_1 : Option Addr) (c0_1 : Nat) (r : T_api_Map × Bool) (W F : World) (hown : Sub F W) (g0_0 : Rd (Kn.int .i64) F A0_0 c0_0 x0_.f0) (g0_1 : Rd Kn.string F A0_1 c0_1 x0_.f1) (H : windroseref27_ReadMap.f k x0_ = some r) :
    Calls Try.prog 29 #[.agg #[.slice A0_0 x0_.f0.length c0_0, .slice A0_1 x0_.f1.length c0_1]] W fun e w' => ∃ v, e = .returned v ∧ windroseref27_ReadMap.Post W F r v w' := by
  have hS := St.start (Own.nil hown)
  unfold windroseref27_ReadMap.f at H
  refine enter (n := 168) rfl rfl rfl (Nat.le_of_ble_eq_true rfl) (fun a hE => ?_)
  refine wp_seq_k fun K1 hK1 => ?_
  refine pl0 ?_
  refine ple hE (.bx (t := 36) hS [.slice A0_0 x0_.f0.length c0_0, .slice A0_1 x0_.f1.length c0_1]) ?_
  rintro _ u3 a ⟨b2, rfl, hb2, hS, hg⟩ hE
  refine ple hE (.al (t := 78) hS [.int .i64 0, .int .i64 0, .int .i64 0, .int .i64 0, .slice none 0 0, .slice none 0 0, .slice none 0 0]) ?_
  rintro _ u5 a ⟨b4, rfl, hb4, hS, hg⟩ hE
  refine plc hE (.r 2 1 .nil) (fun a hE => ?_)
  refine pld ?_
  refine hK1 _ _ ?_
  refine wp_seq_k fun K6 hK6 => ?_
  refine pl0 ?_
  have hb2 := hS.blk_at (i := 1) rfl
  refine plc hE (.r 0 1 <| .b 1 0 hb2 <| .r 2 1 <| .nil) (fun a hE => ?_)
  refine pld ?_
  refine hK6 _ _ ?_
  refine wp_seq_k fun K7 hK7 => ?_
  refine pl0 ?_
  refine plc hE (.r 0 1 .nil) (fun a hE => ?_)
  obtain ⟨t9, h10, H⟩ := Option.bind_eq_some_iff.mp H
  refine ple hE (.cl en69 (windroseref27_take.calls x0_.f0 0 _ _ _ _ _ hS.own.sub g0_0 h10)) ?_
  rintro _ u8 a ⟨_, rfl, hC⟩ hE
  replace hS := hS.lent hC
  refine plc hE (.r 2 1 .nil) (fun a hE => ?_)
  obtain ⟨t12, h13, H⟩ := Option.bind_eq_some_iff.mp H
  refine ple hE (.cl en69 (windroseref27_take.calls x0_.f0 1 _ _ _ _ _ hS.own.sub g0_0 h13)) ?_
  rintro _ u11 a ⟨_, rfl, hC⟩ hE
  replace hS := hS.lent hC
  refine plc hE (.r 4 1 .nil) (fun a hE => ?_)
  obtain ⟨t15, h16, H⟩ := Option.bind_eq_some_iff.mp H
  refine ple hE (.cl en69 (windroseref27_take.calls x0_.f0 2 _ _ _ _ _ hS.own.sub g0_0 h16)) ?_
  rintro _ u14 a ⟨_, rfl, hC⟩ hE
  replace hS := hS.lent hC
  refine plc hE (.r 6 1 .nil) (fun a hE => ?_)
  obtain ⟨t18, h19, H⟩ := Option.bind_eq_some_iff.mp H
  refine ple hE (.cl en69 (windroseref27_take.calls x0_.f0 3 _ _ _ _ _ hS.own.sub g0_0 h19)) ?_
  rintro _ u17 a ⟨_, rfl, hC⟩ hE
  replace hS := hS.lent hC
  refine plc hE (.r 8 1 .nil) (fun a hE => ?_)
  refine ple hE (.al (t := 78) hS [.int .i64 0, .int .i64 0, .int .i64 0, .int .i64 0, .slice none 0 0, .slice none 0 0, .slice none 0 0]) ?_
  rintro _ u21 a ⟨b20, rfl, hb20, hS, hg⟩ hE
  refine ple hE (.sto hS [.int .i64 t9, .int .i64 t12, .int .i64 t15, .int .i64 t18, .slice none 0 0, .slice none 0 0, .slice none 0 0]) ?_
  rintro _ u22 a ⟨rfl, hb20, hS, hz⟩ hE
  refine pld ?_
  refine hK7 _ _ ?_
  refine wp_seq_k fun K23 hK23 => ?_
  refine pl0 ?_
  refine plc hE (.r 0 1 .nil) (fun a hE => ?_)
  refine pld ?_
  refine hK23 _ _ ?_
  refine wp_seq_k fun K24 hK24 => ?_
  refine wp_seq_k fun K25 hK25 => ?_
  refine pl0 ?_
  refine plc hE (.r 0 1 .nil) (fun a hE => ?_)
  refine pld ?_
  refine hK25 _ _ ?_
  refine wp_block ?_
  replace hS := hS.nilrow T_api_Node.k 102
  replace hS := hS.front 3 rfl
  replace hS := hS.front 3 rfl
  replace hS := hS.front 3 rfl
  refine wp_loop_ghost (fun kq33 a w' => ∃ (G : Nat → Value) (x27 : Int) (x28 : Int) (A29 : Option Addr) (c30 : Nat) (l31 : List T_api_Node), kq33 ≤ k ∧ Env 168 G a ∧ At G [(1, .pointer (some ⟨b2, 0, none⟩)), (2, .pointer (some ⟨b4, 0, none⟩)), (4, .slice A0_0 x0_.f0.length c0_0), (5, .pointer (some ⟨b20, 0, none⟩)), (6, .int .i64 x27), (7, .int .i64 x28)] ∧ St W (mine W []) F w' F [box b20 #[.int .i64 t9, .int .i64 t12, .int .i64 t15, .int .i64 t18, .slice A29 l31.length c30, .slice none 0 0, .slice none 0 0] 78, box b4 #[.int .i64 0, .int .i64 0, .int .i64 0, .int .i64 0, .slice none 0 0, .slice none 0 0, .slice none 0 0] 78, box b2 #[.slice A0_0 x0_.f0.length c0_0, .slice A0_1 x0_.f1.length c0_1] 36, row T_api_Node.k 102 (.slice A29 l31.length c30) l31] ∧  windroseref27_ReadMap.l32 kq33 x0_ t9 t12 t15 t18 x27 x28 l31 = some r) k ⟨_, 5, 0, none, 0, [], Nat.le_refl _, hE, .of, hS, H⟩ ?_
  rintro kq33 a u35 ⟨G, x27, x28, A29, c30, l31, hkq, hE, hA, hS, H⟩
  cases kq33 with
  | zero => cases (show none = some r from H)
  | succ k34 =>
    rw [windroseref27_ReadMap.l32_s] at H
    obtain ⟨J, hE⟩ := hE.at hA
    refine wp_seq_k fun K36 hK36 => ?_
    refine wp_seq_k fun K37 hK37 => ?_
    have J46 : ∀ kq44, kq44 ≤ k34 → ∀ (G : Nat → Value) (y42 : Bool) (a : Act) (w' : World), Env 168 G a → At G [(1, .pointer (some ⟨b2, 0, none⟩)), (2, .pointer (some ⟨b4, 0, none⟩)), (4, .slice A0_0 x0_.f0.length c0_0), (5, .pointer (some ⟨b20, 0, none⟩)), (6, .int .i64 x27), (7, .int .i64 x28), (33, .bool y42)] → St W (mine W []) F w' F [box b20 #[.int .i64 t9, .int .i64 t12, .int .i64 t15, .int .i64 t18, .slice A29 l31.length c30, .slice none 0 0, .slice none 0 0] 78, box b4 #[.int .i64 0, .int .i64 0, .int .i64 0, .int .i64 0, .slice none 0 0, .slice none 0 0, .slice none 0 0] 78, box b2 #[.slice A0_0 x0_.f0.length c0_0, .slice A0_1 x0_.f1.length c0_1] 36, row T_api_Node.k 102 (.slice A29 l31.length c30) l31] → windroseref27_ReadMap.j43 kq44 x0_ t9 t12 t15 t18 x27 x28 l31 y42 = some r → K37 a w' := by
      intro kq44 hkq G y42 a u47 hE hA hS H
      cases kq44 with
      | zero => cases (show none = some r from H)
      | succ k45 =>
        rw [windroseref27_ReadMap.j43_s] at H
        obtain ⟨J, hE⟩ := hE.at hA
        refine hK37 _ _ ?_
        by_cases c48 : y42 = true
        · rw [if_pos c48] at H
          replace hE := hE.bt 33 c48
          refine ct hE ?_
          refine wp_skip ?_
          refine hK36 _ _ ?_
          refine wp_seq_k fun K49 hK49 => ?_
          refine wp_block ?_
          refine wp_seq_k fun K50 hK50 => ?_
          refine drawn 32 ⟨[29, 31], [], fun q => False⟩ mixed rfl (by kernel_rfl) (fun hst => ?_)
          replace hS := hS.drew
          have hb20 := hS.blk_at (i := 0) rfl
          refine mny 13 hst hE (.r 0 1 <| .b 1 4 hb20 <| .r 2 2 <| .r 5 3 <| .r 9 3 <| .r 13 3 <| .r 17 3 <| .r 22 3 <| .nil) (fun a hE => ?_)
          obtain ⟨t52, h53, H⟩ := Option.bind_eq_some_iff.mp H
          refine on1 4 hE (.cl en69 (windroseref27_take.calls x0_.f0 x27 _ _ _ _ _ hS.own.sub g0_0 h53)) ?_
          rintro _ u51 a ⟨_, rfl, hC⟩ hE
          refine ⟨.of hC.agr, ?_⟩
          replace hS := hS.lent hC
          obtain ⟨t55, h56, H⟩ := Option.bind_eq_some_iff.mp H
          refine on1 8 hE (.cl en69 (windroseref27_take.calls x0_.f0 (w64 (x27 + 1)) _ _ _ _ _ hS.own.sub g0_0 h56)) ?_
          rintro _ u54 a ⟨_, rfl, hC⟩ hE
          refine ⟨.of hC.agr, ?_⟩
          replace hS := hS.lent hC
          obtain ⟨t58, h59, H⟩ := Option.bind_eq_some_iff.mp H
          refine on1 12 hE (.cl en69 (windroseref27_take.calls x0_.f0 (w64 (x27 + 2)) _ _ _ _ _ hS.own.sub g0_0 h59)) ?_
          rintro _ u57 a ⟨_, rfl, hC⟩ hE
          refine ⟨.of hC.agr, ?_⟩
          replace hS := hS.lent hC
          obtain ⟨t61, h62, H⟩ := Option.bind_eq_some_iff.mp H
          refine on1 16 hE (.cl en69 (windroseref27_take.calls x0_.f0 (w64 (x27 + 3)) _ _ _ _ _ hS.own.sub g0_0 h62)) ?_
          rintro _ u60 a ⟨_, rfl, hC⟩ hE
          refine ⟨.of hC.agr, ?_⟩
          replace hS := hS.lent hC
          obtain ⟨t64, h65, H⟩ := Option.bind_eq_some_iff.mp H
          refine on1 20 hE (.cl en69 (windroseref27_take.calls x0_.f0 (w64 (x27 + 4)) _ _ _ _ _ hS.own.sub g0_0 h65)) ?_
          rintro _ u63 a ⟨_, rfl, hC⟩ hE
          refine ⟨.of hC.agr, ?_⟩
          replace hS := hS.lent hC
          refine mny 7 hst hE (.r 21 1 .nil) (fun a hE => ?_)
          obtain ⟨t67, h68, H⟩ := Option.bind_eq_some_iff.mp H
          refine on1 25 hE (.cl en69 (windroseref27_take.calls x0_.f0 (w64 (x27 + 5)) _ _ _ _ _ hS.own.sub g0_0 h68)) ?_
          rintro _ u66 a ⟨_, rfl, hC⟩ hE
          refine ⟨.of hC.agr, ?_⟩
          replace hS := hS.lent hC
          refine mny 4 hst hE (.r 26 2 .nil) (fun a hE => ?_)
          refine on1 28 hE (.lit (d := T_api_Node.k) (e := 102) hS [(⟨t52, t55, t58, t61, (t64 == 1), (t67 == 1)⟩ : T_api_Node)] (.cons rfl .nil)) ?_
          rintro _ u69 a ⟨A70, c71, rfl, hS, hg⟩ hE
          refine ⟨.of hg, ?_⟩
          by_cases c73 : ((l31.length : Int) + ((1 : Nat) : Int)) * 40 ≤ 140737488355328
          rotate_left
          · rw [if_neg c73] at H; cases H
          rw [if_pos c73] at H
          replace hS := hS.front 4 rfl
          refine on1 29 hE (.ap (d := T_api_Node.k) 40 hS (row_src (hS.row_at (i := 1) rfl)) c73 c71) ?_
          rintro _ u76 a ⟨A74, c75, rfl, hS, hz⟩ hE
          refine ⟨.d, ?_⟩
          refine mny 1 hst hE (.r 30 1 .nil) (fun a hE => ?_)
          replace hS := hS.front 2 rfl
          refine on1 31 hE (.sto hS [.int .i64 t9, .int .i64 t12, .int .i64 t15, .int .i64 t18, .slice A74 ((l31 ++ [(⟨t52, t55, t58, t61, (t64 == 1), (t67 == 1)⟩ : T_api_Node)]).length) c75, .slice none 0 0, .slice none 0 0]) ?_
          rintro _ u77 a ⟨rfl, hb20, hS, hz⟩ hE
          refine ⟨.d, ?_⟩
          refine dn ?_
          refine hK50 _ _ ?_
          refine pl0 ?_
          refine plc hE (.r 0 3 .nil) (fun a hE => ?_)
          refine pld ?_
          refine hK49 _ _ ?_
          refine pl0 ?_
          refine plc hE (.r 0 3 .nil) (fun a hE => ?_)
          refine pld ?_
          replace hS := hS.front 2 rfl
          replace hS := hS.tail
          replace hS := hS.front 1 rfl
          replace hS := hS.front 3 rfl
          replace hS := hS.front 3 rfl
          replace hS := hS.front 3 rfl
          exact then_n ⟨k45, by omega, _, (w64 (x27 + 6)), (w64 (x28 + 1)), A74, c75, (l31 ++ [(⟨t52, t55, t58, t61, (t64 == 1), (t67 == 1)⟩ : T_api_Node)]), by omega, hE, .of, hS, H⟩
        · rw [if_neg c48] at H
          replace hE := hE.bf 33 c48
          refine cf hE ?_
          refine wp_exit ?_
          refine hK24 _ _ ?_
          refine wp_seq_k fun K79 hK79 => ?_
          refine pl0 ?_
          refine plc hE (.r 0 2 .nil) (fun a hE => ?_)
          obtain ⟨t81, h82, H⟩ := Option.bind_eq_some_iff.mp H
          refine ple hE (.cl en69 (windroseref27_take.calls x0_.f0 x27 _ _ _ _ _ hS.own.sub g0_0 h82)) ?_
          rintro _ u80 a ⟨_, rfl, hC⟩ hE
          replace hS := hS.lent hC
          refine plc hE (.r 3 1 .nil) (fun a hE => ?_)
          refine pld ?_
          refine hK79 _ _ ?_
          refine wp_seq_k fun K83 hK83 => ?_
          refine pl0 ?_
          refine plc hE (.r 0 3 .nil) (fun a hE => ?_)
          refine pld ?_
          refine hK83 _ _ ?_
          refine wp_seq_k fun K84 hK84 => ?_
          refine wp_seq_k fun K85 hK85 => ?_
          refine pl0 ?_
          refine plc hE (.r 0 1 .nil) (fun a hE => ?_)
          refine pld ?_
          refine hK85 _ _ ?_
          refine wp_block ?_
          replace hS := hS.nilrow T_api_Temp.k 130
          replace hS := hS.front 4 rfl
          replace hS := hS.front 4 rfl
          replace hS := hS.front 4 rfl
          replace hS := hS.front 4 rfl
          refine wp_loop_ghost (fun kq94 a w' => ∃ (G : Nat → Value) (x87 : Int) (x88 : Int) (A89 : Option Addr) (c90 : Nat) (l91 : List T_api_Temp) (F92 : World), kq94 ≤ k45 ∧ Env 168 G a ∧ At G [(1, .pointer (some ⟨b2, 0, none⟩)), (2, .pointer (some ⟨b4, 0, none⟩)), (4, .slice A0_0 x0_.f0.length c0_0), (5, .pointer (some ⟨b20, 0, none⟩)), (6, .int .i64 x87), (8, .int .i64 t81), (9, .int .i64 x88)] ∧ St W (mine W []) F w' F92 [box b20 #[.int .i64 t9, .int .i64 t12, .int .i64 t15, .int .i64 t18, .slice A29 l31.length c30, .slice A89 l91.length c90, .slice none 0 0] 78, box b4 #[.int .i64 0, .int .i64 0, .int .i64 0, .int .i64 0, .slice none 0 0, .slice none 0 0, .slice none 0 0] 78, box b2 #[.slice A0_0 x0_.f0.length c0_0, .slice A0_1 x0_.f1.length c0_1] 36, row T_api_Node.k 102 (.slice A29 l31.length c30) l31, row T_api_Temp.k 130 (.slice A89 l91.length c90) l91] ∧ Rd (Kn.int .i64) F92 A0_0 c0_0 x0_.f0 ∧ Rd Kn.string F92 A0_1 c0_1 x0_.f1 ∧  windroseref27_ReadMap.l93 kq94 x0_ t9 t12 t15 t18 l31 t81 x87 x88 l91 = some r) k45 ⟨_, (w64 (x27 + 1)), 0, none, 0, [], F, Nat.le_refl _, hE, .of, hS, g0_0, g0_1, H⟩ ?_
          rintro kq94 a u96 ⟨G, x87, x88, A89, c90, l91, F92, hkq, hE, hA, hS, g0_0, g0_1, H⟩
          cases kq94 with
          | zero => cases (show none = some r from H)
          | succ k95 =>
            rw [windroseref27_ReadMap.l93_s] at H
            obtain ⟨J, hE⟩ := hE.at hA
            refine wp_seq_k fun K97 hK97 => ?_
            refine wp_seq_k fun K98 hK98 => ?_
            have J104 : ∀ kq102, kq102 ≤ k95 → ∀ (G : Nat → Value) (y100 : Bool) (a : Act) (w' : World), Env 168 G a → At G [(1, .pointer (some ⟨b2, 0, none⟩)), (2, .pointer (some ⟨b4, 0, none⟩)), (4, .slice A0_0 x0_.f0.length c0_0), (5, .pointer (some ⟨b20, 0, none⟩)), (6, .int .i64 x87), (8, .int .i64 t81), (9, .int .i64 x88), (80, .bool y100)] → St W (mine W []) F w' F92 [box b20 #[.int .i64 t9, .int .i64 t12, .int .i64 t15, .int .i64 t18, .slice A29 l31.length c30, .slice A89 l91.length c90, .slice none 0 0] 78, box b4 #[.int .i64 0, .int .i64 0, .int .i64 0, .int .i64 0, .slice none 0 0, .slice none 0 0, .slice none 0 0] 78, box b2 #[.slice A0_0 x0_.f0.length c0_0, .slice A0_1 x0_.f1.length c0_1] 36, row T_api_Node.k 102 (.slice A29 l31.length c30) l31, row T_api_Temp.k 130 (.slice A89 l91.length c90) l91] → windroseref27_ReadMap.j101 kq102 x0_ t9 t12 t15 t18 l31 t81 x87 x88 l91 y100 = some r → K98 a w' := by
              intro kq102 hkq G y100 a u105 hE hA hS H
              cases kq102 with
              | zero => cases (show none = some r from H)
              | succ k103 =>
                rw [windroseref27_ReadMap.j101_s] at H
                obtain ⟨J, hE⟩ := hE.at hA
                refine hK98 _ _ ?_
                by_cases c106 : y100 = true
                · rw [if_pos c106] at H
                  replace hE := hE.bt 80 c106
                  refine ct hE ?_
                  refine wp_skip ?_
                  refine hK97 _ _ ?_
                  refine wp_seq_k fun K107 hK107 => ?_
                  refine wp_block ?_
                  refine wp_seq_k fun K108 hK108 => ?_
                  refine pl0 ?_
                  refine plc hE (.r 0 2 .nil) (fun a hE => ?_)
                  obtain ⟨t110, h111, H⟩ := Option.bind_eq_some_iff.mp H
                  refine ple hE (.cl en69 (windroseref27_take.calls x0_.f0 x87 _ _ _ _ _ hS.own.sub g0_0 h111)) ?_
                  rintro _ u109 a ⟨_, rfl, hC⟩ hE
                  replace hS := hS.lent hC
                  refine plc hE (.r 3 1 .nil) (fun a hE => ?_)
                  refine ple hE (.al (t := 130) hS [.int .i64 0, .slice none 0 0]) ?_
                  rintro _ u113 a ⟨b112, rfl, hb112, hS, hg⟩ hE
                  refine ple hE (.sto hS [.int .i64 t110, .slice none 0 0]) ?_
                  rintro _ u114 a ⟨rfl, hb112, hS, hz⟩ hE
                  refine pld ?_
                  refine hK108 _ _ ?_
                  refine wp_seq_k fun K115 hK115 => ?_
                  refine pl0 ?_
                  refine plc hE (.r 0 3 .nil) (fun a hE => ?_)
                  obtain ⟨t117, h118, H⟩ := Option.bind_eq_some_iff.mp H
                  refine ple hE (.cl en70 (windroseref27_nodes.calls k103 x0_.f0 (w64 (x87 + 1)) _ _ _ _ _ hS.own.sub g0_0 h118)) ?_
                  rintro _ u116 a ⟨F119, A120, c121, rfl, hC⟩ hE
                  have hs := hC.sub
                  replace hS := hS.called (X := []) hC
                  replace g0_0 := g0_0.mono hs
                  replace g0_1 := g0_1.mono hs
                  refine plc hE (.r 4 4 .nil) (fun a hE => ?_)
                  replace hS := hS.front 1 rfl
                  refine ple hE (.sto hS [.int .i64 t110, .slice A120 t117.1.length c121]) ?_
                  rintro _ u124 a ⟨rfl, hb112, hS, hz⟩ hE
                  refine plc hE (.r 9 1 .nil) (fun a hE => ?_)
                  refine pld ?_
                  refine hK115 _ _ ?_
                  refine pl0 ?_
                  have hb20 := hS.blk_at (i := 2) rfl
                  refine plc hE (.r 0 1 <| .b 1 5 hb20 <| .bn 2 0 2 hb112 <| .nil) (fun a hE => ?_)
                  replace hS := hS.front 1 rfl
                  obtain ⟨F128, hs, g129, hS⟩ := hS.give
                  replace g0_0 := g0_0.mono hs
                  replace g0_1 := g0_1.mono hs
                  refine ple hE (.lit (d := T_api_Temp.k) (e := 130) hS [(⟨t110, t117.1⟩ : T_api_Temp)] (.cons ⟨_, _, rfl, g129⟩ .nil)) ?_
                  rintro _ u125 a ⟨A126, c127, rfl, hS, hg⟩ hE
                  by_cases c131 : ((l91.length : Int) + ((1 : Nat) : Int)) * 32 ≤ 140737488355328
                  rotate_left
                  · rw [if_neg c131] at H; cases H
                  rw [if_pos c131] at H
                  replace hS := hS.front 6 rfl
                  refine ple hE (.ap (d := T_api_Temp.k) 32 hS (row_src (hS.row_at (i := 1) rfl)) c131 c127) ?_
                  rintro _ u134 a ⟨A132, c133, rfl, hS, hz⟩ hE
                  refine plc hE (.r 5 1 .nil) (fun a hE => ?_)
                  replace hS := hS.front 3 rfl
                  refine ple hE (.sto hS [.int .i64 t9, .int .i64 t12, .int .i64 t15, .int .i64 t18, .slice A29 l31.length c30, .slice A132 ((l91 ++ [(⟨t110, t117.1⟩ : T_api_Temp)]).length) c133, .slice none 0 0]) ?_
                  rintro _ u135 a ⟨rfl, hb20, hS, hz⟩ hE
                  refine pld ?_
                  refine hK107 _ _ ?_
                  refine pl0 ?_
                  refine plc hE (.r 0 3 .nil) (fun a hE => ?_)
                  refine pld ?_
                  replace hS := hS.front 2 rfl
                  replace hS := hS.tail
                  replace hS := hS.front 2 rfl
                  replace hS := hS.tail
                  replace hS := hS.front 1 rfl
                  replace hS := hS.front 4 rfl
                  replace hS := hS.front 4 rfl
                  replace hS := hS.front 4 rfl
                  replace hS := hS.front 4 rfl
                  exact then_n ⟨k103, by omega, _, t117.2, (w64 (x88 + 1)), A132, c133, (l91 ++ [(⟨t110, t117.1⟩ : T_api_Temp)]), F128, by omega, hE, .of, hS, g0_0, g0_1, H⟩
                · rw [if_neg c106] at H
                  replace hE := hE.bf 80 c106
                  refine cf hE ?_
                  refine wp_exit ?_
                  refine hK84 _ _ ?_
                  refine wp_seq_k fun K137 hK137 => ?_
                  refine wp_seq_k fun K138 hK138 => ?_
                  refine pl0 ?_
                  refine plc hE (.r 0 1 .nil) (fun a hE => ?_)
                  refine pld ?_
                  refine hK138 _ _ ?_
                  refine wp_block ?_
                  replace hS := hS.nilrow T_api_Trail.k 133
                  replace hS := hS.front 5 rfl
                  replace hS := hS.front 5 rfl
                  replace hS := hS.front 5 rfl
                  replace hS := hS.front 5 rfl
                  replace hS := hS.front 5 rfl
                  refine wp_loop_ghost (fun kq147 a w' => ∃ (G : Nat → Value) (x140 : Int) (x141 : Int) (A142 : Option Addr) (c143 : Nat) (l144 : List T_api_Trail) (F145 : World), kq147 ≤ k103 ∧ Env 168 G a ∧ At G [(1, .pointer (some ⟨b2, 0, none⟩)), (2, .pointer (some ⟨b4, 0, none⟩)), (4, .slice A0_0 x0_.f0.length c0_0), (5, .pointer (some ⟨b20, 0, none⟩)), (6, .int .i64 x140), (11, .int .i64 x141)] ∧ St W (mine W []) F w' F145 [box b20 #[.int .i64 t9, .int .i64 t12, .int .i64 t15, .int .i64 t18, .slice A29 l31.length c30, .slice A89 l91.length c90, .slice A142 l144.length c143] 78, box b4 #[.int .i64 0, .int .i64 0, .int .i64 0, .int .i64 0, .slice none 0 0, .slice none 0 0, .slice none 0 0] 78, box b2 #[.slice A0_0 x0_.f0.length c0_0, .slice A0_1 x0_.f1.length c0_1] 36, row T_api_Node.k 102 (.slice A29 l31.length c30) l31, row T_api_Temp.k 130 (.slice A89 l91.length c90) l91, row T_api_Trail.k 133 (.slice A142 l144.length c143) l144] ∧ Rd (Kn.int .i64) F145 A0_0 c0_0 x0_.f0 ∧ Rd Kn.string F145 A0_1 c0_1 x0_.f1 ∧  windroseref27_ReadMap.l146 kq147 x0_ t9 t12 t15 t18 l31 l91 x140 x141 l144 = some r) k103 ⟨_, x87, 0, none, 0, [], F92, Nat.le_refl _, hE, .of, hS, g0_0, g0_1, H⟩ ?_
                  rintro kq147 a u149 ⟨G, x140, x141, A142, c143, l144, F145, hkq, hE, hA, hS, g0_0, g0_1, H⟩
                  cases kq147 with
                  | zero => cases (show none = some r from H)
                  | succ k148 =>
                    rw [windroseref27_ReadMap.l146_s] at H
                    obtain ⟨J, hE⟩ := hE.at hA
                    refine wp_seq_k fun K150 hK150 => ?_
                    refine wp_seq_k fun K151 hK151 => ?_
                    have J157 : ∀ kq155, kq155 ≤ k148 → ∀ (G : Nat → Value) (y153 : Bool) (a : Act) (w' : World), Env 168 G a → At G [(1, .pointer (some ⟨b2, 0, none⟩)), (2, .pointer (some ⟨b4, 0, none⟩)), (4, .slice A0_0 x0_.f0.length c0_0), (5, .pointer (some ⟨b20, 0, none⟩)), (6, .int .i64 x140), (11, .int .i64 x141), (108, .bool y153)] → St W (mine W []) F w' F145 [box b20 #[.int .i64 t9, .int .i64 t12, .int .i64 t15, .int .i64 t18, .slice A29 l31.length c30, .slice A89 l91.length c90, .slice A142 l144.length c143] 78, box b4 #[.int .i64 0, .int .i64 0, .int .i64 0, .int .i64 0, .slice none 0 0, .slice none 0 0, .slice none 0 0] 78, box b2 #[.slice A0_0 x0_.f0.length c0_0, .slice A0_1 x0_.f1.length c0_1] 36, row T_api_Node.k 102 (.slice A29 l31.length c30) l31, row T_api_Temp.k 130 (.slice A89 l91.length c90) l91, row T_api_Trail.k 133 (.slice A142 l144.length c143) l144] → windroseref27_ReadMap.j154 kq155 x0_ t9 t12 t15 t18 l31 l91 x140 x141 l144 y153 = some r → K151 a w' := by
                      intro kq155 hkq G y153 a u158 hE hA hS H
                      cases kq155 with
                      | zero => cases (show none = some r from H)
                      | succ k156 =>
                        rw [windroseref27_ReadMap.j154_s] at H
                        obtain ⟨J, hE⟩ := hE.at hA
                        refine hK151 _ _ ?_
                        by_cases c159 : y153 = true
                        · rw [if_pos c159] at H
                          replace hE := hE.bt 108 c159
                          refine ct hE ?_
                          refine wp_skip ?_
                          refine hK150 _ _ ?_
                          refine wp_seq_k fun K160 hK160 => ?_
                          refine wp_block ?_
                          refine wp_seq_k fun K161 hK161 => ?_
                          refine pl0 ?_
                          refine plc hE (.r 0 2 .nil) (fun a hE => ?_)
                          obtain ⟨t163, h164, H⟩ := Option.bind_eq_some_iff.mp H
                          refine ple hE (.cl en69 (windroseref27_take.calls x0_.f0 x140 _ _ _ _ _ hS.own.sub g0_0 h164)) ?_
                          rintro _ u162 a ⟨_, rfl, hC⟩ hE
                          replace hS := hS.lent hC
                          refine plc hE (.r 3 1 .nil) (fun a hE => ?_)
                          refine ple hE (.al (t := 133) hS [.int .i64 0, .slice none 0 0]) ?_
                          rintro _ u166 a ⟨b165, rfl, hb165, hS, hg⟩ hE
                          refine ple hE (.sto hS [.int .i64 t163, .slice none 0 0]) ?_
                          rintro _ u167 a ⟨rfl, hb165, hS, hz⟩ hE
                          refine pld ?_
                          refine hK161 _ _ ?_
                          refine wp_seq_k fun K168 hK168 => ?_
                          refine pl0 ?_
                          refine plc hE (.r 0 3 .nil) (fun a hE => ?_)
                          obtain ⟨t170, h171, H⟩ := Option.bind_eq_some_iff.mp H
                          refine ple hE (.cl en69 (windroseref27_take.calls x0_.f0 (w64 (x140 + 1)) _ _ _ _ _ hS.own.sub g0_0 h171)) ?_
                          rintro _ u169 a ⟨_, rfl, hC⟩ hE
                          replace hS := hS.lent hC
                          refine plc hE (.r 4 1 .nil) (fun a hE => ?_)
                          refine pld ?_
                          refine hK168 _ _ ?_
                          refine wp_seq_k fun K172 hK172 => ?_
                          refine pl0 ?_
                          refine plc hE (.r 0 3 .nil) (fun a hE => ?_)
                          refine pld ?_
                          refine hK172 _ _ ?_
                          refine wp_seq_k fun K173 hK173 => ?_
                          refine wp_seq_k fun K174 hK174 => ?_
                          refine pl0 ?_
                          refine plc hE (.r 0 1 .nil) (fun a hE => ?_)
                          refine pld ?_
                          refine hK174 _ _ ?_
                          refine wp_block ?_
                          replace hS := hS.nilrow T_api_Span.k 140
                          replace hS := hS.front 7 rfl
                          replace hS := hS.front 7 rfl
                          replace hS := hS.front 7 rfl
                          replace hS := hS.front 7 rfl
                          replace hS := hS.front 7 rfl
                          replace hS := hS.front 7 rfl
                          replace hS := hS.front 7 rfl
                          refine wp_loop_ghost (fun kq183 a w' => ∃ (G : Nat → Value) (x176 : Int) (x177 : Int) (A178 : Option Addr) (c179 : Nat) (l180 : List T_api_Span) (F181 : World), kq183 ≤ k156 ∧ Env 168 G a ∧ At G [(1, .pointer (some ⟨b2, 0, none⟩)), (2, .pointer (some ⟨b4, 0, none⟩)), (4, .slice A0_0 x0_.f0.length c0_0), (5, .pointer (some ⟨b20, 0, none⟩)), (6, .int .i64 x176), (8, .int .i64 t170), (11, .int .i64 x141), (12, .pointer (some ⟨b165, 0, none⟩)), (13, .int .i64 x177)] ∧ St W (mine W []) F w' F181 [box b165 #[.int .i64 t163, .slice A178 l180.length c179] 133, box b20 #[.int .i64 t9, .int .i64 t12, .int .i64 t15, .int .i64 t18, .slice A29 l31.length c30, .slice A89 l91.length c90, .slice A142 l144.length c143] 78, box b4 #[.int .i64 0, .int .i64 0, .int .i64 0, .int .i64 0, .slice none 0 0, .slice none 0 0, .slice none 0 0] 78, box b2 #[.slice A0_0 x0_.f0.length c0_0, .slice A0_1 x0_.f1.length c0_1] 36, row T_api_Node.k 102 (.slice A29 l31.length c30) l31, row T_api_Temp.k 130 (.slice A89 l91.length c90) l91, row T_api_Trail.k 133 (.slice A142 l144.length c143) l144, row T_api_Span.k 140 (.slice A178 l180.length c179) l180] ∧ Rd (Kn.int .i64) F181 A0_0 c0_0 x0_.f0 ∧ Rd Kn.string F181 A0_1 c0_1 x0_.f1 ∧  windroseref27_ReadMap.l182 kq183 x0_ t9 t12 t15 t18 l31 l91 x141 l144 t163 t170 x176 x177 l180 = some r) k156 ⟨_, (w64 (x140 + 2)), 0, none, 0, [], F145, Nat.le_refl _, hE, .of, hS, g0_0, g0_1, H⟩ ?_
                          rintro kq183 a u185 ⟨G, x176, x177, A178, c179, l180, F181, hkq, hE, hA, hS, g0_0, g0_1, H⟩
                          cases kq183 with
                          | zero => cases (show none = some r from H)
                          | succ k184 =>
                            rw [windroseref27_ReadMap.l182_s] at H
                            obtain ⟨J, hE⟩ := hE.at hA
                            refine wp_seq_k fun K186 hK186 => ?_
                            refine wp_seq_k fun K187 hK187 => ?_
                            have J193 : ∀ kq191, kq191 ≤ k184 → ∀ (G : Nat → Value) (y189 : Bool) (a : Act) (w' : World), Env 168 G a → At G [(1, .pointer (some ⟨b2, 0, none⟩)), (2, .pointer (some ⟨b4, 0, none⟩)), (4, .slice A0_0 x0_.f0.length c0_0), (5, .pointer (some ⟨b20, 0, none⟩)), (6, .int .i64 x176), (8, .int .i64 t170), (11, .int .i64 x141), (12, .pointer (some ⟨b165, 0, none⟩)), (13, .int .i64 x177), (129, .bool y189)] → St W (mine W []) F w' F181 [box b165 #[.int .i64 t163, .slice A178 l180.length c179] 133, box b20 #[.int .i64 t9, .int .i64 t12, .int .i64 t15, .int .i64 t18, .slice A29 l31.length c30, .slice A89 l91.length c90, .slice A142 l144.length c143] 78, box b4 #[.int .i64 0, .int .i64 0, .int .i64 0, .int .i64 0, .slice none 0 0, .slice none 0 0, .slice none 0 0] 78, box b2 #[.slice A0_0 x0_.f0.length c0_0, .slice A0_1 x0_.f1.length c0_1] 36, row T_api_Node.k 102 (.slice A29 l31.length c30) l31, row T_api_Temp.k 130 (.slice A89 l91.length c90) l91, row T_api_Trail.k 133 (.slice A142 l144.length c143) l144, row T_api_Span.k 140 (.slice A178 l180.length c179) l180] → windroseref27_ReadMap.j190 kq191 x0_ t9 t12 t15 t18 l31 l91 x141 l144 t163 t170 x176 x177 l180 y189 = some r → K187 a w' := by
                              intro kq191 hkq G y189 a u194 hE hA hS H
                              cases kq191 with
                              | zero => cases (show none = some r from H)
                              | succ k192 =>
                                rw [windroseref27_ReadMap.j190_s] at H
                                obtain ⟨J, hE⟩ := hE.at hA
                                refine hK187 _ _ ?_
                                by_cases c195 : y189 = true
                                · rw [if_pos c195] at H
                                  replace hE := hE.bt 129 c195
                                  refine ct hE ?_
                                  refine wp_skip ?_
                                  refine hK186 _ _ ?_
                                  refine wp_seq_k fun K196 hK196 => ?_
                                  refine wp_block ?_
                                  refine wp_seq_k fun K197 hK197 => ?_
                                  refine pl0 ?_
                                  refine plc hE (.r 0 2 .nil) (fun a hE => ?_)
                                  obtain ⟨t199, h200, H⟩ := Option.bind_eq_some_iff.mp H
                                  refine ple hE (.cl en69 (windroseref27_take.calls x0_.f0 x176 _ _ _ _ _ hS.own.sub g0_0 h200)) ?_
                                  rintro _ u198 a ⟨_, rfl, hC⟩ hE
                                  replace hS := hS.lent hC
                                  refine plc hE (.r 3 1 .nil) (fun a hE => ?_)
                                  refine ple hE (.al (t := 140) hS [.int .i64 0, .slice none 0 0]) ?_
                                  rintro _ u202 a ⟨b201, rfl, hb201, hS, hg⟩ hE
                                  refine ple hE (.sto hS [.int .i64 t199, .slice none 0 0]) ?_
                                  rintro _ u203 a ⟨rfl, hb201, hS, hz⟩ hE
                                  refine pld ?_
                                  refine hK197 _ _ ?_
                                  refine wp_seq_k fun K204 hK204 => ?_
                                  refine pl0 ?_
                                  refine plc hE (.r 0 3 .nil) (fun a hE => ?_)
                                  obtain ⟨t206, h207, H⟩ := Option.bind_eq_some_iff.mp H
                                  refine ple hE (.cl en70 (windroseref27_nodes.calls k192 x0_.f0 (w64 (x176 + 1)) _ _ _ _ _ hS.own.sub g0_0 h207)) ?_
                                  rintro _ u205 a ⟨F208, A209, c210, rfl, hC⟩ hE
                                  have hs := hC.sub
                                  replace hS := hS.called (X := []) hC
                                  replace g0_0 := g0_0.mono hs
                                  replace g0_1 := g0_1.mono hs
                                  refine plc hE (.r 4 4 .nil) (fun a hE => ?_)
                                  replace hS := hS.front 1 rfl
                                  refine ple hE (.sto hS [.int .i64 t199, .slice A209 t206.1.length c210]) ?_
                                  rintro _ u213 a ⟨rfl, hb201, hS, hz⟩ hE
                                  refine plc hE (.r 9 1 .nil) (fun a hE => ?_)
                                  refine pld ?_
                                  refine hK204 _ _ ?_
                                  refine pl0 ?_
                                  have hb165 := hS.blk_at (i := 2) rfl
                                  refine plc hE (.r 0 1 <| .b 1 1 hb165 <| .bn 2 0 2 hb201 <| .nil) (fun a hE => ?_)
                                  replace hS := hS.front 1 rfl
                                  obtain ⟨F217, hs, g218, hS⟩ := hS.give
                                  replace g0_0 := g0_0.mono hs
                                  replace g0_1 := g0_1.mono hs
                                  refine ple hE (.lit (d := T_api_Span.k) (e := 140) hS [(⟨t199, t206.1⟩ : T_api_Span)] (.cons ⟨_, _, rfl, g218⟩ .nil)) ?_
                                  rintro _ u214 a ⟨A215, c216, rfl, hS, hg⟩ hE
                                  by_cases c220 : ((l180.length : Int) + ((1 : Nat) : Int)) * 32 ≤ 140737488355328
                                  rotate_left
                                  · rw [if_neg c220] at H; cases H
                                  rw [if_pos c220] at H
                                  replace hS := hS.front 9 rfl
                                  refine ple hE (.ap (d := T_api_Span.k) 32 hS (row_src (hS.row_at (i := 1) rfl)) c220 c216) ?_
                                  rintro _ u223 a ⟨A221, c222, rfl, hS, hz⟩ hE
                                  refine plc hE (.r 5 1 .nil) (fun a hE => ?_)
                                  replace hS := hS.front 3 rfl
                                  refine ple hE (.sto hS [.int .i64 t163, .slice A221 ((l180 ++ [(⟨t199, t206.1⟩ : T_api_Span)]).length) c222]) ?_
                                  rintro _ u224 a ⟨rfl, hb165, hS, hz⟩ hE
                                  refine pld ?_
                                  refine hK196 _ _ ?_
                                  refine pl0 ?_
                                  refine plc hE (.r 0 3 .nil) (fun a hE => ?_)
                                  refine pld ?_
                                  replace hS := hS.front 2 rfl
                                  replace hS := hS.tail
                                  replace hS := hS.front 2 rfl
                                  replace hS := hS.tail
                                  replace hS := hS.front 1 rfl
                                  replace hS := hS.front 7 rfl
                                  replace hS := hS.front 7 rfl
                                  replace hS := hS.front 7 rfl
                                  replace hS := hS.front 7 rfl
                                  replace hS := hS.front 7 rfl
                                  replace hS := hS.front 7 rfl
                                  replace hS := hS.front 7 rfl
                                  exact then_n ⟨k192, by omega, _, t206.2, (w64 (x177 + 1)), A221, c222, (l180 ++ [(⟨t199, t206.1⟩ : T_api_Span)]), F217, by omega, hE, .of, hS, g0_0, g0_1, H⟩
                                · rw [if_neg c195] at H
                                  replace hE := hE.bf 129 c195
                                  refine cf hE ?_
                                  refine wp_exit ?_
                                  refine hK173 _ _ ?_
                                  refine pl0 ?_
                                  have hb20 := hS.blk_at (i := 1) rfl
                                  have hb165 := hS.blk_at (i := 0) rfl
                                  refine plc hE (.r 0 1 <| .b 1 6 hb20 <| .bn 2 0 2 hb165 <| .nil) (fun a hE => ?_)
                                  replace hS := hS.front 7 rfl
                                  obtain ⟨F229, hs, g230, hS⟩ := hS.give
                                  replace g0_0 := g0_0.mono hs
                                  replace g0_1 := g0_1.mono hs
                                  refine ple hE (.lit (d := T_api_Trail.k) (e := 133) hS [(⟨t163, l180⟩ : T_api_Trail)] (.cons ⟨_, _, rfl, g230⟩ .nil)) ?_
                                  rintro _ u226 a ⟨A227, c228, rfl, hS, hg⟩ hE
                                  by_cases c232 : ((l144.length : Int) + ((1 : Nat) : Int)) * 32 ≤ 140737488355328
                                  rotate_left
                                  · rw [if_neg c232] at H; cases H
                                  rw [if_pos c232] at H
                                  replace hS := hS.front 7 rfl
                                  refine ple hE (.ap (d := T_api_Trail.k) 32 hS (row_src (hS.row_at (i := 1) rfl)) c232 c228) ?_
                                  rintro _ u235 a ⟨A233, c234, rfl, hS, hz⟩ hE
                                  refine plc hE (.r 5 1 .nil) (fun a hE => ?_)
                                  replace hS := hS.front 3 rfl
                                  refine ple hE (.sto hS [.int .i64 t9, .int .i64 t12, .int .i64 t15, .int .i64 t18, .slice A29 l31.length c30, .slice A89 l91.length c90, .slice A233 ((l144 ++ [(⟨t163, l180⟩ : T_api_Trail)]).length) c234]) ?_
                                  rintro _ u236 a ⟨rfl, hb20, hS, hz⟩ hE
                                  refine pld ?_
                                  refine hK160 _ _ ?_
                                  refine pl0 ?_
                                  refine plc hE (.r 0 3 .nil) (fun a hE => ?_)
                                  refine pld ?_
                                  replace hS := hS.front 2 rfl
                                  replace hS := hS.tail
                                  replace hS := hS.front 2 rfl
                                  replace hS := hS.tail
                                  replace hS := hS.front 1 rfl
                                  replace hS := hS.front 5 rfl
                                  replace hS := hS.front 5 rfl
                                  replace hS := hS.front 5 rfl
                                  replace hS := hS.front 5 rfl
                                  replace hS := hS.front 5 rfl
                                  exact then_n ⟨k192, by omega, _, x176, (w64 (x141 + 1)), A233, c234, (l144 ++ [(⟨t163, l180⟩ : T_api_Trail)]), F229, by omega, hE, .of, hS, g0_0, g0_1, H⟩
                            refine pl0 ?_
                            refine plc hE (.r 0 4 .nil) (fun a hE => ?_)
                            by_cases c188 : x177 < t170
                            · rw [if_pos c188] at H
                              replace hE := hE.kt 124 c188
                              refine plc hE (.r 4 5 .nil) (fun a hE => ?_)
                              refine pld ?_
                              exact J193 _ (by omega) _ (decide (x176 < (x0_.f0.length : Int))) _ _ hE .of hS H
                            · rw [if_neg c188] at H
                              replace hE := hE.kf 124 c188
                              refine plc hE (.r 4 5 .nil) (fun a hE => ?_)
                              refine pld ?_
                              exact J193 _ (by omega) _ false _ _ hE .of hS H
                        · rw [if_neg c159] at H
                          replace hE := hE.bf 108 c159
                          refine cf hE ?_
                          refine wp_exit ?_
                          refine hK137 _ _ ?_
                          refine wp_seq_k fun K238 hK238 => ?_
                          refine wp_seq_k fun K239 hK239 => ?_
                          have J281 : ∀ kq279, kq279 ≤ k156 → ∀ (G : Nat → Value) (y264 : Bool) (A265 : Option Addr) (c266 : Nat) (l267 : List T_api_Node) (A269 : Option Addr) (c270 : Nat) (l271 : List T_api_Temp) (A273 : Option Addr) (c274 : Nat) (l275 : List T_api_Trail) (F277 : World) (a : Act) (w' : World), Env 168 G a → At G [(2, .pointer (some ⟨b4, 0, none⟩)), (5, .pointer (some ⟨b20, 0, none⟩)), (165, .bool y264)] → St W (mine W []) F w' F277 [box b20 #[.int .i64 t9, .int .i64 t12, .int .i64 t15, .int .i64 t18, .slice A265 l267.length c266, .slice A269 l271.length c270, .slice A273 l275.length c274] 78, box b4 #[.int .i64 0, .int .i64 0, .int .i64 0, .int .i64 0, .slice none 0 0, .slice none 0 0, .slice none 0 0] 78, box b2 #[.slice A0_0 x0_.f0.length c0_0, .slice A0_1 x0_.f1.length c0_1] 36] → Rd T_api_Node.k F277 A265 c266 l267 → Rd T_api_Temp.k F277 A269 c270 l271 → Rd T_api_Trail.k F277 A273 c274 l275 → Rd (Kn.int .i64) F277 A0_0 c0_0 x0_.f0 → Rd Kn.string F277 A0_1 c0_1 x0_.f1 → windroseref27_ReadMap.j278 kq279 t9 t12 t15 t18 y264 l267 l271 l275 = some r → K239 a w' := by
                            intro kq279 hkq G y264 A265 c266 l267 A269 c270 l271 A273 c274 l275 F277 a u282 hE hA hS g268 g272 g276 g0_0 g0_1 H
                            cases kq279 with
                            | zero => cases (show none = some r from H)
                            | succ k280 =>
                              rw [windroseref27_ReadMap.j278_s] at H
                              obtain ⟨J, hE⟩ := hE.at hA
                              refine hK239 _ _ ?_
                              by_cases c283 : y264 = true
                              · rw [if_pos c283] at H
                                replace hE := hE.bt 165 c283
                                refine ct hE ?_
                                refine wp_seq_k fun K284 hK284 => ?_
                                refine pl0 ?_
                                refine plc hE (.r 0 1 .nil) (fun a hE => ?_)
                                replace hS := hS.front 1 rfl
                                refine ple hE (.sto hS [.int .i64 0, .int .i64 0, .int .i64 0, .int .i64 0, .slice none 0 0, .slice none 0 0, .slice none 0 0]) ?_
                                rintro _ u285 a ⟨rfl, hb4, hS, hz⟩ hE
                                refine plc hE (.r 2 1 .nil) (fun a hE => ?_)
                                refine pld ?_
                                refine hK284 _ _ ?_
                                refine wp_ret (then_ret ?_)
                                replace hS := hS.tail
                                replace hS := hS.tail
                                replace hS := hS.tail
                                obtain rfl := Option.some.inj H
                                exact retN hE rfl (of_decide_eq_true rfl) (.cell (by kernel_rfl) (res_blk [.int .i64 0, .int .i64 0, .int .i64 0, .int .i64 0, .slice none 0 0, .slice none 0 0, .slice none 0 0] ag78 sz78 hb4 rfl) (.tmp (by kernel_rfl) .nil)) ⟨_, rfl, _, _, _, _, _, _, _, rfl, hS, (Rd.nil _ _), (Rd.nil _ _), (Rd.nil _ _)⟩
                              · rw [if_neg c283] at H
                                replace hE := hE.bf 165 c283
                                refine cf hE ?_
                                refine wp_skip ?_
                                refine hK238 _ _ ?_
                                refine wp_seq_k fun K292 hK292 => ?_
                                refine pl0 ?_
                                have hb20 := hS.blk_at (i := 0) rfl
                                refine plc hE (.bn 0 0 7 hb20 .nil) (fun a hE => ?_)
                                replace hS := hS.front 1 rfl
                                refine ple hE (.sto hS [.int .i64 t9, .int .i64 t12, .int .i64 t15, .int .i64 t18, .slice A265 l267.length c266, .slice A269 l271.length c270, .slice A273 l275.length c274]) ?_
                                rintro _ u293 a ⟨rfl, hb4, hS, hz⟩ hE
                                refine plc hE (.r 2 1 .nil) (fun a hE => ?_)
                                refine pld ?_
                                refine hK292 _ _ ?_
                                refine wp_ret ?_
                                replace hS := hS.tail
                                replace hS := hS.tail
                                replace hS := hS.tail
                                obtain rfl := Option.some.inj H
                                exact retN hE rfl (of_decide_eq_true rfl) (.cell (by kernel_rfl) (res_blk [.int .i64 t9, .int .i64 t12, .int .i64 t15, .int .i64 t18, .slice A265 l267.length c266, .slice A269 l271.length c270, .slice A273 l275.length c274] ag78 sz78 hb4 rfl) (.tmp (by kernel_rfl) .nil)) ⟨_, rfl, _, _, _, _, _, _, _, rfl, hS, g268, g272, g276⟩
                          refine drawn 10 ⟨[], [], fun q => False⟩ mixed rfl (by kernel_rfl) (fun hst => ?_)
                          replace hS := hS.drew
                          have hb20 := hS.blk_at (i := 0) rfl
                          refine mny 9 hst hE (.bn 0 0 7 hb20 .nil) (fun a hE => ?_)
                          obtain ⟨t241, h242, H⟩ := Option.bind_eq_some_iff.mp H
                          refine on1 1 hE (.cl en33 (windroseref08_May.calls k156 (⟨t9, t12, t15, t18, l31, l91, l144⟩ : T_api_Map) _ _ _ _ _ _ _ _ _ (Sub.refl _) (hS.rd_at (i := 3) rfl) (hS.rd_at (i := 4) rfl) (hS.rd_at (i := 5) rfl) h242)) ?_
                          rintro _ u240 a ⟨_, rfl, hC⟩ hE
                          refine ⟨.of hC.agr, ?_⟩
                          replace hS := hS.lent hC
                          refine mny 6 hst hE (.r 2 2 .nil) (fun a hE => ?_)
                          by_cases c243 : t241 = true
                          · rw [if_pos c243] at H
                            replace hE := hE.btn 159 c243
                            have hb20 := hS.blk_at (i := 0) rfl
                            have hb2 := hS.blk_at (i := 2) rfl
                            refine mny 4 hst hE (.bn 4 0 7 hb20 <| .bn 6 0 2 hb2 <| .nil) (fun a hE => ?_)
                            replace hS := hS.front 3 rfl
                            obtain ⟨F244, hs, g245, hS⟩ := hS.give
                            replace g0_0 := g0_0.mono hs
                            replace g0_1 := g0_1.mono hs
                            replace hS := hS.front 3 rfl
                            obtain ⟨F246, hs, g247, hS⟩ := hS.give
                            replace g0_0 := g0_0.mono hs
                            replace g245 := g245.mono hs
                            replace g0_1 := g0_1.mono hs
                            replace hS := hS.front 3 rfl
                            obtain ⟨F248, hs, g249, hS⟩ := hS.give
                            replace g0_0 := g0_0.mono hs
                            replace g245 := g245.mono hs
                            replace g247 := g247.mono hs
                            replace g0_1 := g0_1.mono hs
                            obtain ⟨t251, h252, H⟩ := Option.bind_eq_some_iff.mp H
                            refine on1 5 hE (.cl en34 (windroseref27_Map.calls k156 (⟨t9, t12, t15, t18, l31, l91, l144⟩ : T_api_Map) _ _ _ _ _ _ _ _ _ hS.own.sub g245 g247 g249 h252)) ?_
                            rintro _ u250 a ⟨F253, A254, c255, A258, c259, rfl, hC, g260⟩ hE
                            refine ⟨.of hC.agr, ?_⟩
                            have hs := hC.sub
                            replace hS := hS.called (X := []) hC
                            replace g0_0 := g0_0.mono hs
                            replace g245 := g245.mono hs
                            replace g247 := g247.mono hs
                            replace g249 := g249.mono hs
                            replace g0_1 := g0_1.mono hs
                            obtain ⟨t262, h263, H⟩ := Option.bind_eq_some_iff.mp H
                            refine on1 7 hE (.cl en22 (windroseref02_Same.calls k156 t251 x0_ _ _ _ _ _ _ _ _ _ _ _ (Sub.refl _) (hS.rd_at (i := 0) rfl) (g260.mono hS.own.sub) (g0_0.mono hS.own.sub) (g0_1.mono hS.own.sub) h263)) ?_
                            rintro _ u261 a ⟨_, rfl, hC⟩ hE
                            refine ⟨.of hC.agr, ?_⟩
                            replace hS := hS.lent hC
                            refine mny 0 hst hE (.r 8 2 .nil) (fun a hE => ?_)
                            refine dn ?_
                            replace hS := hS.tail
                            exact J281 _ (by omega) _ (!t262) A29 c30 l31 A89 c90 l91 A142 c143 l144 F253 _ _ hE .of hS g245 g247 g249 g0_0 g0_1 H
                          · rw [if_neg c243] at H
                            replace hE := hE.bfn 159 c243
                            refine mny 0 hst hE (.r 4 6 .nil) (fun a hE => ?_)
                            refine dn ?_
                            replace hS := hS.front 3 rfl
                            obtain ⟨F286, hs, g287, hS⟩ := hS.give
                            replace g0_0 := g0_0.mono hs
                            replace g0_1 := g0_1.mono hs
                            replace hS := hS.front 3 rfl
                            obtain ⟨F288, hs, g289, hS⟩ := hS.give
                            replace g0_0 := g0_0.mono hs
                            replace g287 := g287.mono hs
                            replace g0_1 := g0_1.mono hs
                            replace hS := hS.front 3 rfl
                            obtain ⟨F290, hs, g291, hS⟩ := hS.give
                            replace g0_0 := g0_0.mono hs
                            replace g287 := g287.mono hs
                            replace g289 := g289.mono hs
                            replace g0_1 := g0_1.mono hs
                            exact J281 _ (by omega) _ true A29 c30 l31 A89 c90 l91 A142 c143 l144 F290 _ _ hE .of hS g287 g289 g291 g0_0 g0_1 H
                    refine pl0 ?_
                    have hb20 := hS.blk_at (i := 0) rfl
                    refine plc hE (.r 0 2 <| .b 2 3 hb20 <| .r 3 2 <| .nil) (fun a hE => ?_)
                    by_cases c152 : x141 < t18
                    · rw [if_pos c152] at H
                      replace hE := hE.kt 105 c152
                      refine plc hE (.r 5 3 .nil) (fun a hE => ?_)
                      refine pld ?_
                      exact J157 _ (by omega) _ (decide (x141 < 8)) _ _ hE .of hS H
                    · rw [if_neg c152] at H
                      replace hE := hE.kf 105 c152
                      refine plc hE (.r 5 3 .nil) (fun a hE => ?_)
                      refine pld ?_
                      exact J157 _ (by omega) _ false _ _ hE .of hS H
            refine pl0 ?_
            refine plc hE (.r 0 4 .nil) (fun a hE => ?_)
            by_cases c99 : x88 < t81
            · rw [if_pos c99] at H
              replace hE := hE.kt 77 c99
              refine plc hE (.r 4 3 .nil) (fun a hE => ?_)
              refine pld ?_
              exact J104 _ (by omega) _ (decide (x88 < 20)) _ _ hE .of hS H
            · rw [if_neg c99] at H
              replace hE := hE.kf 77 c99
              refine plc hE (.r 4 3 .nil) (fun a hE => ?_)
              refine pld ?_
              exact J104 _ (by omega) _ false _ _ hE .of hS H
    refine pl0 ?_
    refine plc hE (.r 0 2 .nil) (fun a hE => ?_)
    obtain ⟨t39, h40, H⟩ := Option.bind_eq_some_iff.mp H
    refine ple hE (.cl en69 (windroseref27_take.calls x0_.f0 4 _ _ _ _ _ hS.own.sub g0_0 h40)) ?_
    rintro _ u38 a ⟨_, rfl, hC⟩ hE
    replace hS := hS.lent hC
    refine plc hE (.r 3 2 .nil) (fun a hE => ?_)
    by_cases c41 : x28 < t39
    · rw [if_pos c41] at H
      replace hE := hE.kt 30 c41
      refine plc hE (.r 5 3 .nil) (fun a hE => ?_)
      refine pld ?_
      exact J46 _ (by omega) _ (decide (x28 < 20)) _ _ hE .of hS H
    · rw [if_neg c41] at H
      replace hE := hE.kf 30 c41
      refine plc hE (.r 5 3 .nil) (fun a hE => ?_)
      refine pld ?_
      exact J46 _ (by omega) _ false _ _ hE .of hS H

/-! ### windrose/windroseref06.Same: function 71 -/
def windroseref06_Same.l9 : Nat → List T_api_Node → List T_api_Node → Int → Option Bool
  | 0, _, _, _ => none
  | k + 1, x0_, x1_, x8 => if x8 < (x0_.length : Int) then (if 0 ≤ x8 ∧ x8 < (x0_.length : Int) then (if 0 ≤ x8 ∧ x8 < (x1_.length : Int) then (if (⟨(nth T_api_Node.z x0_ x8).f0, (nth T_api_Node.z x0_ x8).f1, (nth T_api_Node.z x0_ x8).f2, (nth T_api_Node.z x0_ x8).f3, (nth T_api_Node.z x0_ x8).f4, (nth T_api_Node.z x0_ x8).f5⟩ : T_api_Node) = (⟨(nth T_api_Node.z x1_ x8).f0, (nth T_api_Node.z x1_ x8).f1, (nth T_api_Node.z x1_ x8).f2, (nth T_api_Node.z x1_ x8).f3, (nth T_api_Node.z x1_ x8).f4, (nth T_api_Node.z x1_ x8).f5⟩ : T_api_Node) then (windroseref06_Same.l9 k x0_ x1_ (w64 (x8 + 1))) else (some false)) else (none)) else (none)) else (some true)
theorem windroseref06_Same.l9_s (k : Nat) (x0_ : List T_api_Node) (x1_ : List T_api_Node) (x8 : Int) : windroseref06_Same.l9 (k + 1) x0_ x1_ x8 = (if x8 < (x0_.length : Int) then (if 0 ≤ x8 ∧ x8 < (x0_.length : Int) then (if 0 ≤ x8 ∧ x8 < (x1_.length : Int) then (if (⟨(nth T_api_Node.z x0_ x8).f0, (nth T_api_Node.z x0_ x8).f1, (nth T_api_Node.z x0_ x8).f2, (nth T_api_Node.z x0_ x8).f3, (nth T_api_Node.z x0_ x8).f4, (nth T_api_Node.z x0_ x8).f5⟩ : T_api_Node) = (⟨(nth T_api_Node.z x1_ x8).f0, (nth T_api_Node.z x1_ x8).f1, (nth T_api_Node.z x1_ x8).f2, (nth T_api_Node.z x1_ x8).f3, (nth T_api_Node.z x1_ x8).f4, (nth T_api_Node.z x1_ x8).f5⟩ : T_api_Node) then (windroseref06_Same.l9 k x0_ x1_ (w64 (x8 + 1))) else (some false)) else (none)) else (none)) else (some true)) := by kernel_rfl
def windroseref06_Same.f (k : Nat) (x0_ : List T_api_Node) (x1_ : List T_api_Node) : Option Bool := if (x0_.length : Int) = (x1_.length : Int) then (windroseref06_Same.l9 k x0_ x1_ 0) else (some false)
def windroseref06_Same.Post (W F : World) (r : Bool) (v : Value) (w' : World) : Prop := ∃ (F' : World), v = .bool r ∧ St W (mine W []) F w' F' []
set_option maxHeartbeats 4000000 in
set_option maxRecDepth 100000 in
theorem windroseref06_Same.calls (k : Nat) (x0_ : List T_api_Node) (x1_ : List T_api_Node) (A0_0 : Option Addr) (c0_0 : Nat) (A1_0 : Option Addr) (c1_0 : Nat) (r : Bool) (W F : World) (hown : Sub F W) (g0_0 : Rd T_api_Node.k F A0_0 c0_0 x0_) (g1_0 : Rd T_api_Node.k F A1_0 c1_0 x1_) (H : windroseref06_Same.f k x0_ x1_ = some r) :
    Calls Try.prog 71 #[.slice A0_0 x0_.length c0_0, .slice A1_0 x1_.length c1_0] W fun e w' => ∃ v, e = .returned v ∧ windroseref06_Same.Post W F r v w' := by
  have hS := St.start (Own.nil hown)
  unfold windroseref06_Same.f at H
  refine enter (n := 26) rfl rfl rfl (Nat.le_of_ble_eq_true rfl) (fun a hE => ?_)
  refine wp_seq_k fun K1 hK1 => ?_
  refine pl0 ?_
  refine plc hE (.r 0 1 .nil) (fun a hE => ?_)
  refine pld ?_
  refine hK1 _ _ ?_
  refine wp_seq_k fun K2 hK2 => ?_
  refine wp_seq_k fun K3 hK3 => ?_
  refine pl0 ?_
  refine plc hE (.r 0 5 .nil) (fun a hE => ?_)
  refine pld ?_
  refine hK3 _ _ ?_
  by_cases c4 : (x0_.length : Int) = (x1_.length : Int)
  · rw [if_pos c4] at H
    replace hE := hE.ktn 10 c4
    refine cf hE ?_
    refine wp_skip ?_
    refine hK2 _ _ ?_
    refine wp_seq_k fun K6 hK6 => ?_
    refine wp_seq_k fun K7 hK7 => ?_
    refine pl0 ?_
    refine plc hE (.r 0 1 .nil) (fun a hE => ?_)
    refine pld ?_
    refine hK7 _ _ ?_
    refine wp_block ?_
    refine wp_loop_ghost (fun kq10 a w' => ∃ (G : Nat → Value) (x8 : Int), kq10 ≤ k ∧ Env 26 G a ∧ At G [(0, .slice A0_0 x0_.length c0_0), (1, .slice A1_0 x1_.length c1_0), (5, .int .i64 x8)] ∧ St W (mine W []) F w' F [] ∧  windroseref06_Same.l9 kq10 x0_ x1_ x8 = some r) k ⟨_, 0, Nat.le_refl _, hE, .of, hS, H⟩ ?_
    rintro kq10 a u12 ⟨G, x8, hkq, hE, hA, hS, H⟩
    cases kq10 with
    | zero => cases (show none = some r from H)
    | succ k11 =>
      rw [windroseref06_Same.l9_s] at H
      obtain ⟨J, hE⟩ := hE.at hA
      refine wp_seq_k fun K13 hK13 => ?_
      refine wp_seq_k fun K14 hK14 => ?_
      refine pl0 ?_
      refine plc hE (.r 0 4 .nil) (fun a hE => ?_)
      refine pld ?_
      refine hK14 _ _ ?_
      by_cases c15 : x8 < (x0_.length : Int)
      · rw [if_pos c15] at H
        replace hE := hE.kt 14 c15
        refine ct hE ?_
        refine wp_skip ?_
        refine hK13 _ _ ?_
        refine wp_seq_k fun K16 hK16 => ?_
        refine wp_block ?_
        refine wp_seq_k fun K17 hK17 => ?_
        refine drawn 9 ⟨[], [], fun q => False⟩ mixed rfl (by kernel_rfl) (fun hst => ?_)
        replace hS := hS.drew
        by_cases c18 : 0 ≤ x8 ∧ x8 < (x0_.length : Int)
        rotate_left
        · rw [if_neg c18] at H; cases H
        rw [if_pos c18] at H
        have hE_ := hE
        obtain ⟨ad19, rfl⟩ := g0_0.addr c18.1 c18.2
        replace hE := hE_
        obtain ⟨cs21, rfl, hc22⟩ := g0_0.el T_api_Node.z x8 c18.1 c18.2
        by_cases c23 : 0 ≤ x8 ∧ x8 < (x1_.length : Int)
        rotate_left
        · rw [if_neg c23] at H; cases H
        rw [if_pos c23] at H
        have hE_ := hE
        obtain ⟨ad24, rfl⟩ := g1_0.addr c23.1 c23.2
        replace hE := hE_
        obtain ⟨cs26, rfl, hc27⟩ := g1_0.el T_api_Node.z x8 c23.1 c23.2
        refine mny 0 hst hE (.r 0 2 <| .x 2 c18 <| .cs 3 (hS.fcs hc22) <| .r 4 2 <| .x 6 c23 <| .cs 7 (hS.fcs hc27) <| .y 8 (y_nes (fun w => eqs102 (⟨(nth T_api_Node.z x0_ x8).f0, (nth T_api_Node.z x0_ x8).f1, (nth T_api_Node.z x0_ x8).f2, (nth T_api_Node.z x0_ x8).f3, (nth T_api_Node.z x0_ x8).f4, (nth T_api_Node.z x0_ x8).f5⟩ : T_api_Node) (⟨(nth T_api_Node.z x1_ x8).f0, (nth T_api_Node.z x1_ x8).f1, (nth T_api_Node.z x1_ x8).f2, (nth T_api_Node.z x1_ x8).f3, (nth T_api_Node.z x1_ x8).f4, (nth T_api_Node.z x1_ x8).f5⟩ : T_api_Node) w 9998)) <| .nil) (fun a hE => ?_)
        refine dn ?_
        refine hK17 _ _ ?_
        by_cases c28 : (⟨(nth T_api_Node.z x0_ x8).f0, (nth T_api_Node.z x0_ x8).f1, (nth T_api_Node.z x0_ x8).f2, (nth T_api_Node.z x0_ x8).f3, (nth T_api_Node.z x0_ x8).f4, (nth T_api_Node.z x0_ x8).f5⟩ : T_api_Node) = (⟨(nth T_api_Node.z x1_ x8).f0, (nth T_api_Node.z x1_ x8).f1, (nth T_api_Node.z x1_ x8).f2, (nth T_api_Node.z x1_ x8).f3, (nth T_api_Node.z x1_ x8).f4, (nth T_api_Node.z x1_ x8).f5⟩ : T_api_Node)
        · rw [if_pos c28] at H
          replace hE := hE.ktn 25 c28
          refine cf hE ?_
          refine wp_skip ?_
          refine hK16 _ _ ?_
          refine pl0 ?_
          refine plc hE (.r 0 3 .nil) (fun a hE => ?_)
          refine pld ?_
          exact then_n ⟨k11, by omega, _, (w64 (x8 + 1)), by omega, hE, .of, hS, H⟩
        · rw [if_neg c28] at H
          replace hE := hE.kfn 25 c28
          refine ct hE ?_
          refine wp_seq_k fun K29 hK29 => ?_
          refine pl0 ?_
          refine plc hE (.r 0 1 .nil) (fun a hE => ?_)
          refine pld ?_
          refine hK29 _ _ ?_
          refine wp_ret (block_ret (then_ret (then_ret (block_ret (then_ret ?_)))))
          obtain rfl := Option.some.inj H
          exact rt1 hE ⟨_, rfl, _, rfl, hS⟩
      · rw [if_neg c15] at H
        replace hE := hE.kf 14 c15
        refine cf hE ?_
        refine wp_exit ?_
        refine hK6 _ _ ?_
        refine wp_seq_k fun K30 hK30 => ?_
        refine pl0 ?_
        refine plc hE (.r 0 1 .nil) (fun a hE => ?_)
        refine pld ?_
        refine hK30 _ _ ?_
        refine wp_ret ?_
        obtain rfl := Option.some.inj H
        exact rt1 hE ⟨_, rfl, _, rfl, hS⟩
  · rw [if_neg c4] at H
    replace hE := hE.kfn 10 c4
    refine ct hE ?_
    refine wp_seq_k fun K5 hK5 => ?_
    refine pl0 ?_
    refine plc hE (.r 0 1 .nil) (fun a hE => ?_)
    refine pld ?_
    refine hK5 _ _ ?_
    refine wp_ret (then_ret ?_)
    obtain rfl := Option.some.inj H
    exact rt1 hE ⟨_, rfl, _, rfl, hS⟩

/-! ### windrose/windroseref08.Spans: function 95 -/
mutual
def windroseref08_Spans.l9 : Nat → List T_api_Span → List T_api_Span → Int → Option Bool
  | 0, _, _, _ => none
  | k + 1, x0_, x1_, x8 => if x8 < (x0_.length : Int) then (if 0 ≤ x8 ∧ x8 < (x0_.length : Int) then (if 0 ≤ x8 ∧ x8 < (x1_.length : Int) then (if (nth T_api_Span.z x0_ x8).f0 = (nth T_api_Span.z x1_ x8).f0 then ((windroseref02_Ints.f k ((nth T_api_Span.z x0_ x8).f1) ((nth T_api_Span.z x1_ x8).f1)).bind fun t42 => (windroseref08_Spans.j45 k x0_ x1_ x8 (!t42))) else (windroseref08_Spans.j45 k x0_ x1_ x8 true)) else (none)) else (none)) else (some true)
def windroseref08_Spans.j45 : Nat → List T_api_Span → List T_api_Span → Int → Bool → Option Bool
  | 0, _, _, _, _ => none
  | k + 1, x0_, x1_, x8, y44 => if y44 = true then (some false) else (windroseref08_Spans.l9 k x0_ x1_ (w64 (x8 + 1)))
end
theorem windroseref08_Spans.l9_s (k : Nat) (x0_ : List T_api_Span) (x1_ : List T_api_Span) (x8 : Int) : windroseref08_Spans.l9 (k + 1) x0_ x1_ x8 = (if x8 < (x0_.length : Int) then (if 0 ≤ x8 ∧ x8 < (x0_.length : Int) then (if 0 ≤ x8 ∧ x8 < (x1_.length : Int) then (if (nth T_api_Span.z x0_ x8).f0 = (nth T_api_Span.z x1_ x8).f0 then ((windroseref02_Ints.f k ((nth T_api_Span.z x0_ x8).f1) ((nth T_api_Span.z x1_ x8).f1)).bind fun t42 => (windroseref08_Spans.j45 k x0_ x1_ x8 (!t42))) else (windroseref08_Spans.j45 k x0_ x1_ x8 true)) else (none)) else (none)) else (some true)) := by kernel_rfl
theorem windroseref08_Spans.j45_s (k : Nat) (x0_ : List T_api_Span) (x1_ : List T_api_Span) (x8 : Int) (y44 : Bool) : windroseref08_Spans.j45 (k + 1) x0_ x1_ x8 y44 = (if y44 = true then (some false) else (windroseref08_Spans.l9 k x0_ x1_ (w64 (x8 + 1)))) := by kernel_rfl
def windroseref08_Spans.f (k : Nat) (x0_ : List T_api_Span) (x1_ : List T_api_Span) : Option Bool := if (x0_.length : Int) = (x1_.length : Int) then (windroseref08_Spans.l9 k x0_ x1_ 0) else (some false)
def windroseref08_Spans.Post (W F : World) (r : Bool) (v : Value) (w' : World) : Prop := ∃ (F' : World), v = .bool r ∧ St W (mine W []) F w' F' []
set_option maxHeartbeats 4000000 in
set_option maxRecDepth 100000 in
theorem windroseref08_Spans.calls (k : Nat) (x0_ : List T_api_Span) (x1_ : List T_api_Span) (A0_0 : Option Addr) (c0_0 : Nat) (A1_0 : Option Addr) (c1_0 : Nat) (r : Bool) (W F : World) (hown : Sub F W) (g0_0 : Rd T_api_Span.k F A0_0 c0_0 x0_) (g1_0 : Rd T_api_Span.k F A1_0 c1_0 x1_) (H : windroseref08_Spans.f k x0_ x1_ = some r) :
    Calls Try.prog 95 #[.slice A0_0 x0_.length c0_0, .slice A1_0 x1_.length c1_0] W fun e w' => ∃ v, e = .returned v ∧ windroseref08_Spans.Post W F r v w' := by
  have hS := St.start (Own.nil hown)
  unfold windroseref08_Spans.f at H
  refine enter (n := 42) rfl rfl rfl (Nat.le_of_ble_eq_true rfl) (fun a hE => ?_)
  refine wp_seq_k fun K1 hK1 => ?_
  refine pl0 ?_
  refine plc hE (.r 0 1 .nil) (fun a hE => ?_)
  refine pld ?_
  refine hK1 _ _ ?_
  refine wp_seq_k fun K2 hK2 => ?_
  refine wp_seq_k fun K3 hK3 => ?_
  refine pl0 ?_
  refine plc hE (.r 0 5 .nil) (fun a hE => ?_)
  refine pld ?_
  refine hK3 _ _ ?_
  by_cases c4 : (x0_.length : Int) = (x1_.length : Int)
  · rw [if_pos c4] at H
    replace hE := hE.ktn 10 c4
    refine cf hE ?_
    refine wp_skip ?_
    refine hK2 _ _ ?_
    refine wp_seq_k fun K6 hK6 => ?_
    refine wp_seq_k fun K7 hK7 => ?_
    refine pl0 ?_
    refine plc hE (.r 0 1 .nil) (fun a hE => ?_)
    refine pld ?_
    refine hK7 _ _ ?_
    refine wp_block ?_
    refine wp_loop_ghost (fun kq10 a w' => ∃ (G : Nat → Value) (x8 : Int), kq10 ≤ k ∧ Env 42 G a ∧ At G [(0, .slice A0_0 x0_.length c0_0), (1, .slice A1_0 x1_.length c1_0), (5, .int .i64 x8)] ∧ St W (mine W []) F w' F [] ∧  windroseref08_Spans.l9 kq10 x0_ x1_ x8 = some r) k ⟨_, 0, Nat.le_refl _, hE, .of, hS, H⟩ ?_
    rintro kq10 a u12 ⟨G, x8, hkq, hE, hA, hS, H⟩
    cases kq10 with
    | zero => cases (show none = some r from H)
    | succ k11 =>
      rw [windroseref08_Spans.l9_s] at H
      obtain ⟨J, hE⟩ := hE.at hA
      refine wp_seq_k fun K13 hK13 => ?_
      refine wp_seq_k fun K14 hK14 => ?_
      refine pl0 ?_
      refine plc hE (.r 0 4 .nil) (fun a hE => ?_)
      refine pld ?_
      refine hK14 _ _ ?_
      by_cases c15 : x8 < (x0_.length : Int)
      · rw [if_pos c15] at H
        replace hE := hE.kt 14 c15
        refine ct hE ?_
        refine wp_skip ?_
        refine hK13 _ _ ?_
        refine wp_seq_k fun K16 hK16 => ?_
        refine wp_block ?_
        refine wp_seq_k fun K17 hK17 => ?_
        have J48 : ∀ kq46, kq46 ≤ k11 → ∀ (G : Nat → Value) (y44 : Bool) (a : Act) (w' : World), Env 42 G a → At G [(0, .slice A0_0 x0_.length c0_0), (1, .slice A1_0 x1_.length c1_0), (5, .int .i64 x8), (41, .bool y44)] → St W (mine W []) F w' F [] → windroseref08_Spans.j45 kq46 x0_ x1_ x8 y44 = some r → K17 a w' := by
          intro kq46 hkq G y44 a u49 hE hA hS H
          cases kq46 with
          | zero => cases (show none = some r from H)
          | succ k47 =>
            rw [windroseref08_Spans.j45_s] at H
            obtain ⟨J, hE⟩ := hE.at hA
            refine hK17 _ _ ?_
            by_cases c50 : y44 = true
            · rw [if_pos c50] at H
              replace hE := hE.bt 41 c50
              refine ct hE ?_
              refine wp_seq_k fun K51 hK51 => ?_
              refine pl0 ?_
              refine plc hE (.r 0 1 .nil) (fun a hE => ?_)
              refine pld ?_
              refine hK51 _ _ ?_
              refine wp_ret (block_ret (then_ret (then_ret (block_ret (then_ret ?_)))))
              obtain rfl := Option.some.inj H
              exact rt1 hE ⟨_, rfl, _, rfl, hS⟩
            · rw [if_neg c50] at H
              replace hE := hE.bf 41 c50
              refine cf hE ?_
              refine wp_skip ?_
              refine hK16 _ _ ?_
              refine pl0 ?_
              refine plc hE (.r 0 3 .nil) (fun a hE => ?_)
              refine pld ?_
              exact then_n ⟨k47, by omega, _, (w64 (x8 + 1)), by omega, hE, .of, hS, H⟩
        refine drawn 25 ⟨[], [], fun q => False⟩ mixed rfl (by kernel_rfl) (fun hst => ?_)
        replace hS := hS.drew
        by_cases c18 : 0 ≤ x8 ∧ x8 < (x0_.length : Int)
        rotate_left
        · rw [if_neg c18] at H; cases H
        rw [if_pos c18] at H
        have hE_ := hE
        obtain ⟨ad19, rfl⟩ := g0_0.addr c18.1 c18.2
        replace hE := hE_
        obtain ⟨cs21, ⟨A23, c24, rfl, g25⟩, hc22⟩ := g0_0.el T_api_Span.z x8 c18.1 c18.2
        by_cases c26 : 0 ≤ x8 ∧ x8 < (x1_.length : Int)
        rotate_left
        · rw [if_neg c26] at H; cases H
        rw [if_pos c26] at H
        have hE_ := hE
        obtain ⟨ad27, rfl⟩ := g1_0.addr c26.1 c26.2
        replace hE := hE_
        obtain ⟨cs29, ⟨A31, c32, rfl, g33⟩, hc30⟩ := g1_0.el T_api_Span.z x8 c26.1 c26.2
        refine mny 13 hst hE (.r 0 2 <| .x 2 c18 <| .r 3 1 <| .c 4 (hS.fc hc22 0) <| .r 5 2 <| .x 7 c26 <| .r 8 1 <| .c 9 (hS.fc hc30 0) <| .r 10 2 <| .nil) (fun a hE => ?_)
        by_cases c34 : (nth T_api_Span.z x0_ x8).f0 = (nth T_api_Span.z x1_ x8).f0
        · rw [if_pos c34] at H
          replace hE := hE.ktn 28 c34
          refine mny 3 hst hE (.r 12 2 <| .x 14 c18 <| .r 15 1 <| .c 16 (hS.fc hc22 1) <| .r 17 2 <| .x 19 c26 <| .r 20 1 <| .c 21 (hS.fc hc30 1) <| .nil) (fun a hE => ?_)
          obtain ⟨t42, h43, H⟩ := Option.bind_eq_some_iff.mp H
          refine on1 22 hE (.cl en44 (windroseref02_Ints.calls k11 ((nth T_api_Span.z x0_ x8).f1) ((nth T_api_Span.z x1_ x8).f1) _ _ _ _ _ _ _ hS.own.sub g25 g33 h43)) ?_
          rintro _ u41 a ⟨_, rfl, hC⟩ hE
          refine ⟨.of hC.agr, ?_⟩
          replace hS := hS.lent hC
          refine mny 0 hst hE (.r 23 2 .nil) (fun a hE => ?_)
          refine dn ?_
          exact J48 _ (by omega) _ (!t42) _ _ hE .of hS H
        · rw [if_neg c34] at H
          replace hE := hE.kfn 28 c34
          refine mny 0 hst hE (.r 12 13 .nil) (fun a hE => ?_)
          refine dn ?_
          exact J48 _ (by omega) _ true _ _ hE .of hS H
      · rw [if_neg c15] at H
        replace hE := hE.kf 14 c15
        refine cf hE ?_
        refine wp_exit ?_
        refine hK6 _ _ ?_
        refine wp_seq_k fun K52 hK52 => ?_
        refine pl0 ?_
        refine plc hE (.r 0 1 .nil) (fun a hE => ?_)
        refine pld ?_
        refine hK52 _ _ ?_
        refine wp_ret ?_
        obtain rfl := Option.some.inj H
        exact rt1 hE ⟨_, rfl, _, rfl, hS⟩
  · rw [if_neg c4] at H
    replace hE := hE.kfn 10 c4
    refine ct hE ?_
    refine wp_seq_k fun K5 hK5 => ?_
    refine pl0 ?_
    refine plc hE (.r 0 1 .nil) (fun a hE => ?_)
    refine pld ?_
    refine hK5 _ _ ?_
    refine wp_ret (then_ret ?_)
    obtain rfl := Option.some.inj H
    exact rt1 hE ⟨_, rfl, _, rfl, hS⟩

/-! ### windrose/windroseref08.trails: function 72 -/
mutual
def windroseref08_trails.l9 : Nat → List T_api_Trail → List T_api_Trail → Int → Option Bool
  | 0, _, _, _ => none
  | k + 1, x0_, x1_, x8 => if x8 < (x0_.length : Int) then (if 0 ≤ x8 ∧ x8 < (x0_.length : Int) then (if 0 ≤ x8 ∧ x8 < (x1_.length : Int) then (if (nth T_api_Trail.z x0_ x8).f0 = (nth T_api_Trail.z x1_ x8).f0 then ((windroseref08_Spans.f k ((nth T_api_Trail.z x0_ x8).f1) ((nth T_api_Trail.z x1_ x8).f1)).bind fun t42 => (windroseref08_trails.j45 k x0_ x1_ x8 (!t42))) else (windroseref08_trails.j45 k x0_ x1_ x8 true)) else (none)) else (none)) else (some true)
def windroseref08_trails.j45 : Nat → List T_api_Trail → List T_api_Trail → Int → Bool → Option Bool
  | 0, _, _, _, _ => none
  | k + 1, x0_, x1_, x8, y44 => if y44 = true then (some false) else (windroseref08_trails.l9 k x0_ x1_ (w64 (x8 + 1)))
end
theorem windroseref08_trails.l9_s (k : Nat) (x0_ : List T_api_Trail) (x1_ : List T_api_Trail) (x8 : Int) : windroseref08_trails.l9 (k + 1) x0_ x1_ x8 = (if x8 < (x0_.length : Int) then (if 0 ≤ x8 ∧ x8 < (x0_.length : Int) then (if 0 ≤ x8 ∧ x8 < (x1_.length : Int) then (if (nth T_api_Trail.z x0_ x8).f0 = (nth T_api_Trail.z x1_ x8).f0 then ((windroseref08_Spans.f k ((nth T_api_Trail.z x0_ x8).f1) ((nth T_api_Trail.z x1_ x8).f1)).bind fun t42 => (windroseref08_trails.j45 k x0_ x1_ x8 (!t42))) else (windroseref08_trails.j45 k x0_ x1_ x8 true)) else (none)) else (none)) else (some true)) := by kernel_rfl
theorem windroseref08_trails.j45_s (k : Nat) (x0_ : List T_api_Trail) (x1_ : List T_api_Trail) (x8 : Int) (y44 : Bool) : windroseref08_trails.j45 (k + 1) x0_ x1_ x8 y44 = (if y44 = true then (some false) else (windroseref08_trails.l9 k x0_ x1_ (w64 (x8 + 1)))) := by kernel_rfl
def windroseref08_trails.f (k : Nat) (x0_ : List T_api_Trail) (x1_ : List T_api_Trail) : Option Bool := if (x0_.length : Int) = (x1_.length : Int) then (windroseref08_trails.l9 k x0_ x1_ 0) else (some false)
def windroseref08_trails.Post (W F : World) (r : Bool) (v : Value) (w' : World) : Prop := ∃ (F' : World), v = .bool r ∧ St W (mine W []) F w' F' []
set_option maxHeartbeats 4000000 in
set_option maxRecDepth 100000 in
theorem windroseref08_trails.calls (k : Nat) (x0_ : List T_api_Trail) (x1_ : List T_api_Trail) (A0_0 : Option Addr) (c0_0 : Nat) (A1_0 : Option Addr) (c1_0 : Nat) (r : Bool) (W F : World) (hown : Sub F W) (g0_0 : Rd T_api_Trail.k F A0_0 c0_0 x0_) (g1_0 : Rd T_api_Trail.k F A1_0 c1_0 x1_) (H : windroseref08_trails.f k x0_ x1_ = some r) :
    Calls Try.prog 72 #[.slice A0_0 x0_.length c0_0, .slice A1_0 x1_.length c1_0] W fun e w' => ∃ v, e = .returned v ∧ windroseref08_trails.Post W F r v w' := by
  have hS := St.start (Own.nil hown)
  unfold windroseref08_trails.f at H
  refine enter (n := 42) rfl rfl rfl (Nat.le_of_ble_eq_true rfl) (fun a hE => ?_)
  refine wp_seq_k fun K1 hK1 => ?_
  refine pl0 ?_
  refine plc hE (.r 0 1 .nil) (fun a hE => ?_)
  refine pld ?_
  refine hK1 _ _ ?_
  refine wp_seq_k fun K2 hK2 => ?_
  refine wp_seq_k fun K3 hK3 => ?_
  refine pl0 ?_
  refine plc hE (.r 0 5 .nil) (fun a hE => ?_)
  refine pld ?_
  refine hK3 _ _ ?_
  by_cases c4 : (x0_.length : Int) = (x1_.length : Int)
  · rw [if_pos c4] at H
    replace hE := hE.ktn 10 c4
    refine cf hE ?_
    refine wp_skip ?_
    refine hK2 _ _ ?_
    refine wp_seq_k fun K6 hK6 => ?_
    refine wp_seq_k fun K7 hK7 => ?_
    refine pl0 ?_
    refine plc hE (.r 0 1 .nil) (fun a hE => ?_)
    refine pld ?_
    refine hK7 _ _ ?_
    refine wp_block ?_
    refine wp_loop_ghost (fun kq10 a w' => ∃ (G : Nat → Value) (x8 : Int), kq10 ≤ k ∧ Env 42 G a ∧ At G [(0, .slice A0_0 x0_.length c0_0), (1, .slice A1_0 x1_.length c1_0), (5, .int .i64 x8)] ∧ St W (mine W []) F w' F [] ∧  windroseref08_trails.l9 kq10 x0_ x1_ x8 = some r) k ⟨_, 0, Nat.le_refl _, hE, .of, hS, H⟩ ?_
    rintro kq10 a u12 ⟨G, x8, hkq, hE, hA, hS, H⟩
    cases kq10 with
    | zero => cases (show none = some r from H)
    | succ k11 =>
      rw [windroseref08_trails.l9_s] at H
      obtain ⟨J, hE⟩ := hE.at hA
      refine wp_seq_k fun K13 hK13 => ?_
      refine wp_seq_k fun K14 hK14 => ?_
      refine pl0 ?_
      refine plc hE (.r 0 4 .nil) (fun a hE => ?_)
      refine pld ?_
      refine hK14 _ _ ?_
      by_cases c15 : x8 < (x0_.length : Int)
      · rw [if_pos c15] at H
        replace hE := hE.kt 14 c15
        refine ct hE ?_
        refine wp_skip ?_
        refine hK13 _ _ ?_
        refine wp_seq_k fun K16 hK16 => ?_
        refine wp_block ?_
        refine wp_seq_k fun K17 hK17 => ?_
        have J48 : ∀ kq46, kq46 ≤ k11 → ∀ (G : Nat → Value) (y44 : Bool) (a : Act) (w' : World), Env 42 G a → At G [(0, .slice A0_0 x0_.length c0_0), (1, .slice A1_0 x1_.length c1_0), (5, .int .i64 x8), (41, .bool y44)] → St W (mine W []) F w' F [] → windroseref08_trails.j45 kq46 x0_ x1_ x8 y44 = some r → K17 a w' := by
          intro kq46 hkq G y44 a u49 hE hA hS H
          cases kq46 with
          | zero => cases (show none = some r from H)
          | succ k47 =>
            rw [windroseref08_trails.j45_s] at H
            obtain ⟨J, hE⟩ := hE.at hA
            refine hK17 _ _ ?_
            by_cases c50 : y44 = true
            · rw [if_pos c50] at H
              replace hE := hE.bt 41 c50
              refine ct hE ?_
              refine wp_seq_k fun K51 hK51 => ?_
              refine pl0 ?_
              refine plc hE (.r 0 1 .nil) (fun a hE => ?_)
              refine pld ?_
              refine hK51 _ _ ?_
              refine wp_ret (block_ret (then_ret (then_ret (block_ret (then_ret ?_)))))
              obtain rfl := Option.some.inj H
              exact rt1 hE ⟨_, rfl, _, rfl, hS⟩
            · rw [if_neg c50] at H
              replace hE := hE.bf 41 c50
              refine cf hE ?_
              refine wp_skip ?_
              refine hK16 _ _ ?_
              refine pl0 ?_
              refine plc hE (.r 0 3 .nil) (fun a hE => ?_)
              refine pld ?_
              exact then_n ⟨k47, by omega, _, (w64 (x8 + 1)), by omega, hE, .of, hS, H⟩
        refine drawn 25 ⟨[], [], fun q => False⟩ mixed rfl (by kernel_rfl) (fun hst => ?_)
        replace hS := hS.drew
        by_cases c18 : 0 ≤ x8 ∧ x8 < (x0_.length : Int)
        rotate_left
        · rw [if_neg c18] at H; cases H
        rw [if_pos c18] at H
        have hE_ := hE
        obtain ⟨ad19, rfl⟩ := g0_0.addr c18.1 c18.2
        replace hE := hE_
        obtain ⟨cs21, ⟨A23, c24, rfl, g25⟩, hc22⟩ := g0_0.el T_api_Trail.z x8 c18.1 c18.2
        by_cases c26 : 0 ≤ x8 ∧ x8 < (x1_.length : Int)
        rotate_left
        · rw [if_neg c26] at H; cases H
        rw [if_pos c26] at H
        have hE_ := hE
        obtain ⟨ad27, rfl⟩ := g1_0.addr c26.1 c26.2
        replace hE := hE_
        obtain ⟨cs29, ⟨A31, c32, rfl, g33⟩, hc30⟩ := g1_0.el T_api_Trail.z x8 c26.1 c26.2
        refine mny 13 hst hE (.r 0 2 <| .x 2 c18 <| .r 3 1 <| .c 4 (hS.fc hc22 0) <| .r 5 2 <| .x 7 c26 <| .r 8 1 <| .c 9 (hS.fc hc30 0) <| .r 10 2 <| .nil) (fun a hE => ?_)
        by_cases c34 : (nth T_api_Trail.z x0_ x8).f0 = (nth T_api_Trail.z x1_ x8).f0
        · rw [if_pos c34] at H
          replace hE := hE.ktn 28 c34
          refine mny 3 hst hE (.r 12 2 <| .x 14 c18 <| .r 15 1 <| .c 16 (hS.fc hc22 1) <| .r 17 2 <| .x 19 c26 <| .r 20 1 <| .c 21 (hS.fc hc30 1) <| .nil) (fun a hE => ?_)
          obtain ⟨t42, h43, H⟩ := Option.bind_eq_some_iff.mp H
          refine on1 22 hE (.cl en95 (windroseref08_Spans.calls k11 ((nth T_api_Trail.z x0_ x8).f1) ((nth T_api_Trail.z x1_ x8).f1) _ _ _ _ _ _ _ hS.own.sub g25 g33 h43)) ?_
          rintro _ u41 a ⟨_, rfl, hC⟩ hE
          refine ⟨.of hC.agr, ?_⟩
          replace hS := hS.lent hC
          refine mny 0 hst hE (.r 23 2 .nil) (fun a hE => ?_)
          refine dn ?_
          exact J48 _ (by omega) _ (!t42) _ _ hE .of hS H
        · rw [if_neg c34] at H
          replace hE := hE.kfn 28 c34
          refine mny 0 hst hE (.r 12 13 .nil) (fun a hE => ?_)
          refine dn ?_
          exact J48 _ (by omega) _ true _ _ hE .of hS H
      · rw [if_neg c15] at H
        replace hE := hE.kf 14 c15
        refine cf hE ?_
        refine wp_exit ?_
        refine hK6 _ _ ?_
        refine wp_seq_k fun K52 hK52 => ?_
        refine pl0 ?_
        refine plc hE (.r 0 1 .nil) (fun a hE => ?_)
        refine pld ?_
        refine hK52 _ _ ?_
        refine wp_ret ?_
        obtain rfl := Option.some.inj H
        exact rt1 hE ⟨_, rfl, _, rfl, hS⟩
  · rw [if_neg c4] at H
    replace hE := hE.kfn 10 c4
    refine ct hE ?_
    refine wp_seq_k fun K5 hK5 => ?_
    refine pl0 ?_
    refine plc hE (.r 0 1 .nil) (fun a hE => ?_)
    refine pld ?_
    refine hK5 _ _ ?_
    refine wp_ret (then_ret ?_)
    obtain rfl := Option.some.inj H
    exact rt1 hE ⟨_, rfl, _, rfl, hS⟩

/-! ### windrose/windroseref08.Same: function 30 -/
mutual
def windroseref08_Same.j17 : Nat → T_api_Map → T_api_Map → Bool → Option Bool
  | 0, _, _, _ => none
  | k + 1, x0_, x1_, y16 => if y16 = true then (some false) else (windroseref08_Same.l27 k x0_ x1_ 0)
def windroseref08_Same.l27 : Nat → T_api_Map → T_api_Map → Int → Option Bool
  | 0, _, _, _ => none
  | k + 1, x0_, x1_, x26 => if x26 < (x0_.f5.length : Int) then (if 0 ≤ x26 ∧ x26 < (x0_.f5.length : Int) then (if 0 ≤ x26 ∧ x26 < (x1_.f5.length : Int) then (if (nth T_api_Temp.z x0_.f5 x26).f0 = (nth T_api_Temp.z x1_.f5 x26).f0 then ((windroseref02_Ints.f k ((nth T_api_Temp.z x0_.f5 x26).f1) ((nth T_api_Temp.z x1_.f5 x26).f1)).bind fun t60 => (windroseref08_Same.j63 k x0_ x1_ x26 (!t60))) else (windroseref08_Same.j63 k x0_ x1_ x26 true)) else (none)) else (none)) else ((windroseref08_trails.f k x0_.f6 x1_.f6).bind fun t72 => (some t72))
def windroseref08_Same.j63 : Nat → T_api_Map → T_api_Map → Int → Bool → Option Bool
  | 0, _, _, _, _ => none
  | k + 1, x0_, x1_, x26, y62 => if y62 = true then (some false) else (windroseref08_Same.l27 k x0_ x1_ (w64 (x26 + 1)))
end
theorem windroseref08_Same.j17_s (k : Nat) (x0_ : T_api_Map) (x1_ : T_api_Map) (y16 : Bool) : windroseref08_Same.j17 (k + 1) x0_ x1_ y16 = (if y16 = true then (some false) else (windroseref08_Same.l27 k x0_ x1_ 0)) := by kernel_rfl
theorem windroseref08_Same.l27_s (k : Nat) (x0_ : T_api_Map) (x1_ : T_api_Map) (x26 : Int) : windroseref08_Same.l27 (k + 1) x0_ x1_ x26 = (if x26 < (x0_.f5.length : Int) then (if 0 ≤ x26 ∧ x26 < (x0_.f5.length : Int) then (if 0 ≤ x26 ∧ x26 < (x1_.f5.length : Int) then (if (nth T_api_Temp.z x0_.f5 x26).f0 = (nth T_api_Temp.z x1_.f5 x26).f0 then ((windroseref02_Ints.f k ((nth T_api_Temp.z x0_.f5 x26).f1) ((nth T_api_Temp.z x1_.f5 x26).f1)).bind fun t60 => (windroseref08_Same.j63 k x0_ x1_ x26 (!t60))) else (windroseref08_Same.j63 k x0_ x1_ x26 true)) else (none)) else (none)) else ((windroseref08_trails.f k x0_.f6 x1_.f6).bind fun t72 => (some t72))) := by kernel_rfl
theorem windroseref08_Same.j63_s (k : Nat) (x0_ : T_api_Map) (x1_ : T_api_Map) (x26 : Int) (y62 : Bool) : windroseref08_Same.j63 (k + 1) x0_ x1_ x26 y62 = (if y62 = true then (some false) else (windroseref08_Same.l27 k x0_ x1_ (w64 (x26 + 1)))) := by kernel_rfl
def windroseref08_Same.f (k : Nat) (x0_ : T_api_Map) (x1_ : T_api_Map) : Option Bool := if x0_.f0 = x1_.f0 then (if x0_.f1 = x1_.f1 then (if x0_.f2 = x1_.f2 then (if x0_.f3 = x1_.f3 then ((windroseref06_Same.f k x0_.f4 x1_.f4).bind fun t13 => (if t13 = true then (windroseref08_Same.j17 k x0_ x1_ (!((x0_.f5.length : Int) == (x1_.f5.length : Int)))) else (windroseref08_Same.j17 k x0_ x1_ true))) else (windroseref08_Same.j17 k x0_ x1_ true)) else (windroseref08_Same.j17 k x0_ x1_ true)) else (windroseref08_Same.j17 k x0_ x1_ true)) else (windroseref08_Same.j17 k x0_ x1_ true)
def windroseref08_Same.Post (W F : World) (r : Bool) (v : Value) (w' : World) : Prop := ∃ (F' : World), v = .bool r ∧ St W (mine W []) F w' F' []
set_option maxHeartbeats 4000000 in
set_option maxRecDepth 100000 in
theorem windroseref08_Same.calls (k : Nat) (x0_ : T_api_Map) (x1_ : T_api_Map) (A0_4 : Option Addr) (c0_4 : Nat) (A0_5 : Option Addr) (c0_5 : Nat) (A0_6 : Option Addr) (c0_6 : Nat) (A1_4 : Option Addr) (c1_4 : Nat) (A1_5 : Option Addr) (c1_5 : Nat) (A1_6 : Option Addr) (c1_6 : Nat) (r : Bool) (W F : World) (hown : Sub F W) (g0_4 : Rd T_api_Node.k F A0_4 c0_4 x0_.f4) (g0_5 : Rd T_api_Temp.k F A0_5 c0_5 x0_.f5) (g0_6 : Rd T_api_Trail.k F A0_6 c0_6 x0_.f6) (g1_4 : Rd T_api_Node.k F A1_4 c1_4 x1_.f4) (g1_5 : Rd T_api_Temp.k F A1_5 c1_5 x1_.f5) (g1_6 : Rd T_api_Trail.k F A1_6 c1_6 x1_.f6) (H : windroseref08_Same.f k x0_ x1_ = some r) :
    Calls Try.prog 30 #[.agg #[.int .i64 x0_.f0, .int .i64 x0_.f1, .int .i64 x0_.f2, .int .i64 x0_.f3, .slice A0_4 x0_.f4.length c0_4, .slice A0_5 x0_.f5.length c0_5, .slice A0_6 x0_.f6.length c0_6], .agg #[.int .i64 x1_.f0, .int .i64 x1_.f1, .int .i64 x1_.f2, .int .i64 x1_.f3, .slice A1_4 x1_.f4.length c1_4, .slice A1_5 x1_.f5.length c1_5, .slice A1_6 x1_.f6.length c1_6]] W fun e w' => ∃ v, e = .returned v ∧ windroseref08_Same.Post W F r v w' := by
  have hS := St.start (Own.nil hown)
  unfold windroseref08_Same.f at H
  refine enter (n := 90) rfl rfl rfl (Nat.le_of_ble_eq_true rfl) (fun a hE => ?_)
  refine wp_seq_k fun K1 hK1 => ?_
  refine pl0 ?_
  refine ple hE (.bx (t := 78) hS [.int .i64 x0_.f0, .int .i64 x0_.f1, .int .i64 x0_.f2, .int .i64 x0_.f3, .slice A0_4 x0_.f4.length c0_4, .slice A0_5 x0_.f5.length c0_5, .slice A0_6 x0_.f6.length c0_6]) ?_
  rintro _ u3 a ⟨b2, rfl, hb2, hS, hg⟩ hE
  refine ple hE (.bx (t := 78) hS [.int .i64 x1_.f0, .int .i64 x1_.f1, .int .i64 x1_.f2, .int .i64 x1_.f3, .slice A1_4 x1_.f4.length c1_4, .slice A1_5 x1_.f5.length c1_5, .slice A1_6 x1_.f6.length c1_6]) ?_
  rintro _ u5 a ⟨b4, rfl, hb4, hS, hg⟩ hE
  refine plc hE (.r 2 1 .nil) (fun a hE => ?_)
  refine pld ?_
  refine hK1 _ _ ?_
  refine wp_seq_k fun K6 hK6 => ?_
  refine wp_seq_k fun K7 hK7 => ?_
  have J20 : ∀ kq18, kq18 ≤ k → ∀ (G : Nat → Value) (y16 : Bool) (a : Act) (w' : World), Env 90 G a → At G [(2, .pointer (some ⟨b2, 0, none⟩)), (3, .pointer (some ⟨b4, 0, none⟩)), (48, .bool y16)] → St W (mine W []) F w' F [box b4 #[.int .i64 x1_.f0, .int .i64 x1_.f1, .int .i64 x1_.f2, .int .i64 x1_.f3, .slice A1_4 x1_.f4.length c1_4, .slice A1_5 x1_.f5.length c1_5, .slice A1_6 x1_.f6.length c1_6] 78, box b2 #[.int .i64 x0_.f0, .int .i64 x0_.f1, .int .i64 x0_.f2, .int .i64 x0_.f3, .slice A0_4 x0_.f4.length c0_4, .slice A0_5 x0_.f5.length c0_5, .slice A0_6 x0_.f6.length c0_6] 78] → windroseref08_Same.j17 kq18 x0_ x1_ y16 = some r → K7 a w' := by
    intro kq18 hkq G y16 a u21 hE hA hS H
    cases kq18 with
    | zero => cases (show none = some r from H)
    | succ k19 =>
      rw [windroseref08_Same.j17_s] at H
      obtain ⟨J, hE⟩ := hE.at hA
      refine hK7 _ _ ?_
      by_cases c22 : y16 = true
      · rw [if_pos c22] at H
        replace hE := hE.bt 48 c22
        refine ct hE ?_
        refine wp_seq_k fun K23 hK23 => ?_
        refine pl0 ?_
        refine plc hE (.r 0 1 .nil) (fun a hE => ?_)
        refine pld ?_
        refine hK23 _ _ ?_
        refine wp_ret (then_ret ?_)
        replace hS := hS.tail
        replace hS := hS.tail
        obtain rfl := Option.some.inj H
        exact rt1 hE ⟨_, rfl, _, rfl, hS⟩
      · rw [if_neg c22] at H
        replace hE := hE.bf 48 c22
        refine cf hE ?_
        refine wp_skip ?_
        refine hK6 _ _ ?_
        refine wp_seq_k fun K24 hK24 => ?_
        refine wp_seq_k fun K25 hK25 => ?_
        refine pl0 ?_
        refine plc hE (.r 0 1 .nil) (fun a hE => ?_)
        refine pld ?_
        refine hK25 _ _ ?_
        refine wp_block ?_
        refine wp_loop_ghost (fun kq28 a w' => ∃ (G : Nat → Value) (x26 : Int), kq28 ≤ k19 ∧ Env 90 G a ∧ At G [(2, .pointer (some ⟨b2, 0, none⟩)), (3, .pointer (some ⟨b4, 0, none⟩)), (5, .int .i64 x26)] ∧ St W (mine W []) F w' F [box b4 #[.int .i64 x1_.f0, .int .i64 x1_.f1, .int .i64 x1_.f2, .int .i64 x1_.f3, .slice A1_4 x1_.f4.length c1_4, .slice A1_5 x1_.f5.length c1_5, .slice A1_6 x1_.f6.length c1_6] 78, box b2 #[.int .i64 x0_.f0, .int .i64 x0_.f1, .int .i64 x0_.f2, .int .i64 x0_.f3, .slice A0_4 x0_.f4.length c0_4, .slice A0_5 x0_.f5.length c0_5, .slice A0_6 x0_.f6.length c0_6] 78] ∧  windroseref08_Same.l27 kq28 x0_ x1_ x26 = some r) k19 ⟨_, 0, Nat.le_refl _, hE, .of, hS, H⟩ ?_
        rintro kq28 a u30 ⟨G, x26, hkq, hE, hA, hS, H⟩
        cases kq28 with
        | zero => cases (show none = some r from H)
        | succ k29 =>
          rw [windroseref08_Same.l27_s] at H
          obtain ⟨J, hE⟩ := hE.at hA
          refine wp_seq_k fun K31 hK31 => ?_
          refine wp_seq_k fun K32 hK32 => ?_
          refine pl0 ?_
          have hb2 := hS.blk_at (i := 1) rfl
          refine plc hE (.r 0 2 <| .b 2 5 hb2 <| .r 3 2 <| .nil) (fun a hE => ?_)
          refine pld ?_
          refine hK32 _ _ ?_
          by_cases c33 : x26 < (x0_.f5.length : Int)
          · rw [if_pos c33] at H
            replace hE := hE.kt 53 c33
            refine ct hE ?_
            refine wp_skip ?_
            refine hK31 _ _ ?_
            refine wp_seq_k fun K34 hK34 => ?_
            refine wp_block ?_
            refine wp_seq_k fun K35 hK35 => ?_
            have J66 : ∀ kq64, kq64 ≤ k29 → ∀ (G : Nat → Value) (y62 : Bool) (a : Act) (w' : World), Env 90 G a → At G [(2, .pointer (some ⟨b2, 0, none⟩)), (3, .pointer (some ⟨b4, 0, none⟩)), (5, .int .i64 x26), (84, .bool y62)] → St W (mine W []) F w' F [box b4 #[.int .i64 x1_.f0, .int .i64 x1_.f1, .int .i64 x1_.f2, .int .i64 x1_.f3, .slice A1_4 x1_.f4.length c1_4, .slice A1_5 x1_.f5.length c1_5, .slice A1_6 x1_.f6.length c1_6] 78, box b2 #[.int .i64 x0_.f0, .int .i64 x0_.f1, .int .i64 x0_.f2, .int .i64 x0_.f3, .slice A0_4 x0_.f4.length c0_4, .slice A0_5 x0_.f5.length c0_5, .slice A0_6 x0_.f6.length c0_6] 78] → windroseref08_Same.j63 kq64 x0_ x1_ x26 y62 = some r → K35 a w' := by
              intro kq64 hkq G y62 a u67 hE hA hS H
              cases kq64 with
              | zero => cases (show none = some r from H)
              | succ k65 =>
                rw [windroseref08_Same.j63_s] at H
                obtain ⟨J, hE⟩ := hE.at hA
                refine hK35 _ _ ?_
                by_cases c68 : y62 = true
                · rw [if_pos c68] at H
                  replace hE := hE.bt 84 c68
                  refine ct hE ?_
                  refine wp_seq_k fun K69 hK69 => ?_
                  refine pl0 ?_
                  refine plc hE (.r 0 1 .nil) (fun a hE => ?_)
                  refine pld ?_
                  refine hK69 _ _ ?_
                  refine wp_ret (block_ret (then_ret (then_ret (block_ret (then_ret ?_)))))
                  replace hS := hS.tail
                  replace hS := hS.tail
                  obtain rfl := Option.some.inj H
                  exact rt1 hE ⟨_, rfl, _, rfl, hS⟩
                · rw [if_neg c68] at H
                  replace hE := hE.bf 84 c68
                  refine cf hE ?_
                  refine wp_skip ?_
                  refine hK34 _ _ ?_
                  refine pl0 ?_
                  refine plc hE (.r 0 3 .nil) (fun a hE => ?_)
                  refine pld ?_
                  exact then_n ⟨k65, by omega, _, (w64 (x26 + 1)), by omega, hE, .of, hS, H⟩
            refine drawn 29 ⟨[], [], fun q => False⟩ mixed rfl (by kernel_rfl) (fun hst => ?_)
            replace hS := hS.drew
            have hb2 := hS.blk_at (i := 1) rfl
            by_cases c36 : 0 ≤ x26 ∧ x26 < (x0_.f5.length : Int)
            rotate_left
            · rw [if_neg c36] at H; cases H
            rw [if_pos c36] at H
            have hE_ := hE
            obtain ⟨ad37, rfl⟩ := g0_5.addr c36.1 c36.2
            replace hE := hE_
            obtain ⟨cs39, ⟨A41, c42, rfl, g43⟩, hc40⟩ := g0_5.el T_api_Temp.z x26 c36.1 c36.2
            have hb4 := hS.blk_at (i := 0) rfl
            by_cases c44 : 0 ≤ x26 ∧ x26 < (x1_.f5.length : Int)
            rotate_left
            · rw [if_neg c44] at H; cases H
            rw [if_pos c44] at H
            have hE_ := hE
            obtain ⟨ad45, rfl⟩ := g1_5.addr c44.1 c44.2
            replace hE := hE_
            obtain ⟨cs47, ⟨A49, c50, rfl, g51⟩, hc48⟩ := g1_5.el T_api_Temp.z x26 c44.1 c44.2
            refine mny 15 hst hE (.r 0 1 <| .b 1 5 hb2 <| .r 2 1 <| .x 3 c36 <| .r 4 1 <| .c 5 (hS.fc hc40 0) <| .r 6 1 <| .b 7 5 hb4 <| .r 8 1 <| .x 9 c44 <| .r 10 1 <| .c 11 (hS.fc hc48 0) <| .r 12 2 <| .nil) (fun a hE => ?_)
            by_cases c52 : (nth T_api_Temp.z x0_.f5 x26).f0 = (nth T_api_Temp.z x1_.f5 x26).f0
            · rw [if_pos c52] at H
              replace hE := hE.ktn 69 c52
              refine mny 3 hst hE (.r 14 1 <| .b 15 5 hb2 <| .r 16 1 <| .x 17 c36 <| .r 18 1 <| .c 19 (hS.fc hc40 1) <| .r 20 1 <| .b 21 5 hb4 <| .r 22 1 <| .x 23 c44 <| .r 24 1 <| .c 25 (hS.fc hc48 1) <| .nil) (fun a hE => ?_)
              obtain ⟨t60, h61, H⟩ := Option.bind_eq_some_iff.mp H
              refine on1 26 hE (.cl en44 (windroseref02_Ints.calls k29 ((nth T_api_Temp.z x0_.f5 x26).f1) ((nth T_api_Temp.z x1_.f5 x26).f1) _ _ _ _ _ _ _ hS.own.sub g43 g51 h61)) ?_
              rintro _ u59 a ⟨_, rfl, hC⟩ hE
              refine ⟨.of hC.agr, ?_⟩
              replace hS := hS.lent hC
              refine mny 0 hst hE (.r 27 2 .nil) (fun a hE => ?_)
              refine dn ?_
              exact J66 _ (by omega) _ (!t60) _ _ hE .of hS H
            · rw [if_neg c52] at H
              replace hE := hE.kfn 69 c52
              refine mny 0 hst hE (.r 14 15 .nil) (fun a hE => ?_)
              refine dn ?_
              exact J66 _ (by omega) _ true _ _ hE .of hS H
          · rw [if_neg c33] at H
            replace hE := hE.kf 53 c33
            refine cf hE ?_
            refine wp_exit ?_
            refine hK24 _ _ ?_
            refine wp_seq_k fun K70 hK70 => ?_
            refine pl0 ?_
            have hb4 := hS.blk_at (i := 0) rfl
            refine plc hE (.r 0 1 <| .b 1 6 hb2 <| .r 2 1 <| .b 3 6 hb4 <| .nil) (fun a hE => ?_)
            obtain ⟨t72, h73, H⟩ := Option.bind_eq_some_iff.mp H
            refine ple hE (.cl en72 (windroseref08_trails.calls k29 x0_.f6 x1_.f6 _ _ _ _ _ _ _ hS.own.sub g0_6 g1_6 h73)) ?_
            rintro _ u71 a ⟨_, rfl, hC⟩ hE
            replace hS := hS.lent hC
            refine plc hE (.r 5 1 .nil) (fun a hE => ?_)
            refine pld ?_
            refine hK70 _ _ ?_
            refine wp_ret ?_
            replace hS := hS.tail
            replace hS := hS.tail
            obtain rfl := Option.some.inj H
            exact rt1 hE ⟨_, rfl, _, rfl, hS⟩
  refine pl0 ?_
  have hb2 := hS.blk_at (i := 1) rfl
  refine plc hE (.r 0 1 <| .b 1 0 hb2 <| .r 2 1 <| .b 3 0 hb4 <| .r 4 2 <| .nil) (fun a hE => ?_)
  by_cases c8 : x0_.f0 = x1_.f0
  · rw [if_pos c8] at H
    replace hE := hE.ktn 11 c8
    refine plc hE (.r 6 1 <| .b 7 1 hb2 <| .r 8 1 <| .b 9 1 hb4 <| .r 10 3 <| .nil) (fun a hE => ?_)
    by_cases c9 : x0_.f1 = x1_.f1
    · rw [if_pos c9] at H
      replace hE := hE.ktn 18 c9
      refine plc hE (.r 13 1 <| .b 14 2 hb2 <| .r 15 1 <| .b 16 2 hb4 <| .r 17 3 <| .nil) (fun a hE => ?_)
      by_cases c10 : x0_.f2 = x1_.f2
      · rw [if_pos c10] at H
        replace hE := hE.ktn 25 c10
        refine plc hE (.r 20 1 <| .b 21 3 hb2 <| .r 22 1 <| .b 23 3 hb4 <| .r 24 3 <| .nil) (fun a hE => ?_)
        by_cases c11 : x0_.f3 = x1_.f3
        · rw [if_pos c11] at H
          replace hE := hE.ktn 32 c11
          refine plc hE (.r 27 1 <| .b 28 4 hb2 <| .r 29 1 <| .b 30 4 hb4 <| .nil) (fun a hE => ?_)
          obtain ⟨t13, h14, H⟩ := Option.bind_eq_some_iff.mp H
          refine ple hE (.cl en71 (windroseref06_Same.calls k x0_.f4 x1_.f4 _ _ _ _ _ _ _ hS.own.sub g0_4 g1_4 h14)) ?_
          rintro _ u12 a ⟨_, rfl, hC⟩ hE
          replace hS := hS.lent hC
          refine plc hE (.r 32 3 .nil) (fun a hE => ?_)
          by_cases c15 : t13 = true
          · rw [if_pos c15] at H
            replace hE := hE.btn 40 c15
            have hb2 := hS.blk_at (i := 1) rfl
            have hb4 := hS.blk_at (i := 0) rfl
            refine plc hE (.r 35 1 <| .b 36 5 hb2 <| .r 37 2 <| .b 39 5 hb4 <| .r 40 3 <| .nil) (fun a hE => ?_)
            refine pld ?_
            exact J20 _ (by omega) _ (!((x0_.f5.length : Int) == (x1_.f5.length : Int))) _ _ hE .of hS H
          · rw [if_neg c15] at H
            replace hE := hE.bfn 40 c15
            refine plc hE (.r 35 8 .nil) (fun a hE => ?_)
            refine pld ?_
            exact J20 _ (by omega) _ true _ _ hE .of hS H
        · rw [if_neg c11] at H
          replace hE := hE.kfn 32 c11
          refine plc hE (.r 27 16 .nil) (fun a hE => ?_)
          refine pld ?_
          exact J20 _ (by omega) _ true _ _ hE .of hS H
      · rw [if_neg c10] at H
        replace hE := hE.kfn 25 c10
        refine plc hE (.r 20 23 .nil) (fun a hE => ?_)
        refine pld ?_
        exact J20 _ (by omega) _ true _ _ hE .of hS H
    · rw [if_neg c9] at H
      replace hE := hE.kfn 18 c9
      refine plc hE (.r 13 30 .nil) (fun a hE => ?_)
      refine pld ?_
      exact J20 _ (by omega) _ true _ _ hE .of hS H
  · rw [if_neg c8] at H
    replace hE := hE.kfn 11 c8
    refine plc hE (.r 6 37 .nil) (fun a hE => ?_)
    refine pld ?_
    exact J20 _ (by omega) _ true _ _ hE .of hS H

end Go.Proofs.Ytihjknnhbgkinaa.SR
