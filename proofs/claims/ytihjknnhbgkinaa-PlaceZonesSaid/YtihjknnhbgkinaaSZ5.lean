/- Functions of the program, what each computes (written by wip/s/sl.py). -/
import Derived.Test.YtihjknnhbgkinaaSZ4
namespace Go.Proofs.Ytihjknnhbgkinaa.SZ
open Go Go.RowKit Go.Proofs.Ytihjknnhbgkinaa.Sl
set_option linter.unusedVariables false
set_option linter.unusedSimpArgs false
/-! ### windrose/windroseref07.Run: function 45 -/
mutual
def windroseref07_Run.l24 : Nat → List T_api_Node → List T_api_Step → Int → Int → List Ar3_i64 → List Int → Int → Option (List Int)
  | 0, _, _, _, _, _, _, _ => none
  | k + 1, x0_, x1_, x2_, x3_, l18, l21, x22 => if x22 < (x1_.length : Int) then (if 0 ≤ x22 ∧ x22 < (x1_.length : Int) then (if (nth T_api_Step.z x1_ x22).f0 = 1 then (if ((([] : List Ar3_i64).length : Int) + ((1 : Nat) : Int)) * 24 ≤ 140737488355328 then (windroseref07_Run.j61 k x0_ x1_ x2_ x3_ l18 l21 x22 (([] : List Ar3_i64) ++ [(⟨0, 0, 0⟩ : Ar3_i64)])) else (none)) else (windroseref07_Run.j61 k x0_ x1_ x2_ x3_ l18 l21 x22 ([] : List Ar3_i64))) else (none)) else (some l21)
def windroseref07_Run.j61 : Nat → List T_api_Node → List T_api_Step → Int → Int → List Ar3_i64 → List Int → Int → List Ar3_i64 → Option (List Int)
  | 0, _, _, _, _, _, _, _, _ => none
  | k + 1, x0_, x1_, x2_, x3_, l18, l21, x22, l60 => windroseref07_Run.l78 k x0_ x1_ x2_ x3_ l18 x22 l21 l60 0
def windroseref07_Run.l78 : Nat → List T_api_Node → List T_api_Step → Int → Int → List Ar3_i64 → Int → List Int → List Ar3_i64 → Int → Option (List Int)
  | 0, _, _, _, _, _, _, _, _, _ => none
  | k + 1, x0_, x1_, x2_, x3_, l18, x22, l72, l75, x76 => if x76 < (l18.length : Int) then (if 0 ≤ x76 ∧ x76 < (l18.length : Int) then (if (nth T_api_Step.z x1_ x22).f0 = 3 then (windroseref07_Run.l104 k x0_ x1_ x2_ x3_ l18 x22 l72 l75 x76 false 0) else ((windroseref06_Leaves.f k x0_ ((nth Ar3_i64.z l18 x76).f0) ((nth Ar3_i64.z l18 x76).f1)).bind fun t139 => (if (nth T_api_Step.z x1_ x22).f1 = 1 then ((windroseref06_Zones.f k x0_).bind fun t150 => (windroseref07_Run.j162 k x0_ x1_ x2_ x3_ l18 x22 l72 l75 x76 t150)) else (windroseref07_Run.j162 k x0_ x1_ x2_ x3_ l18 x22 l72 l75 x76 t139)))) else (none)) else (windroseref07_Run.l24 k x0_ x1_ x2_ x3_ l75 l72 (w64 (x22 + 1)))
def windroseref07_Run.l104 : Nat → List T_api_Node → List T_api_Step → Int → Int → List Ar3_i64 → Int → List Int → List Ar3_i64 → Int → Bool → Int → Option (List Int)
  | 0, _, _, _, _, _, _, _, _, _, _, _ => none
  | k + 1, x0_, x1_, x2_, x3_, l18, x22, l72, l75, x76, y102, x103 => if x103 < (l72.length : Int) then (if y102 = true then (windroseref07_Run.l104 k x0_ x1_ x2_ x3_ l18 x22 l72 l75 x76 true (w64 (x103 + 1))) else (if 0 ≤ x103 ∧ x103 < (l72.length : Int) then (windroseref07_Run.l104 k x0_ x1_ x2_ x3_ l18 x22 l72 l75 x76 ((nth 0 l72 x103) == (nth Ar3_i64.z l18 x76).f2) (w64 (x103 + 1))) else (none))) else (if y102 = true then (windroseref07_Run.j123 k x0_ x1_ x2_ x3_ l18 x22 l72 l75 x76 false) else (windroseref07_Run.j123 k x0_ x1_ x2_ x3_ l18 x22 l72 l75 x76 (decide ((l72.length : Int) < x3_))))
def windroseref07_Run.j123 : Nat → List T_api_Node → List T_api_Step → Int → Int → List Ar3_i64 → Int → List Int → List Ar3_i64 → Int → Bool → Option (List Int)
  | 0, _, _, _, _, _, _, _, _, _, _ => none
  | k + 1, x0_, x1_, x2_, x3_, l18, x22, l72, l75, x76, y122 => if y122 = true then (if ((l72.length : Int) + ((1 : Nat) : Int)) * 8 ≤ 140737488355328 then (windroseref07_Run.l78 k x0_ x1_ x2_ x3_ l18 x22 (l72 ++ [(nth Ar3_i64.z l18 x76).f2]) l75 (w64 (x76 + 1))) else (none)) else (windroseref07_Run.l78 k x0_ x1_ x2_ x3_ l18 x22 l72 l75 (w64 (x76 + 1)))
def windroseref07_Run.j162 : Nat → List T_api_Node → List T_api_Step → Int → Int → List Ar3_i64 → Int → List Int → List Ar3_i64 → Int → List T_api_Choice → Option (List Int)
  | 0, _, _, _, _, _, _, _, _, _, _ => none
  | k + 1, x0_, x1_, x2_, x3_, l18, x22, l72, l75, x76, l160 => if (nth T_api_Step.z x1_ x22).f1 = 2 then ((windroseref06_Racks.f k x0_ ((nth Ar3_i64.z l18 x76).f0)).bind fun t171 => (windroseref07_Run.j183 k x0_ x1_ x2_ x3_ l18 x22 l72 l75 x76 t171)) else (windroseref07_Run.j183 k x0_ x1_ x2_ x3_ l18 x22 l72 l75 x76 l160)
def windroseref07_Run.j183 : Nat → List T_api_Node → List T_api_Step → Int → Int → List Ar3_i64 → Int → List Int → List Ar3_i64 → Int → List T_api_Choice → Option (List Int)
  | 0, _, _, _, _, _, _, _, _, _, _ => none
  | k + 1, x0_, x1_, x2_, x3_, l18, x22, l72, l75, x76, l181 => (windroseref01_Fold.f k (IntKind.u64.wrap x2_) [(IntKind.u64.wrap (nth T_api_Step.z x1_ x22).f1), (IntKind.u64.wrap (nth Ar3_i64.z l18 x76).f0), (IntKind.u64.wrap (nth Ar3_i64.z l18 x76).f1)]).bind fun t194 => ((windroseref05_Order.f k t194 l181).bind fun t199 => (windroseref07_Run.l212 k x0_ x1_ x2_ x3_ l18 x22 l72 x76 t199 l75 0))
def windroseref07_Run.l212 : Nat → List T_api_Node → List T_api_Step → Int → Int → List Ar3_i64 → Int → List Int → Int → List Int → List Ar3_i64 → Int → Option (List Int)
  | 0, _, _, _, _, _, _, _, _, _, _, _ => none
  | k + 1, x0_, x1_, x2_, x3_, l18, x22, l72, x76, t199, l210, x211 => if x211 < (t199.length : Int) then (windroseref07_Run.j220 k x0_ x1_ x2_ x3_ l18 x22 l72 x76 t199 l210 x211 (decide (x211 < (nth T_api_Step.z x1_ x22).f2))) else (windroseref07_Run.j220 k x0_ x1_ x2_ x3_ l18 x22 l72 x76 t199 l210 x211 false)
def windroseref07_Run.j220 : Nat → List T_api_Node → List T_api_Step → Int → Int → List Ar3_i64 → Int → List Int → Int → List Int → List Ar3_i64 → Int → Bool → Option (List Int)
  | 0, _, _, _, _, _, _, _, _, _, _, _, _ => none
  | k + 1, x0_, x1_, x2_, x3_, l18, x22, l72, x76, t199, l210, x211, y219 => if y219 = true then (if 0 ≤ x211 ∧ x211 < (t199.length : Int) then (if (w64 ((nth T_api_Step.z x1_ x22).f1 - 1)) = 0 then (windroseref07_Run.j247 k x0_ x1_ x2_ x3_ l18 x22 l72 x76 t199 l210 x211 (nth 0 t199 x211) ((nth Ar3_i64.z l18 x76).f1) ((nth Ar3_i64.z l18 x76).f2)) else (if (w64 ((nth T_api_Step.z x1_ x22).f1 - 1)) = 1 then (windroseref07_Run.j247 k x0_ x1_ x2_ x3_ l18 x22 l72 x76 t199 l210 x211 ((nth Ar3_i64.z l18 x76).f0) (nth 0 t199 x211) ((nth Ar3_i64.z l18 x76).f2)) else (if (w64 ((nth T_api_Step.z x1_ x22).f1 - 1)) = 2 then (windroseref07_Run.j247 k x0_ x1_ x2_ x3_ l18 x22 l72 x76 t199 l210 x211 ((nth Ar3_i64.z l18 x76).f0) ((nth Ar3_i64.z l18 x76).f1) (nth 0 t199 x211)) else (none)))) else (none)) else (windroseref07_Run.l78 k x0_ x1_ x2_ x3_ l18 x22 l72 l210 (w64 (x76 + 1)))
def windroseref07_Run.j247 : Nat → List T_api_Node → List T_api_Step → Int → Int → List Ar3_i64 → Int → List Int → Int → List Int → List Ar3_i64 → Int → Int → Int → Int → Option (List Int)
  | 0, _, _, _, _, _, _, _, _, _, _, _, _, _, _ => none
  | k + 1, x0_, x1_, x2_, x3_, l18, x22, l72, x76, t199, l210, x211, x244, x245, x246 => if ((l210.length : Int) + ((1 : Nat) : Int)) * 24 ≤ 140737488355328 then (windroseref07_Run.l212 k x0_ x1_ x2_ x3_ l18 x22 l72 x76 t199 (l210 ++ [(⟨x244, x245, x246⟩ : Ar3_i64)]) (w64 (x211 + 1))) else (none)
end
theorem windroseref07_Run.l24_s (k : Nat) (x0_ : List T_api_Node) (x1_ : List T_api_Step) (x2_ : Int) (x3_ : Int) (l18 : List Ar3_i64) (l21 : List Int) (x22 : Int) : windroseref07_Run.l24 (k + 1) x0_ x1_ x2_ x3_ l18 l21 x22 = (if x22 < (x1_.length : Int) then (if 0 ≤ x22 ∧ x22 < (x1_.length : Int) then (if (nth T_api_Step.z x1_ x22).f0 = 1 then (if ((([] : List Ar3_i64).length : Int) + ((1 : Nat) : Int)) * 24 ≤ 140737488355328 then (windroseref07_Run.j61 k x0_ x1_ x2_ x3_ l18 l21 x22 (([] : List Ar3_i64) ++ [(⟨0, 0, 0⟩ : Ar3_i64)])) else (none)) else (windroseref07_Run.j61 k x0_ x1_ x2_ x3_ l18 l21 x22 ([] : List Ar3_i64))) else (none)) else (some l21)) := by kernel_rfl
theorem windroseref07_Run.j61_s (k : Nat) (x0_ : List T_api_Node) (x1_ : List T_api_Step) (x2_ : Int) (x3_ : Int) (l18 : List Ar3_i64) (l21 : List Int) (x22 : Int) (l60 : List Ar3_i64) : windroseref07_Run.j61 (k + 1) x0_ x1_ x2_ x3_ l18 l21 x22 l60 = (windroseref07_Run.l78 k x0_ x1_ x2_ x3_ l18 x22 l21 l60 0) := by kernel_rfl
theorem windroseref07_Run.l78_s (k : Nat) (x0_ : List T_api_Node) (x1_ : List T_api_Step) (x2_ : Int) (x3_ : Int) (l18 : List Ar3_i64) (x22 : Int) (l72 : List Int) (l75 : List Ar3_i64) (x76 : Int) : windroseref07_Run.l78 (k + 1) x0_ x1_ x2_ x3_ l18 x22 l72 l75 x76 = (if x76 < (l18.length : Int) then (if 0 ≤ x76 ∧ x76 < (l18.length : Int) then (if (nth T_api_Step.z x1_ x22).f0 = 3 then (windroseref07_Run.l104 k x0_ x1_ x2_ x3_ l18 x22 l72 l75 x76 false 0) else ((windroseref06_Leaves.f k x0_ ((nth Ar3_i64.z l18 x76).f0) ((nth Ar3_i64.z l18 x76).f1)).bind fun t139 => (if (nth T_api_Step.z x1_ x22).f1 = 1 then ((windroseref06_Zones.f k x0_).bind fun t150 => (windroseref07_Run.j162 k x0_ x1_ x2_ x3_ l18 x22 l72 l75 x76 t150)) else (windroseref07_Run.j162 k x0_ x1_ x2_ x3_ l18 x22 l72 l75 x76 t139)))) else (none)) else (windroseref07_Run.l24 k x0_ x1_ x2_ x3_ l75 l72 (w64 (x22 + 1)))) := by kernel_rfl
theorem windroseref07_Run.l104_s (k : Nat) (x0_ : List T_api_Node) (x1_ : List T_api_Step) (x2_ : Int) (x3_ : Int) (l18 : List Ar3_i64) (x22 : Int) (l72 : List Int) (l75 : List Ar3_i64) (x76 : Int) (y102 : Bool) (x103 : Int) : windroseref07_Run.l104 (k + 1) x0_ x1_ x2_ x3_ l18 x22 l72 l75 x76 y102 x103 = (if x103 < (l72.length : Int) then (if y102 = true then (windroseref07_Run.l104 k x0_ x1_ x2_ x3_ l18 x22 l72 l75 x76 true (w64 (x103 + 1))) else (if 0 ≤ x103 ∧ x103 < (l72.length : Int) then (windroseref07_Run.l104 k x0_ x1_ x2_ x3_ l18 x22 l72 l75 x76 ((nth 0 l72 x103) == (nth Ar3_i64.z l18 x76).f2) (w64 (x103 + 1))) else (none))) else (if y102 = true then (windroseref07_Run.j123 k x0_ x1_ x2_ x3_ l18 x22 l72 l75 x76 false) else (windroseref07_Run.j123 k x0_ x1_ x2_ x3_ l18 x22 l72 l75 x76 (decide ((l72.length : Int) < x3_))))) := by kernel_rfl
theorem windroseref07_Run.j123_s (k : Nat) (x0_ : List T_api_Node) (x1_ : List T_api_Step) (x2_ : Int) (x3_ : Int) (l18 : List Ar3_i64) (x22 : Int) (l72 : List Int) (l75 : List Ar3_i64) (x76 : Int) (y122 : Bool) : windroseref07_Run.j123 (k + 1) x0_ x1_ x2_ x3_ l18 x22 l72 l75 x76 y122 = (if y122 = true then (if ((l72.length : Int) + ((1 : Nat) : Int)) * 8 ≤ 140737488355328 then (windroseref07_Run.l78 k x0_ x1_ x2_ x3_ l18 x22 (l72 ++ [(nth Ar3_i64.z l18 x76).f2]) l75 (w64 (x76 + 1))) else (none)) else (windroseref07_Run.l78 k x0_ x1_ x2_ x3_ l18 x22 l72 l75 (w64 (x76 + 1)))) := by kernel_rfl
theorem windroseref07_Run.j162_s (k : Nat) (x0_ : List T_api_Node) (x1_ : List T_api_Step) (x2_ : Int) (x3_ : Int) (l18 : List Ar3_i64) (x22 : Int) (l72 : List Int) (l75 : List Ar3_i64) (x76 : Int) (l160 : List T_api_Choice) : windroseref07_Run.j162 (k + 1) x0_ x1_ x2_ x3_ l18 x22 l72 l75 x76 l160 = (if (nth T_api_Step.z x1_ x22).f1 = 2 then ((windroseref06_Racks.f k x0_ ((nth Ar3_i64.z l18 x76).f0)).bind fun t171 => (windroseref07_Run.j183 k x0_ x1_ x2_ x3_ l18 x22 l72 l75 x76 t171)) else (windroseref07_Run.j183 k x0_ x1_ x2_ x3_ l18 x22 l72 l75 x76 l160)) := by kernel_rfl
theorem windroseref07_Run.j183_s (k : Nat) (x0_ : List T_api_Node) (x1_ : List T_api_Step) (x2_ : Int) (x3_ : Int) (l18 : List Ar3_i64) (x22 : Int) (l72 : List Int) (l75 : List Ar3_i64) (x76 : Int) (l181 : List T_api_Choice) : windroseref07_Run.j183 (k + 1) x0_ x1_ x2_ x3_ l18 x22 l72 l75 x76 l181 = ((windroseref01_Fold.f k (IntKind.u64.wrap x2_) [(IntKind.u64.wrap (nth T_api_Step.z x1_ x22).f1), (IntKind.u64.wrap (nth Ar3_i64.z l18 x76).f0), (IntKind.u64.wrap (nth Ar3_i64.z l18 x76).f1)]).bind fun t194 => ((windroseref05_Order.f k t194 l181).bind fun t199 => (windroseref07_Run.l212 k x0_ x1_ x2_ x3_ l18 x22 l72 x76 t199 l75 0))) := by kernel_rfl
theorem windroseref07_Run.l212_s (k : Nat) (x0_ : List T_api_Node) (x1_ : List T_api_Step) (x2_ : Int) (x3_ : Int) (l18 : List Ar3_i64) (x22 : Int) (l72 : List Int) (x76 : Int) (t199 : List Int) (l210 : List Ar3_i64) (x211 : Int) : windroseref07_Run.l212 (k + 1) x0_ x1_ x2_ x3_ l18 x22 l72 x76 t199 l210 x211 = (if x211 < (t199.length : Int) then (windroseref07_Run.j220 k x0_ x1_ x2_ x3_ l18 x22 l72 x76 t199 l210 x211 (decide (x211 < (nth T_api_Step.z x1_ x22).f2))) else (windroseref07_Run.j220 k x0_ x1_ x2_ x3_ l18 x22 l72 x76 t199 l210 x211 false)) := by kernel_rfl
theorem windroseref07_Run.j220_s (k : Nat) (x0_ : List T_api_Node) (x1_ : List T_api_Step) (x2_ : Int) (x3_ : Int) (l18 : List Ar3_i64) (x22 : Int) (l72 : List Int) (x76 : Int) (t199 : List Int) (l210 : List Ar3_i64) (x211 : Int) (y219 : Bool) : windroseref07_Run.j220 (k + 1) x0_ x1_ x2_ x3_ l18 x22 l72 x76 t199 l210 x211 y219 = (if y219 = true then (if 0 ≤ x211 ∧ x211 < (t199.length : Int) then (if (w64 ((nth T_api_Step.z x1_ x22).f1 - 1)) = 0 then (windroseref07_Run.j247 k x0_ x1_ x2_ x3_ l18 x22 l72 x76 t199 l210 x211 (nth 0 t199 x211) ((nth Ar3_i64.z l18 x76).f1) ((nth Ar3_i64.z l18 x76).f2)) else (if (w64 ((nth T_api_Step.z x1_ x22).f1 - 1)) = 1 then (windroseref07_Run.j247 k x0_ x1_ x2_ x3_ l18 x22 l72 x76 t199 l210 x211 ((nth Ar3_i64.z l18 x76).f0) (nth 0 t199 x211) ((nth Ar3_i64.z l18 x76).f2)) else (if (w64 ((nth T_api_Step.z x1_ x22).f1 - 1)) = 2 then (windroseref07_Run.j247 k x0_ x1_ x2_ x3_ l18 x22 l72 x76 t199 l210 x211 ((nth Ar3_i64.z l18 x76).f0) ((nth Ar3_i64.z l18 x76).f1) (nth 0 t199 x211)) else (none)))) else (none)) else (windroseref07_Run.l78 k x0_ x1_ x2_ x3_ l18 x22 l72 l210 (w64 (x76 + 1)))) := by kernel_rfl
theorem windroseref07_Run.j247_s (k : Nat) (x0_ : List T_api_Node) (x1_ : List T_api_Step) (x2_ : Int) (x3_ : Int) (l18 : List Ar3_i64) (x22 : Int) (l72 : List Int) (x76 : Int) (t199 : List Int) (l210 : List Ar3_i64) (x211 : Int) (x244 : Int) (x245 : Int) (x246 : Int) : windroseref07_Run.j247 (k + 1) x0_ x1_ x2_ x3_ l18 x22 l72 x76 t199 l210 x211 x244 x245 x246 = (if ((l210.length : Int) + ((1 : Nat) : Int)) * 24 ≤ 140737488355328 then (windroseref07_Run.l212 k x0_ x1_ x2_ x3_ l18 x22 l72 x76 t199 (l210 ++ [(⟨x244, x245, x246⟩ : Ar3_i64)]) (w64 (x211 + 1))) else (none)) := by kernel_rfl
def windroseref07_Run.f (k : Nat) (x0_ : List T_api_Node) (x1_ : List T_api_Step) (x2_ : Int) (x3_ : Int) : Option (List Int) := windroseref07_Run.l24 k x0_ x1_ x2_ x3_ ([] : List Ar3_i64) ([] : List Int) 0
def windroseref07_Run.Post (W F : World) (r : List Int) (v : Value) (w' : World) : Prop := ∃ (F' : World) (RA0_0 : Option Addr) (rc0_0 : Nat), v = .slice RA0_0 r.length rc0_0 ∧ St W (mine W []) F w' F' [row (Kn.int .i64) 3 (.slice RA0_0 r.length rc0_0) r]
set_option maxHeartbeats 4000000 in
set_option maxRecDepth 100000 in
theorem windroseref07_Run.calls (k : Nat) (x0_ : List T_api_Node) (x1_ : List T_api_Step) (x2_ : Int) (x3_ : Int) (A0_0 : Option Addr) (c0_0 : Nat) (A1_0 : Option Addr) (c1_0 : Nat) (r : List Int) (W F : World) (hown : Sub F W) (g0_0 : Rd T_api_Node.k F A0_0 c0_0 x0_) (g1_0 : Rd T_api_Step.k F A1_0 c1_0 x1_) (H : windroseref07_Run.f k x0_ x1_ x2_ x3_ = some r) :
    Calls Try.prog 45 #[.slice A0_0 x0_.length c0_0, .slice A1_0 x1_.length c1_0, .int .i64 x2_, .int .i64 x3_] W fun e w' => ∃ v, e = .returned v ∧ windroseref07_Run.Post W F r v w' := by
  have hS := St.start (Own.nil hown)
  unfold windroseref07_Run.f at H
  refine enter (n := 144) rfl rfl rfl (Nat.le_of_ble_eq_true rfl) (fun a hE => ?_)
  refine wp_seq_k fun K1 hK1 => ?_
  refine pl0 ?_
  refine plc hE (.r 0 1 .nil) (fun a hE => ?_)
  refine pld ?_
  refine hK1 _ _ ?_
  refine wp_seq_k fun K2 hK2 => ?_
  refine pl0 ?_
  refine ple hE (.lit (d := Ar3_i64.k) (e := 51) hS ([] : List Ar3_i64) (.nil)) ?_
  rintro _ u3 a ⟨A4, c5, rfl, hS, hg⟩ hE
  refine plc hE (.r 1 1 .nil) (fun a hE => ?_)
  refine pld ?_
  refine hK2 _ _ ?_
  refine wp_seq_k fun K7 hK7 => ?_
  refine pl0 ?_
  refine ple hE (.lit (d := (Kn.int .i64)) (e := 3) hS ([] : List Int) (.nil)) ?_
  rintro _ u8 a ⟨A9, c10, rfl, hS, hg⟩ hE
  refine plc hE (.r 1 1 .nil) (fun a hE => ?_)
  refine pld ?_
  refine hK7 _ _ ?_
  refine wp_seq_k fun K12 hK12 => ?_
  refine wp_seq_k fun K13 hK13 => ?_
  refine pl0 ?_
  refine plc hE (.r 0 1 .nil) (fun a hE => ?_)
  refine pld ?_
  refine hK13 _ _ ?_
  refine wp_block ?_
  replace hS := hS.front 1 rfl
  refine wp_loop_ghost (fun kq25 a w' => ∃ (G : Nat → Value) (A16 : Option Addr) (c17 : Nat) (l18 : List Ar3_i64) (A19 : Option Addr) (c20 : Nat) (l21 : List Int) (x22 : Int) (F23 : World), kq25 ≤ k ∧ Env 144 G a ∧ At G [(0, .slice A0_0 x0_.length c0_0), (1, .slice A1_0 x1_.length c1_0), (2, .int .i64 x2_), (3, .int .i64 x3_), (9, .slice A16 l18.length c17), (10, .slice A19 l21.length c20), (11, .int .i64 x22)] ∧ St W (mine W []) F w' F23 [row Ar3_i64.k 51 (.slice A16 l18.length c17) l18, row (Kn.int .i64) 3 (.slice A19 l21.length c20) l21] ∧ Rd T_api_Node.k F23 A0_0 c0_0 x0_ ∧ Rd T_api_Step.k F23 A1_0 c1_0 x1_ ∧  windroseref07_Run.l24 kq25 x0_ x1_ x2_ x3_ l18 l21 x22 = some r) k ⟨_, A4, c5, ([] : List Ar3_i64), A9, c10, ([] : List Int), 0, F, Nat.le_refl _, hE, .of, hS, g0_0, g1_0, H⟩ ?_
  rintro kq25 a u27 ⟨G, A16, c17, l18, A19, c20, l21, x22, F23, hkq, hE, hA, hS, g0_0, g1_0, H⟩
  cases kq25 with
  | zero => cases (show none = some r from H)
  | succ k26 =>
    rw [windroseref07_Run.l24_s] at H
    obtain ⟨J, hE⟩ := hE.at hA
    refine wp_seq_k fun K28 hK28 => ?_
    refine wp_seq_k fun K29 hK29 => ?_
    refine pl0 ?_
    refine plc hE (.r 0 4 .nil) (fun a hE => ?_)
    refine pld ?_
    refine hK29 _ _ ?_
    by_cases c30 : x22 < (x1_.length : Int)
    · rw [if_pos c30] at H
      replace hE := hE.kt 27 c30
      refine ct hE ?_
      refine wp_skip ?_
      refine hK28 _ _ ?_
      refine wp_seq_k fun K31 hK31 => ?_
      refine wp_block ?_
      refine wp_seq_k fun K32 hK32 => ?_
      refine pl0 ?_
      by_cases c33 : 0 ≤ x22 ∧ x22 < (x1_.length : Int)
      rotate_left
      · rw [if_neg c33] at H; cases H
      rw [if_pos c33] at H
      have hE_ := hE
      obtain ⟨ad34, rfl⟩ := g1_0.addr c33.1 c33.2
      replace hE := hE_
      obtain ⟨cs36, rfl, hc37⟩ := g1_0.el T_api_Step.z x22 c33.1 c33.2
      refine plc hE (.r 0 2 <| .x 2 c33 <| .cs 3 (hS.fcs hc37) <| .nil) (fun a hE => ?_)
      refine ple hE (.al (t := 148) hS [.int .i64 0, .int .i64 0, .int .i64 0]) ?_
      rintro _ u39 a ⟨b38, rfl, hb38, hS, hg⟩ hE
      refine ple hE (.sto hS [.int .i64 ((nth T_api_Step.z x1_ x22).f0), .int .i64 ((nth T_api_Step.z x1_ x22).f1), .int .i64 ((nth T_api_Step.z x1_ x22).f2)]) ?_
      rintro _ u40 a ⟨rfl, hb38, hS, hz⟩ hE
      refine pld ?_
      refine hK32 _ _ ?_
      refine wp_seq_k fun K41 hK41 => ?_
      refine pl0 ?_
      refine ple hE (.lit (d := Ar3_i64.k) (e := 51) hS ([] : List Ar3_i64) (.nil)) ?_
      rintro _ u42 a ⟨A43, c44, rfl, hS, hg⟩ hE
      refine plc hE (.r 1 1 .nil) (fun a hE => ?_)
      refine pld ?_
      refine hK41 _ _ ?_
      refine wp_seq_k fun K46 hK46 => ?_
      have J64 : ∀ kq62, kq62 ≤ k26 → ∀ (G : Nat → Value) (A58 : Option Addr) (c59 : Nat) (l60 : List Ar3_i64) (a : Act) (w' : World), Env 144 G a → At G [(0, .slice A0_0 x0_.length c0_0), (1, .slice (some ad34) x1_.length c1_0), (2, .int .i64 x2_), (3, .int .i64 x3_), (9, .slice A16 l18.length c17), (10, .slice A19 l21.length c20), (11, .int .i64 x22), (12, .pointer (some ⟨b38, 0, none⟩)), (13, .slice A58 l60.length c59)] → St W (mine W []) F w' F23 [box b38 #[.int .i64 ((nth T_api_Step.z x1_ x22).f0), .int .i64 ((nth T_api_Step.z x1_ x22).f1), .int .i64 ((nth T_api_Step.z x1_ x22).f2)] 148, row Ar3_i64.k 51 (.slice A16 l18.length c17) l18, row (Kn.int .i64) 3 (.slice A19 l21.length c20) l21, row Ar3_i64.k 51 (.slice A58 l60.length c59) l60] → windroseref07_Run.j61 kq62 x0_ x1_ x2_ x3_ l18 l21 x22 l60 = some r → K46 a w' := by
        intro kq62 hkq G A58 c59 l60 a u65 hE hA hS H
        cases kq62 with
        | zero => cases (show none = some r from H)
        | succ k63 =>
          rw [windroseref07_Run.j61_s] at H
          obtain ⟨J, hE⟩ := hE.at hA
          refine hK46 _ _ ?_
          refine wp_seq_k fun K66 hK66 => ?_
          refine wp_seq_k fun K67 hK67 => ?_
          refine pl0 ?_
          refine plc hE (.r 0 1 .nil) (fun a hE => ?_)
          refine pld ?_
          refine hK67 _ _ ?_
          refine wp_block ?_
          refine wp_loop_ghost (fun kq79 a w' => ∃ (G : Nat → Value) (A70 : Option Addr) (c71 : Nat) (l72 : List Int) (A73 : Option Addr) (c74 : Nat) (l75 : List Ar3_i64) (x76 : Int) (F77 : World), kq79 ≤ k63 ∧ Env 144 G a ∧ At G [(0, .slice A0_0 x0_.length c0_0), (1, .slice (some ad34) x1_.length c1_0), (2, .int .i64 x2_), (3, .int .i64 x3_), (9, .slice A16 l18.length c17), (10, .slice A70 l72.length c71), (11, .int .i64 x22), (12, .pointer (some ⟨b38, 0, none⟩)), (13, .slice A73 l75.length c74), (14, .int .i64 x76)] ∧ St W (mine W []) F w' F77 [box b38 #[.int .i64 ((nth T_api_Step.z x1_ x22).f0), .int .i64 ((nth T_api_Step.z x1_ x22).f1), .int .i64 ((nth T_api_Step.z x1_ x22).f2)] 148, row Ar3_i64.k 51 (.slice A16 l18.length c17) l18, row (Kn.int .i64) 3 (.slice A70 l72.length c71) l72, row Ar3_i64.k 51 (.slice A73 l75.length c74) l75] ∧ Rd T_api_Node.k F77 A0_0 c0_0 x0_ ∧ Rd T_api_Step.k F77 (some ad34) c1_0 x1_ ∧  windroseref07_Run.l78 kq79 x0_ x1_ x2_ x3_ l18 x22 l72 l75 x76 = some r) k63 ⟨_, A19, c20, l21, A58, c59, l60, 0, F23, Nat.le_refl _, hE, .of, hS, g0_0, g1_0, H⟩ ?_
          rintro kq79 a u81 ⟨G, A70, c71, l72, A73, c74, l75, x76, F77, hkq, hE, hA, hS, g0_0, g1_0, H⟩
          cases kq79 with
          | zero => cases (show none = some r from H)
          | succ k80 =>
            rw [windroseref07_Run.l78_s] at H
            obtain ⟨J, hE⟩ := hE.at hA
            refine wp_seq_k fun K82 hK82 => ?_
            refine wp_seq_k fun K83 hK83 => ?_
            refine pl0 ?_
            refine plc hE (.r 0 4 .nil) (fun a hE => ?_)
            refine pld ?_
            refine hK83 _ _ ?_
            by_cases c84 : x76 < (l18.length : Int)
            · rw [if_pos c84] at H
              replace hE := hE.kt 45 c84
              refine ct hE ?_
              refine wp_skip ?_
              refine hK82 _ _ ?_
              refine wp_seq_k fun K85 hK85 => ?_
              refine wp_block ?_
              refine wp_seq_k fun K86 hK86 => ?_
              refine pl0 ?_
              by_cases c87 : 0 ≤ x76 ∧ x76 < (l18.length : Int)
              rotate_left
              · rw [if_neg c87] at H; cases H
              rw [if_pos c87] at H
              have hr88 := hS.row_at (i := 1) rfl
              have hE_ := hE
              obtain ⟨b89, rfl⟩ := row_addr hr88 c87.1 c87.2
              replace hE := hE_
              have hr_ := hS.row_at (i := 1) rfl
              obtain ⟨cs91, rfl, hc92⟩ := row_el hr_ Ar3_i64.z x76 c87.1 c87.2
              refine plc hE (.r 0 2 <| .x 2 c87 <| .cs 3 hc92 <| .nil) (fun a hE => ?_)
              refine ple hE (.al (t := 51) hS [.int .i64 0, .int .i64 0, .int .i64 0]) ?_
              rintro _ u94 a ⟨b93, rfl, hb93, hS, hg⟩ hE
              refine ple hE (.sto hS [.int .i64 ((nth Ar3_i64.z l18 x76).f0), .int .i64 ((nth Ar3_i64.z l18 x76).f1), .int .i64 ((nth Ar3_i64.z l18 x76).f2)]) ?_
              rintro _ u95 a ⟨rfl, hb93, hS, hz⟩ hE
              refine pld ?_
              refine hK86 _ _ ?_
              refine wp_seq_k fun K96 hK96 => ?_
              refine wp_seq_k fun K97 hK97 => ?_
              refine pl0 ?_
              have hb38 := hS.blk_at (i := 1) rfl
              refine plc hE (.r 0 1 <| .b 1 0 hb38 <| .r 2 1 <| .nil) (fun a hE => ?_)
              refine pld ?_
              refine hK97 _ _ ?_
              by_cases c98 : (nth T_api_Step.z x1_ x22).f0 = 3
              · rw [if_pos c98] at H
                replace hE := hE.kt 54 c98
                refine ct hE ?_
                refine wp_seq_k fun K99 hK99 => ?_
                refine pl0 ?_
                refine plc hE (.r 0 1 .nil) (fun a hE => ?_)
                refine pld ?_
                refine hK99 _ _ ?_
                refine wp_seq_k fun K100 hK100 => ?_
                refine wp_seq_k fun K101 hK101 => ?_
                refine pl0 ?_
                refine plc hE (.r 0 1 .nil) (fun a hE => ?_)
                refine pld ?_
                refine hK101 _ _ ?_
                refine wp_block ?_
                refine wp_loop_ghost (fun kq105 a w' => ∃ (G : Nat → Value) (y102 : Bool) (x103 : Int), kq105 ≤ k80 ∧ Env 144 G a ∧ At G [(0, .slice A0_0 x0_.length c0_0), (1, .slice (some ad34) x1_.length c1_0), (2, .int .i64 x2_), (3, .int .i64 x3_), (9, .slice (some ⟨b89, 0, none⟩) l18.length c17), (10, .slice A70 l72.length c71), (11, .int .i64 x22), (12, .pointer (some ⟨b38, 0, none⟩)), (13, .slice A73 l75.length c74), (14, .int .i64 x76), (15, .pointer (some ⟨b93, 0, none⟩)), (16, .bool y102), (17, .int .i64 x103)] ∧ St W (mine W []) F w' F77 [box b93 #[.int .i64 ((nth Ar3_i64.z l18 x76).f0), .int .i64 ((nth Ar3_i64.z l18 x76).f1), .int .i64 ((nth Ar3_i64.z l18 x76).f2)] 51, box b38 #[.int .i64 ((nth T_api_Step.z x1_ x22).f0), .int .i64 ((nth T_api_Step.z x1_ x22).f1), .int .i64 ((nth T_api_Step.z x1_ x22).f2)] 148, row Ar3_i64.k 51 (.slice (some ⟨b89, 0, none⟩) l18.length c17) l18, row (Kn.int .i64) 3 (.slice A70 l72.length c71) l72, row Ar3_i64.k 51 (.slice A73 l75.length c74) l75] ∧  windroseref07_Run.l104 kq105 x0_ x1_ x2_ x3_ l18 x22 l72 l75 x76 y102 x103 = some r) k80 ⟨_, false, 0, Nat.le_refl _, hE, .of, hS, H⟩ ?_
                rintro kq105 a u107 ⟨G, y102, x103, hkq, hE, hA, hS, H⟩
                cases kq105 with
                | zero => cases (show none = some r from H)
                | succ k106 =>
                  rw [windroseref07_Run.l104_s] at H
                  obtain ⟨J, hE⟩ := hE.at hA
                  refine wp_seq_k fun K108 hK108 => ?_
                  refine wp_seq_k fun K109 hK109 => ?_
                  refine pl0 ?_
                  refine plc hE (.r 0 4 .nil) (fun a hE => ?_)
                  refine pld ?_
                  refine hK109 _ _ ?_
                  by_cases c110 : x103 < (l72.length : Int)
                  · rw [if_pos c110] at H
                    replace hE := hE.kt 58 c110
                    refine ct hE ?_
                    refine wp_skip ?_
                    refine hK108 _ _ ?_
                    refine wp_seq_k fun K111 hK111 => ?_
                    refine wp_block ?_
                    refine drawn 11 ⟨[], [], fun q => False⟩ mixed rfl (by kernel_rfl) (fun hst => ?_)
                    replace hS := hS.drew
                    refine mny 9 hst hE (.r 0 2 .nil) (fun a hE => ?_)
                    by_cases c112 : y102 = true
                    · rw [if_pos c112] at H
                      replace hE := hE.bt 16 c112
                      replace hE := hE.bt 62 c112
                      refine mny 0 hst hE (.r 2 9 .nil) (fun a hE => ?_)
                      refine dn ?_
                      refine block_n ?_
                      refine hK111 _ _ ?_
                      refine pl0 ?_
                      refine plc hE (.r 0 3 .nil) (fun a hE => ?_)
                      refine pld ?_
                      exact then_n ⟨k106, by omega, _, true, (w64 (x103 + 1)), by omega, hE, .of, hS, H⟩
                    · rw [if_neg c112] at H
                      replace hE := hE.bf 16 c112
                      replace hE := hE.bf 62 c112
                      by_cases c113 : 0 ≤ x103 ∧ x103 < (l72.length : Int)
                      rotate_left
                      · rw [if_neg c113] at H; cases H
                      rw [if_pos c113] at H
                      have hr114 := hS.row_at (i := 3) rfl
                      have hE_ := hE
                      obtain ⟨b115, rfl⟩ := row_addr hr114 c113.1 c113.2
                      replace hE := hE_
                      have hr_ := hS.row_at (i := 3) rfl
                      obtain ⟨cs117, rfl, hc118⟩ := row_el hr_ 0 x103 c113.1 c113.2
                      have hb93 := hS.blk_at (i := 0) rfl
                      refine mny 0 hst hE (.r 2 2 <| .x 4 c113 <| .c 5 (hc118 0 _ rfl) <| .r 6 1 <| .b 7 2 hb93 <| .r 8 3 <| .nil) (fun a hE => ?_)
                      refine dn ?_
                      refine block_n ?_
                      refine hK111 _ _ ?_
                      refine pl0 ?_
                      refine plc hE (.r 0 3 .nil) (fun a hE => ?_)
                      refine pld ?_
                      exact then_n ⟨k106, by omega, _, ((nth 0 l72 x103) == (nth Ar3_i64.z l18 x76).f2), (w64 (x103 + 1)), by omega, hE, .of, hS, H⟩
                  · rw [if_neg c110] at H
                    replace hE := hE.kf 58 c110
                    refine cf hE ?_
                    refine wp_exit ?_
                    refine hK100 _ _ ?_
                    refine wp_seq_k fun K119 hK119 => ?_
                    refine wp_seq_k fun K120 hK120 => ?_
                    have J126 : ∀ kq124, kq124 ≤ k106 → ∀ (G : Nat → Value) (y122 : Bool) (a : Act) (w' : World), Env 144 G a → At G [(0, .slice A0_0 x0_.length c0_0), (1, .slice (some ad34) x1_.length c1_0), (2, .int .i64 x2_), (3, .int .i64 x3_), (9, .slice (some ⟨b89, 0, none⟩) l18.length c17), (10, .slice A70 l72.length c71), (11, .int .i64 x22), (12, .pointer (some ⟨b38, 0, none⟩)), (13, .slice A73 l75.length c74), (14, .int .i64 x76), (15, .pointer (some ⟨b93, 0, none⟩)), (78, .bool y122)] → St W (mine W []) F w' F77 [box b93 #[.int .i64 ((nth Ar3_i64.z l18 x76).f0), .int .i64 ((nth Ar3_i64.z l18 x76).f1), .int .i64 ((nth Ar3_i64.z l18 x76).f2)] 51, box b38 #[.int .i64 ((nth T_api_Step.z x1_ x22).f0), .int .i64 ((nth T_api_Step.z x1_ x22).f1), .int .i64 ((nth T_api_Step.z x1_ x22).f2)] 148, row Ar3_i64.k 51 (.slice (some ⟨b89, 0, none⟩) l18.length c17) l18, row (Kn.int .i64) 3 (.slice A70 l72.length c71) l72, row Ar3_i64.k 51 (.slice A73 l75.length c74) l75] → windroseref07_Run.j123 kq124 x0_ x1_ x2_ x3_ l18 x22 l72 l75 x76 y122 = some r → K120 a w' := by
                      intro kq124 hkq G y122 a u127 hE hA hS H
                      cases kq124 with
                      | zero => cases (show none = some r from H)
                      | succ k125 =>
                        rw [windroseref07_Run.j123_s] at H
                        obtain ⟨J, hE⟩ := hE.at hA
                        refine hK120 _ _ ?_
                        by_cases c128 : y122 = true
                        · rw [if_pos c128] at H
                          replace hE := hE.bt 78 c128
                          refine ct hE ?_
                          refine pl0 ?_
                          have hb93 := hS.blk_at (i := 0) rfl
                          refine plc hE (.r 0 2 <| .b 2 2 hb93 <| .nil) (fun a hE => ?_)
                          refine ple hE (.lit (d := (Kn.int .i64)) (e := 3) hS [(nth Ar3_i64.z l18 x76).f2] (.cons rfl .nil)) ?_
                          rintro _ u129 a ⟨A130, c131, rfl, hS, hg⟩ hE
                          by_cases c133 : ((l72.length : Int) + ((1 : Nat) : Int)) * 8 ≤ 140737488355328
                          rotate_left
                          · rw [if_neg c133] at H; cases H
                          rw [if_pos c133] at H
                          replace hS := hS.front 4 rfl
                          refine ple hE (.ap (d := (Kn.int .i64)) 8 hS (row_src (hS.row_at (i := 1) rfl)) c133 c131) ?_
                          rintro _ u136 a ⟨A134, c135, rfl, hS, hz⟩ hE
                          refine plc hE (.r 5 1 .nil) (fun a hE => ?_)
                          refine pld ?_
                          refine hK119 _ _ ?_
                          refine wp_exit ?_
                          refine hK85 _ _ ?_
                          refine pl0 ?_
                          refine plc hE (.r 0 3 .nil) (fun a hE => ?_)
                          refine pld ?_
                          replace hS := hS.front 1 rfl
                          replace hS := hS.tail
                          replace hS := hS.front 1 rfl
                          replace hS := hS.tail
                          replace hS := hS.front 3 rfl
                          replace hS := hS.front 1 rfl
                          replace hS := hS.front 3 rfl
                          replace hS := hS.front 3 rfl
                          exact then_n ⟨k125, by omega, _, A134, c135, (l72 ++ [(nth Ar3_i64.z l18 x76).f2]), A73, c74, l75, (w64 (x76 + 1)), F77, by omega, hE, .of, hS, g0_0, g1_0, H⟩
                        · rw [if_neg c128] at H
                          replace hE := hE.bf 78 c128
                          refine cf hE ?_
                          refine wp_skip ?_
                          refine hK119 _ _ ?_
                          refine wp_exit ?_
                          refine hK85 _ _ ?_
                          refine pl0 ?_
                          refine plc hE (.r 0 3 .nil) (fun a hE => ?_)
                          refine pld ?_
                          replace hS := hS.tail
                          exact then_n ⟨k125, by omega, _, A70, c71, l72, A73, c74, l75, (w64 (x76 + 1)), F77, by omega, hE, .of, hS, g0_0, g1_0, H⟩
                    refine pl0 ?_
                    refine plc hE (.r 0 3 .nil) (fun a hE => ?_)
                    by_cases c121 : y102 = true
                    · rw [if_pos c121] at H
                      replace hE := hE.btn 73 c121
                      refine plc hE (.r 3 5 .nil) (fun a hE => ?_)
                      refine pld ?_
                      exact J126 _ (by omega) _ false _ _ hE .of hS H
                    · rw [if_neg c121] at H
                      replace hE := hE.bfn 73 c121
                      refine plc hE (.r 3 5 .nil) (fun a hE => ?_)
                      refine pld ?_
                      exact J126 _ (by omega) _ (decide ((l72.length : Int) < x3_)) _ _ hE .of hS H
              · rw [if_neg c98] at H
                replace hE := hE.kf 54 c98
                refine cf hE ?_
                refine wp_skip ?_
                refine hK96 _ _ ?_
                refine wp_seq_k fun K137 hK137 => ?_
                refine pl0 ?_
                refine plc hE (.r 0 2 <| .b 2 0 hb93 <| .r 3 1 <| .b 4 1 hb93 <| .nil) (fun a hE => ?_)
                obtain ⟨t139, h140, H⟩ := Option.bind_eq_some_iff.mp H
                refine ple hE (.cl en83 (windroseref06_Leaves.calls k80 x0_ ((nth Ar3_i64.z l18 x76).f0) ((nth Ar3_i64.z l18 x76).f1) _ _ _ _ _ hS.own.sub g0_0 h140)) ?_
                rintro _ u138 a ⟨F141, A142, c143, rfl, hC⟩ hE
                have hs := hC.sub
                replace hS := hS.called (X := []) hC
                replace g0_0 := g0_0.mono hs
                replace g1_0 := g1_0.mono hs
                refine plc hE (.r 6 1 .nil) (fun a hE => ?_)
                refine pld ?_
                refine hK137 _ _ ?_
                refine wp_seq_k fun K146 hK146 => ?_
                have J165 : ∀ kq163, kq163 ≤ k80 → ∀ (G : Nat → Value) (A158 : Option Addr) (c159 : Nat) (l160 : List T_api_Choice) (F161 : World) (a : Act) (w' : World), Env 144 G a → At G [(0, .slice A0_0 x0_.length c0_0), (1, .slice (some ad34) x1_.length c1_0), (2, .int .i64 x2_), (3, .int .i64 x3_), (9, .slice (some ⟨b89, 0, none⟩) l18.length c17), (10, .slice A70 l72.length c71), (11, .int .i64 x22), (12, .pointer (some ⟨b38, 0, none⟩)), (13, .slice A73 l75.length c74), (14, .int .i64 x76), (15, .pointer (some ⟨b93, 0, none⟩)), (18, .slice A158 l160.length c159)] → St W (mine W []) F w' F161 [box b93 #[.int .i64 ((nth Ar3_i64.z l18 x76).f0), .int .i64 ((nth Ar3_i64.z l18 x76).f1), .int .i64 ((nth Ar3_i64.z l18 x76).f2)] 51, box b38 #[.int .i64 ((nth T_api_Step.z x1_ x22).f0), .int .i64 ((nth T_api_Step.z x1_ x22).f1), .int .i64 ((nth T_api_Step.z x1_ x22).f2)] 148, row Ar3_i64.k 51 (.slice (some ⟨b89, 0, none⟩) l18.length c17) l18, row (Kn.int .i64) 3 (.slice A70 l72.length c71) l72, row Ar3_i64.k 51 (.slice A73 l75.length c74) l75, row T_api_Choice.k 106 (.slice A158 l160.length c159) l160] → Rd T_api_Node.k F161 A0_0 c0_0 x0_ → Rd T_api_Step.k F161 (some ad34) c1_0 x1_ → windroseref07_Run.j162 kq163 x0_ x1_ x2_ x3_ l18 x22 l72 l75 x76 l160 = some r → K146 a w' := by
                  intro kq163 hkq G A158 c159 l160 F161 a u166 hE hA hS g0_0 g1_0 H
                  cases kq163 with
                  | zero => cases (show none = some r from H)
                  | succ k164 =>
                    rw [windroseref07_Run.j162_s] at H
                    obtain ⟨J, hE⟩ := hE.at hA
                    refine hK146 _ _ ?_
                    refine wp_seq_k fun K167 hK167 => ?_
                    have J186 : ∀ kq184, kq184 ≤ k164 → ∀ (G : Nat → Value) (A179 : Option Addr) (c180 : Nat) (l181 : List T_api_Choice) (F182 : World) (a : Act) (w' : World), Env 144 G a → At G [(0, .slice A0_0 x0_.length c0_0), (1, .slice (some ad34) x1_.length c1_0), (2, .int .i64 x2_), (3, .int .i64 x3_), (9, .slice (some ⟨b89, 0, none⟩) l18.length c17), (10, .slice A70 l72.length c71), (11, .int .i64 x22), (12, .pointer (some ⟨b38, 0, none⟩)), (13, .slice A73 l75.length c74), (14, .int .i64 x76), (15, .pointer (some ⟨b93, 0, none⟩)), (18, .slice A179 l181.length c180)] → St W (mine W []) F w' F182 [box b93 #[.int .i64 ((nth Ar3_i64.z l18 x76).f0), .int .i64 ((nth Ar3_i64.z l18 x76).f1), .int .i64 ((nth Ar3_i64.z l18 x76).f2)] 51, box b38 #[.int .i64 ((nth T_api_Step.z x1_ x22).f0), .int .i64 ((nth T_api_Step.z x1_ x22).f1), .int .i64 ((nth T_api_Step.z x1_ x22).f2)] 148, row Ar3_i64.k 51 (.slice (some ⟨b89, 0, none⟩) l18.length c17) l18, row (Kn.int .i64) 3 (.slice A70 l72.length c71) l72, row Ar3_i64.k 51 (.slice A73 l75.length c74) l75, row T_api_Choice.k 106 (.slice A179 l181.length c180) l181] → Rd T_api_Node.k F182 A0_0 c0_0 x0_ → Rd T_api_Step.k F182 (some ad34) c1_0 x1_ → windroseref07_Run.j183 kq184 x0_ x1_ x2_ x3_ l18 x22 l72 l75 x76 l181 = some r → K167 a w' := by
                      intro kq184 hkq G A179 c180 l181 F182 a u187 hE hA hS g0_0 g1_0 H
                      cases kq184 with
                      | zero => cases (show none = some r from H)
                      | succ k185 =>
                        rw [windroseref07_Run.j183_s] at H
                        obtain ⟨J, hE⟩ := hE.at hA
                        refine hK167 _ _ ?_
                        refine wp_seq_k fun K188 hK188 => ?_
                        refine pl0 ?_
                        have hb38 := hS.blk_at (i := 1) rfl
                        have hb93 := hS.blk_at (i := 0) rfl
                        refine plc hE (.r 0 3 <| .b 3 1 hb38 <| .r 4 2 <| .b 6 0 hb93 <| .r 7 2 <| .b 9 1 hb93 <| .r 10 1 <| .nil) (fun a hE => ?_)
                        refine ple hE (.lit (d := (Kn.int .u64)) (e := 22) hS [(IntKind.u64.wrap (nth T_api_Step.z x1_ x22).f1), (IntKind.u64.wrap (nth Ar3_i64.z l18 x76).f0), (IntKind.u64.wrap (nth Ar3_i64.z l18 x76).f1)] (.cons rfl <| .cons rfl <| .cons rfl .nil)) ?_
                        rintro _ u189 a ⟨A190, c191, rfl, hS, hg⟩ hE
                        obtain ⟨t194, h195, H⟩ := Option.bind_eq_some_iff.mp H
                        refine ple hE (.cl en86 (windroseref01_Fold.calls k185 (IntKind.u64.wrap x2_) [(IntKind.u64.wrap (nth T_api_Step.z x1_ x22).f1), (IntKind.u64.wrap (nth Ar3_i64.z l18 x76).f0), (IntKind.u64.wrap (nth Ar3_i64.z l18 x76).f1)] _ _ _ _ _ (Sub.refl _) (hS.rd_at (i := 0) rfl) h195)) ?_
                        rintro _ u193 a ⟨_, rfl, hC⟩ hE
                        replace hS := hS.lent hC
                        refine plc hE (.r 13 1 .nil) (fun a hE => ?_)
                        replace hS := hS.front 6 rfl
                        obtain ⟨F196, hs, g197, hS⟩ := hS.give
                        replace g0_0 := g0_0.mono hs
                        replace g1_0 := g1_0.mono hs
                        obtain ⟨t199, h200, H⟩ := Option.bind_eq_some_iff.mp H
                        refine ple hE (.cl en85 (windroseref05_Order.calls k185 t194 l181 _ _ _ _ _ hS.own.sub g197 h200)) ?_
                        rintro _ u198 a ⟨F201, A202, c203, rfl, hC⟩ hE
                        have hs := hC.sub
                        replace hS := hS.called (X := []) hC
                        replace g0_0 := g0_0.mono hs
                        replace g1_0 := g1_0.mono hs
                        replace g197 := g197.mono hs
                        refine plc hE (.r 15 1 .nil) (fun a hE => ?_)
                        refine pld ?_
                        refine hK188 _ _ ?_
                        refine wp_seq_k fun K206 hK206 => ?_
                        refine pl0 ?_
                        refine plc hE (.r 0 1 .nil) (fun a hE => ?_)
                        refine pld ?_
                        refine hK206 _ _ ?_
                        refine wp_block ?_
                        replace hS := hS.front 1 rfl
                        replace hS := hS.tail
                        replace hS := hS.front 5 rfl
                        replace hS := hS.front 5 rfl
                        replace hS := hS.front 5 rfl
                        replace hS := hS.front 3 rfl
                        replace hS := hS.front 5 rfl
                        replace hS := hS.front 5 rfl
                        refine wp_loop_ghost (fun kq213 a w' => ∃ (G : Nat → Value) (A208 : Option Addr) (c209 : Nat) (l210 : List Ar3_i64) (x211 : Int), kq213 ≤ k185 ∧ Env 144 G a ∧ At G [(0, .slice A0_0 x0_.length c0_0), (1, .slice (some ad34) x1_.length c1_0), (2, .int .i64 x2_), (3, .int .i64 x3_), (9, .slice (some ⟨b89, 0, none⟩) l18.length c17), (10, .slice A70 l72.length c71), (11, .int .i64 x22), (12, .pointer (some ⟨b38, 0, none⟩)), (13, .slice A208 l210.length c209), (14, .int .i64 x76), (15, .pointer (some ⟨b93, 0, none⟩)), (19, .slice A202 t199.length c203), (20, .int .i64 x211)] ∧ St W (mine W []) F w' F201 [box b93 #[.int .i64 ((nth Ar3_i64.z l18 x76).f0), .int .i64 ((nth Ar3_i64.z l18 x76).f1), .int .i64 ((nth Ar3_i64.z l18 x76).f2)] 51, box b38 #[.int .i64 ((nth T_api_Step.z x1_ x22).f0), .int .i64 ((nth T_api_Step.z x1_ x22).f1), .int .i64 ((nth T_api_Step.z x1_ x22).f2)] 148, row (Kn.int .i64) 3 (.slice A202 t199.length c203) t199, row Ar3_i64.k 51 (.slice (some ⟨b89, 0, none⟩) l18.length c17) l18, row (Kn.int .i64) 3 (.slice A70 l72.length c71) l72, row Ar3_i64.k 51 (.slice A208 l210.length c209) l210] ∧  windroseref07_Run.l212 kq213 x0_ x1_ x2_ x3_ l18 x22 l72 x76 t199 l210 x211 = some r) k185 ⟨_, A73, c74, l75, 0, Nat.le_refl _, hE, .of, hS, H⟩ ?_
                        rintro kq213 a u215 ⟨G, A208, c209, l210, x211, hkq, hE, hA, hS, H⟩
                        cases kq213 with
                        | zero => cases (show none = some r from H)
                        | succ k214 =>
                          rw [windroseref07_Run.l212_s] at H
                          obtain ⟨J, hE⟩ := hE.at hA
                          refine wp_seq_k fun K216 hK216 => ?_
                          refine wp_seq_k fun K217 hK217 => ?_
                          have J223 : ∀ kq221, kq221 ≤ k214 → ∀ (G : Nat → Value) (y219 : Bool) (a : Act) (w' : World), Env 144 G a → At G [(0, .slice A0_0 x0_.length c0_0), (1, .slice (some ad34) x1_.length c1_0), (2, .int .i64 x2_), (3, .int .i64 x3_), (9, .slice (some ⟨b89, 0, none⟩) l18.length c17), (10, .slice A70 l72.length c71), (11, .int .i64 x22), (12, .pointer (some ⟨b38, 0, none⟩)), (13, .slice A208 l210.length c209), (14, .int .i64 x76), (15, .pointer (some ⟨b93, 0, none⟩)), (19, .slice A202 t199.length c203), (20, .int .i64 x211), (126, .bool y219)] → St W (mine W []) F w' F201 [box b93 #[.int .i64 ((nth Ar3_i64.z l18 x76).f0), .int .i64 ((nth Ar3_i64.z l18 x76).f1), .int .i64 ((nth Ar3_i64.z l18 x76).f2)] 51, box b38 #[.int .i64 ((nth T_api_Step.z x1_ x22).f0), .int .i64 ((nth T_api_Step.z x1_ x22).f1), .int .i64 ((nth T_api_Step.z x1_ x22).f2)] 148, row (Kn.int .i64) 3 (.slice A202 t199.length c203) t199, row Ar3_i64.k 51 (.slice (some ⟨b89, 0, none⟩) l18.length c17) l18, row (Kn.int .i64) 3 (.slice A70 l72.length c71) l72, row Ar3_i64.k 51 (.slice A208 l210.length c209) l210] → windroseref07_Run.j220 kq221 x0_ x1_ x2_ x3_ l18 x22 l72 x76 t199 l210 x211 y219 = some r → K217 a w' := by
                            intro kq221 hkq G y219 a u224 hE hA hS H
                            cases kq221 with
                            | zero => cases (show none = some r from H)
                            | succ k222 =>
                              rw [windroseref07_Run.j220_s] at H
                              obtain ⟨J, hE⟩ := hE.at hA
                              refine hK217 _ _ ?_
                              by_cases c225 : y219 = true
                              · rw [if_pos c225] at H
                                replace hE := hE.bt 126 c225
                                refine ct hE ?_
                                refine wp_skip ?_
                                refine hK216 _ _ ?_
                                refine wp_seq_k fun K226 hK226 => ?_
                                refine wp_block ?_
                                refine wp_seq_k fun K227 hK227 => ?_
                                refine pl0 ?_
                                have hb93 := hS.blk_at (i := 0) rfl
                                refine plc hE (.bn 0 0 3 hb93 .nil) (fun a hE => ?_)
                                refine ple hE (.al (t := 51) hS [.int .i64 0, .int .i64 0, .int .i64 0]) ?_
                                rintro _ u229 a ⟨b228, rfl, hb228, hS, hg⟩ hE
                                refine ple hE (.sto hS [.int .i64 ((nth Ar3_i64.z l18 x76).f0), .int .i64 ((nth Ar3_i64.z l18 x76).f1), .int .i64 ((nth Ar3_i64.z l18 x76).f2)]) ?_
                                rintro _ u230 a ⟨rfl, hb228, hS, hz⟩ hE
                                refine pld ?_
                                refine hK227 _ _ ?_
                                refine wp_seq_k fun K231 hK231 => ?_
                                have J250 : ∀ kq248, kq248 ≤ k222 → ∀ (G : Nat → Value) (x244 : Int) (x245 : Int) (x246 : Int) (a : Act) (w' : World), Env 144 G a → At G [(0, .slice A0_0 x0_.length c0_0), (1, .slice (some ad34) x1_.length c1_0), (2, .int .i64 x2_), (3, .int .i64 x3_), (9, .slice (some ⟨b89, 0, none⟩) l18.length c17), (10, .slice A70 l72.length c71), (11, .int .i64 x22), (12, .pointer (some ⟨b38, 0, none⟩)), (13, .slice A208 l210.length c209), (14, .int .i64 x76), (15, .pointer (some ⟨b93, 0, none⟩)), (19, .slice A202 t199.length c203), (20, .int .i64 x211), (21, .pointer (some ⟨b228, 0, none⟩))] → St W (mine W []) F w' F201 [box b228 #[.int .i64 x244, .int .i64 x245, .int .i64 x246] 51, box b93 #[.int .i64 ((nth Ar3_i64.z l18 x76).f0), .int .i64 ((nth Ar3_i64.z l18 x76).f1), .int .i64 ((nth Ar3_i64.z l18 x76).f2)] 51, box b38 #[.int .i64 ((nth T_api_Step.z x1_ x22).f0), .int .i64 ((nth T_api_Step.z x1_ x22).f1), .int .i64 ((nth T_api_Step.z x1_ x22).f2)] 148, row (Kn.int .i64) 3 (.slice A202 t199.length c203) t199, row Ar3_i64.k 51 (.slice (some ⟨b89, 0, none⟩) l18.length c17) l18, row (Kn.int .i64) 3 (.slice A70 l72.length c71) l72, row Ar3_i64.k 51 (.slice A208 l210.length c209) l210] → windroseref07_Run.j247 kq248 x0_ x1_ x2_ x3_ l18 x22 l72 x76 t199 l210 x211 x244 x245 x246 = some r → K231 a w' := by
                                  intro kq248 hkq G x244 x245 x246 a u251 hE hA hS H
                                  cases kq248 with
                                  | zero => cases (show none = some r from H)
                                  | succ k249 =>
                                    rw [windroseref07_Run.j247_s] at H
                                    obtain ⟨J, hE⟩ := hE.at hA
                                    refine hK231 _ _ ?_
                                    refine pl0 ?_
                                    have hb228 := hS.blk_at (i := 0) rfl
                                    refine plc hE (.r 0 1 <| .bn 1 0 3 hb228 <| .nil) (fun a hE => ?_)
                                    refine ple hE (.lit (d := Ar3_i64.k) (e := 51) hS [(⟨x244, x245, x246⟩ : Ar3_i64)] (.cons rfl .nil)) ?_
                                    rintro _ u252 a ⟨A253, c254, rfl, hS, hg⟩ hE
                                    by_cases c256 : ((l210.length : Int) + ((1 : Nat) : Int)) * 24 ≤ 140737488355328
                                    rotate_left
                                    · rw [if_neg c256] at H; cases H
                                    rw [if_pos c256] at H
                                    replace hS := hS.front 7 rfl
                                    refine ple hE (.ap (d := Ar3_i64.k) 24 hS (row_src (hS.row_at (i := 1) rfl)) c256 c254) ?_
                                    rintro _ u259 a ⟨A257, c258, rfl, hS, hz⟩ hE
                                    refine plc hE (.r 4 1 .nil) (fun a hE => ?_)
                                    refine pld ?_
                                    refine block_n ?_
                                    refine hK226 _ _ ?_
                                    refine pl0 ?_
                                    refine plc hE (.r 0 3 .nil) (fun a hE => ?_)
                                    refine pld ?_
                                    replace hS := hS.front 1 rfl
                                    replace hS := hS.tail
                                    replace hS := hS.front 1 rfl
                                    replace hS := hS.tail
                                    replace hS := hS.front 5 rfl
                                    replace hS := hS.front 5 rfl
                                    replace hS := hS.front 5 rfl
                                    replace hS := hS.front 5 rfl
                                    replace hS := hS.front 5 rfl
                                    exact then_n ⟨k249, by omega, _, A257, c258, (l210 ++ [(⟨x244, x245, x246⟩ : Ar3_i64)]), (w64 (x211 + 1)), by omega, hE, .of, hS, H⟩
                                refine drawn 9 ⟨[8], [], fun q => False⟩ mixed rfl (by kernel_rfl) (fun hst => ?_)
                                replace hS := hS.drew
                                have hb38 := hS.blk_at (i := 2) rfl
                                by_cases c232 : 0 ≤ x211 ∧ x211 < (t199.length : Int)
                                rotate_left
                                · rw [if_neg c232] at H; cases H
                                rw [if_pos c232] at H
                                have hr233 := hS.row_at (i := 3) rfl
                                have hE_ := hE
                                obtain ⟨b234, rfl⟩ := row_addr hr233 c232.1 c232.2
                                replace hE := hE_
                                have hr_ := hS.row_at (i := 3) rfl
                                obtain ⟨cs236, rfl, hc237⟩ := row_el hr_ 0 x211 c232.1 c232.2
                                refine mny 2 hst hE (.r 0 1 <| .b 1 1 hb38 <| .r 2 3 <| .x 5 c232 <| .c 6 (hc237 0 _ rfl) <| .nil) (fun a hE => ?_)
                                by_cases c238 : (w64 ((nth T_api_Step.z x1_ x22).f1 - 1)) = 0
                                · rw [if_pos c238] at H
                                  replace hE := hE.set (d := 132) (v := .int .i64 0) (Eq.trans (b := .int .i64 (w64 ((nth T_api_Step.z x1_ x22).f1 - 1))) (by kernel_rfl) (congrArg _ c238))
                                  refine mny 1 hst hE (.r 7 1 .nil) (fun a hE => ?_)
                                  refine on1 8 hE (.sto hS [.int .i64 (nth 0 t199 x211), .int .i64 ((nth Ar3_i64.z l18 x76).f1), .int .i64 ((nth Ar3_i64.z l18 x76).f2)]) ?_
                                  rintro _ u239 a ⟨rfl, hb228, hS, hz⟩ hE
                                  refine ⟨.d, ?_⟩
                                  refine dn ?_
                                  exact J250 _ (by omega) _ (nth 0 t199 x211) ((nth Ar3_i64.z l18 x76).f1) ((nth Ar3_i64.z l18 x76).f2) _ _ hE .of hS H
                                · rw [if_neg c238] at H
                                  by_cases c240 : (w64 ((nth T_api_Step.z x1_ x22).f1 - 1)) = 1
                                  · rw [if_pos c240] at H
                                    replace hE := hE.set (d := 132) (v := .int .i64 1) (Eq.trans (b := .int .i64 (w64 ((nth T_api_Step.z x1_ x22).f1 - 1))) (by kernel_rfl) (congrArg _ c240))
                                    refine mny 1 hst hE (.r 7 1 .nil) (fun a hE => ?_)
                                    refine on1 8 hE (.sto hS [.int .i64 ((nth Ar3_i64.z l18 x76).f0), .int .i64 (nth 0 t199 x211), .int .i64 ((nth Ar3_i64.z l18 x76).f2)]) ?_
                                    rintro _ u241 a ⟨rfl, hb228, hS, hz⟩ hE
                                    refine ⟨.d, ?_⟩
                                    refine dn ?_
                                    exact J250 _ (by omega) _ ((nth Ar3_i64.z l18 x76).f0) (nth 0 t199 x211) ((nth Ar3_i64.z l18 x76).f2) _ _ hE .of hS H
                                  · rw [if_neg c240] at H
                                    by_cases c242 : (w64 ((nth T_api_Step.z x1_ x22).f1 - 1)) = 2
                                    · rw [if_pos c242] at H
                                      replace hE := hE.set (d := 132) (v := .int .i64 2) (Eq.trans (b := .int .i64 (w64 ((nth T_api_Step.z x1_ x22).f1 - 1))) (by kernel_rfl) (congrArg _ c242))
                                      refine mny 1 hst hE (.r 7 1 .nil) (fun a hE => ?_)
                                      refine on1 8 hE (.sto hS [.int .i64 ((nth Ar3_i64.z l18 x76).f0), .int .i64 ((nth Ar3_i64.z l18 x76).f1), .int .i64 (nth 0 t199 x211)]) ?_
                                      rintro _ u243 a ⟨rfl, hb228, hS, hz⟩ hE
                                      refine ⟨.d, ?_⟩
                                      refine dn ?_
                                      exact J250 _ (by omega) _ ((nth Ar3_i64.z l18 x76).f0) ((nth Ar3_i64.z l18 x76).f1) (nth 0 t199 x211) _ _ hE .of hS H
                                    · rw [if_neg c242] at H
                                      cases (show none = some r from H)
                              · rw [if_neg c225] at H
                                replace hE := hE.bf 126 c225
                                refine cf hE ?_
                                refine wp_exit ?_
                                refine hK85 _ _ ?_
                                refine pl0 ?_
                                refine plc hE (.r 0 3 .nil) (fun a hE => ?_)
                                refine pld ?_
                                replace hS := hS.tail
                                replace hS := hS.front 1 rfl
                                replace hS := hS.tail
                                exact then_n ⟨k222, by omega, _, A70, c71, l72, A208, c209, l210, (w64 (x76 + 1)), F201, by omega, hE, .of, hS, g0_0, g1_0, H⟩
                          refine pl0 ?_
                          refine plc hE (.r 0 5 .nil) (fun a hE => ?_)
                          by_cases c218 : x211 < (t199.length : Int)
                          · rw [if_pos c218] at H
                            replace hE := hE.kt 121 c218
                            have hb38 := hS.blk_at (i := 1) rfl
                            refine plc hE (.r 5 2 <| .b 7 2 hb38 <| .r 8 2 <| .nil) (fun a hE => ?_)
                            refine pld ?_
                            exact J223 _ (by omega) _ (decide (x211 < (nth T_api_Step.z x1_ x22).f2)) _ _ hE .of hS H
                          · rw [if_neg c218] at H
                            replace hE := hE.kf 121 c218
                            refine plc hE (.r 5 5 .nil) (fun a hE => ?_)
                            refine pld ?_
                            exact J223 _ (by omega) _ false _ _ hE .of hS H
                    refine wp_seq_k fun K168 hK168 => ?_
                    refine pl0 ?_
                    have hb38 := hS.blk_at (i := 1) rfl
                    refine plc hE (.r 0 1 <| .b 1 1 hb38 <| .r 2 1 <| .nil) (fun a hE => ?_)
                    refine pld ?_
                    refine hK168 _ _ ?_
                    by_cases c169 : (nth T_api_Step.z x1_ x22).f1 = 2
                    · rw [if_pos c169] at H
                      replace hE := hE.kt 97 c169
                      refine ct hE ?_
                      refine pl0 ?_
                      have hb93 := hS.blk_at (i := 0) rfl
                      refine plc hE (.r 0 2 <| .b 2 0 hb93 <| .nil) (fun a hE => ?_)
                      obtain ⟨t171, h172, H⟩ := Option.bind_eq_some_iff.mp H
                      refine ple hE (.cl en84 (windroseref06_Racks.calls k164 x0_ ((nth Ar3_i64.z l18 x76).f0) _ _ _ _ _ hS.own.sub g0_0 h172)) ?_
                      rintro _ u170 a ⟨F173, A174, c175, rfl, hC⟩ hE
                      have hs := hC.sub
                      replace hS := hS.called (X := []) hC
                      replace g0_0 := g0_0.mono hs
                      replace g1_0 := g1_0.mono hs
                      refine plc hE (.r 4 1 .nil) (fun a hE => ?_)
                      refine pld ?_
                      replace hS := hS.front 6 rfl
                      replace hS := hS.tail
                      replace hS := hS.front 5 rfl
                      replace hS := hS.front 5 rfl
                      replace hS := hS.front 5 rfl
                      replace hS := hS.front 5 rfl
                      replace hS := hS.front 5 rfl
                      exact J186 _ (by omega) _ A174 c175 t171 F173 _ _ hE .of hS g0_0 g1_0 H
                    · rw [if_neg c169] at H
                      replace hE := hE.kf 97 c169
                      refine cf hE ?_
                      refine wp_skip ?_
                      exact J186 _ (by omega) _ A158 c159 l160 F161 _ _ hE .of hS g0_0 g1_0 H
                refine wp_seq_k fun K147 hK147 => ?_
                refine pl0 ?_
                have hb38 := hS.blk_at (i := 2) rfl
                refine plc hE (.r 0 1 <| .b 1 1 hb38 <| .r 2 1 <| .nil) (fun a hE => ?_)
                refine pld ?_
                refine hK147 _ _ ?_
                by_cases c148 : (nth T_api_Step.z x1_ x22).f1 = 1
                · rw [if_pos c148] at H
                  replace hE := hE.kt 92 c148
                  refine ct hE ?_
                  refine pl0 ?_
                  refine plc hE (.r 0 1 .nil) (fun a hE => ?_)
                  obtain ⟨t150, h151, H⟩ := Option.bind_eq_some_iff.mp H
                  refine ple hE (.cl en48 (windroseref06_Zones.calls k80 x0_ _ _ _ _ _ hS.own.sub g0_0 h151)) ?_
                  rintro _ u149 a ⟨F152, A153, c154, rfl, hC⟩ hE
                  have hs := hC.sub
                  replace hS := hS.called (X := []) hC
                  replace g0_0 := g0_0.mono hs
                  replace g1_0 := g1_0.mono hs
                  refine plc hE (.r 2 1 .nil) (fun a hE => ?_)
                  refine pld ?_
                  replace hS := hS.front 1 rfl
                  replace hS := hS.tail
                  replace hS := hS.front 5 rfl
                  replace hS := hS.front 5 rfl
                  replace hS := hS.front 5 rfl
                  replace hS := hS.front 5 rfl
                  replace hS := hS.front 5 rfl
                  exact J165 _ (by omega) _ A153 c154 t150 F152 _ _ hE .of hS g0_0 g1_0 H
                · rw [if_neg c148] at H
                  replace hE := hE.kf 92 c148
                  refine cf hE ?_
                  refine wp_skip ?_
                  replace hS := hS.front 5 rfl
                  replace hS := hS.front 5 rfl
                  replace hS := hS.front 5 rfl
                  replace hS := hS.front 5 rfl
                  replace hS := hS.front 5 rfl
                  exact J165 _ (by omega) _ A142 c143 t139 F141 _ _ hE .of hS g0_0 g1_0 H
            · rw [if_neg c84] at H
              replace hE := hE.kf 45 c84
              refine cf hE ?_
              refine wp_exit ?_
              refine hK66 _ _ ?_
              refine pl0 ?_
              refine plc hE (.r 0 2 .nil) (fun a hE => ?_)
              refine pld ?_
              refine block_n ?_
              refine hK31 _ _ ?_
              refine pl0 ?_
              refine plc hE (.r 0 3 .nil) (fun a hE => ?_)
              refine pld ?_
              replace hS := hS.tail
              replace hS := hS.tail
              replace hS := hS.front 1 rfl
              exact then_n ⟨k80, by omega, _, A73, c74, l75, A70, c71, l72, (w64 (x22 + 1)), F77, by omega, hE, .of, hS, g0_0, g1_0, H⟩
      refine wp_seq_k fun K47 hK47 => ?_
      refine pl0 ?_
      have hb38 := hS.blk_at (i := 1) rfl
      refine plc hE (.r 0 1 <| .b 1 0 hb38 <| .r 2 1 <| .nil) (fun a hE => ?_)
      refine pld ?_
      refine hK47 _ _ ?_
      by_cases c48 : (nth T_api_Step.z x1_ x22).f0 = 1
      · rw [if_pos c48] at H
        replace hE := hE.kt 37 c48
        refine ct hE ?_
        refine pl0 ?_
        refine plc hE (.r 0 2 .nil) (fun a hE => ?_)
        refine ple hE (.lit (d := Ar3_i64.k) (e := 51) hS [(⟨0, 0, 0⟩ : Ar3_i64)] (.cons rfl .nil)) ?_
        rintro _ u49 a ⟨A50, c51, rfl, hS, hg⟩ hE
        by_cases c53 : ((([] : List Ar3_i64).length : Int) + ((1 : Nat) : Int)) * 24 ≤ 140737488355328
        rotate_left
        · rw [if_neg c53] at H; cases H
        rw [if_pos c53] at H
        replace hS := hS.front 1 rfl
        refine ple hE (.ap (d := Ar3_i64.k) 24 hS (row_src (hS.row_at (i := 1) rfl)) c53 c51) ?_
        rintro _ u56 a ⟨A54, c55, rfl, hS, hz⟩ hE
        refine plc hE (.r 4 1 .nil) (fun a hE => ?_)
        refine pld ?_
        replace hS := hS.front 1 rfl
        replace hS := hS.tail
        replace hS := hS.front 3 rfl
        replace hS := hS.front 3 rfl
        replace hS := hS.front 3 rfl
        exact J64 _ (by omega) _ A54 c55 (([] : List Ar3_i64) ++ [(⟨0, 0, 0⟩ : Ar3_i64)]) _ _ hE .of hS H
      · rw [if_neg c48] at H
        replace hE := hE.kf 37 c48
        refine cf hE ?_
        refine wp_skip ?_
        replace hS := hS.front 3 rfl
        replace hS := hS.front 3 rfl
        replace hS := hS.front 3 rfl
        exact J64 _ (by omega) _ A43 c44 ([] : List Ar3_i64) _ _ hE .of hS H
    · rw [if_neg c30] at H
      replace hE := hE.kf 27 c30
      refine cf hE ?_
      refine wp_exit ?_
      refine hK12 _ _ ?_
      refine wp_seq_k fun K260 hK260 => ?_
      refine pl0 ?_
      refine plc hE (.r 0 2 .nil) (fun a hE => ?_)
      refine pld ?_
      refine hK260 _ _ ?_
      refine wp_ret ?_
      replace hS := hS.tail
      obtain rfl := Option.some.inj H
      exact rt1 hE ⟨_, rfl, _, _, _, rfl, hS⟩

/-! ### windrose/windroseref07.Of: function 47 -/
def windroseref07_Of.j12 : Nat → List T_api_Node → Int → Int → Bool → Option (List Int)
  | 0, _, _, _, _ => none
  | k + 1, x0_, x1_, x2_, y11 => if y11 = true then (some []) else ((windroseref07_Common.f x2_).bind fun t22 => ((windroseref07_Run.f k x0_ t22 x1_ x2_).bind fun t32 => (some t32)))
theorem windroseref07_Of.j12_s (k : Nat) (x0_ : List T_api_Node) (x1_ : Int) (x2_ : Int) (y11 : Bool) : windroseref07_Of.j12 (k + 1) x0_ x1_ x2_ y11 = (if y11 = true then (some []) else ((windroseref07_Common.f x2_).bind fun t22 => ((windroseref07_Run.f k x0_ t22 x1_ x2_).bind fun t32 => (some t32)))) := by kernel_rfl
def windroseref07_Of.f (k : Nat) (x0_ : List T_api_Node) (x1_ : Int) (x2_ : Int) : Option (List Int) := (windroseref06_May.f k x0_).bind fun t5 => (if t5 = true then (if x1_ < 0 then (windroseref07_Of.j12 k x0_ x1_ x2_ true) else (if x1_ > 7 then (windroseref07_Of.j12 k x0_ x1_ x2_ true) else (if x2_ < 1 then (windroseref07_Of.j12 k x0_ x1_ x2_ true) else (windroseref07_Of.j12 k x0_ x1_ x2_ (decide (x2_ > 3)))))) else (windroseref07_Of.j12 k x0_ x1_ x2_ true))
def windroseref07_Of.Post (W F : World) (r : List Int) (v : Value) (w' : World) : Prop := ∃ (F' : World) (RA0_0 : Option Addr) (rc0_0 : Nat), v = .slice RA0_0 r.length rc0_0 ∧ St W (mine W []) F w' F' [row (Kn.int .i64) 3 (.slice RA0_0 r.length rc0_0) r]
set_option maxHeartbeats 4000000 in
set_option maxRecDepth 100000 in
theorem windroseref07_Of.calls (k : Nat) (x0_ : List T_api_Node) (x1_ : Int) (x2_ : Int) (A0_0 : Option Addr) (c0_0 : Nat) (r : List Int) (W F : World) (hown : Sub F W) (g0_0 : Rd T_api_Node.k F A0_0 c0_0 x0_) (H : windroseref07_Of.f k x0_ x1_ x2_ = some r) :
    Calls Try.prog 47 #[.slice A0_0 x0_.length c0_0, .int .i64 x1_, .int .i64 x2_] W fun e w' => ∃ v, e = .returned v ∧ windroseref07_Of.Post W F r v w' := by
  have hS := St.start (Own.nil hown)
  unfold windroseref07_Of.f at H
  refine enter (n := 32) rfl rfl rfl (Nat.le_of_ble_eq_true rfl) (fun a hE => ?_)
  refine wp_seq_k fun K1 hK1 => ?_
  refine pl0 ?_
  refine plc hE (.r 0 1 .nil) (fun a hE => ?_)
  refine pld ?_
  refine hK1 _ _ ?_
  refine wp_seq_k fun K2 hK2 => ?_
  refine wp_seq_k fun K3 hK3 => ?_
  have J15 : ∀ kq13, kq13 ≤ k → ∀ (G : Nat → Value) (y11 : Bool) (a : Act) (w' : World), Env 32 G a → At G [(0, .slice A0_0 x0_.length c0_0), (1, .int .i64 x1_), (2, .int .i64 x2_), (25, .bool y11)] → St W (mine W []) F w' F [] → windroseref07_Of.j12 kq13 x0_ x1_ x2_ y11 = some r → K3 a w' := by
    intro kq13 hkq G y11 a u16 hE hA hS H
    cases kq13 with
    | zero => cases (show none = some r from H)
    | succ k14 =>
      rw [windroseref07_Of.j12_s] at H
      obtain ⟨J, hE⟩ := hE.at hA
      refine hK3 _ _ ?_
      by_cases c17 : y11 = true
      · rw [if_pos c17] at H
        replace hE := hE.bt 25 c17
        refine ct hE ?_
        refine wp_seq_k fun K18 hK18 => ?_
        refine pl0 ?_
        refine plc hE (.r 0 1 .nil) (fun a hE => ?_)
        refine pld ?_
        refine hK18 _ _ ?_
        refine wp_ret (then_ret ?_)
        replace hS := hS.nilrow (Kn.int .i64) 3
        obtain rfl := Option.some.inj H
        exact rt1 hE ⟨_, rfl, _, _, _, rfl, hS⟩
      · rw [if_neg c17] at H
        replace hE := hE.bf 25 c17
        refine cf hE ?_
        refine wp_skip ?_
        refine hK2 _ _ ?_
        refine wp_seq_k fun K20 hK20 => ?_
        refine pl0 ?_
        refine plc hE (.r 0 2 .nil) (fun a hE => ?_)
        obtain ⟨t22, h23, H⟩ := Option.bind_eq_some_iff.mp H
        refine ple hE (.cl en38 (windroseref07_Common.calls x2_ _ _ _ hS.own.sub h23)) ?_
        rintro _ u21 a ⟨F24, A25, c26, rfl, hC⟩ hE
        have hs := hC.sub
        replace hS := hS.called (X := []) hC
        replace g0_0 := g0_0.mono hs
        refine plc hE (.r 3 2 .nil) (fun a hE => ?_)
        obtain ⟨F29, hs, g30, hS⟩ := hS.give
        replace g0_0 := g0_0.mono hs
        obtain ⟨t32, h33, H⟩ := Option.bind_eq_some_iff.mp H
        refine ple hE (.cl en45 (windroseref07_Run.calls k14 x0_ t22 x1_ x2_ _ _ _ _ _ _ _ hS.own.sub g0_0 g30 h33)) ?_
        rintro _ u31 a ⟨F34, A35, c36, rfl, hC⟩ hE
        have hs := hC.sub
        replace hS := hS.called (X := []) hC
        replace g0_0 := g0_0.mono hs
        replace g30 := g30.mono hs
        refine plc hE (.r 6 1 .nil) (fun a hE => ?_)
        refine pld ?_
        refine hK20 _ _ ?_
        refine wp_ret ?_
        obtain rfl := Option.some.inj H
        exact rt1 hE ⟨_, rfl, _, _, _, rfl, hS⟩
  refine pl0 ?_
  refine plc hE (.r 0 1 .nil) (fun a hE => ?_)
  obtain ⟨t5, h6, H⟩ := Option.bind_eq_some_iff.mp H
  refine ple hE (.cl en43 (windroseref06_May.calls k x0_ _ _ _ _ _ hS.own.sub g0_0 h6)) ?_
  rintro _ u4 a ⟨_, rfl, hC⟩ hE
  replace hS := hS.lent hC
  refine plc hE (.r 2 2 .nil) (fun a hE => ?_)
  by_cases c7 : t5 = true
  · rw [if_pos c7] at H
    replace hE := hE.btn 10 c7
    refine plc hE (.r 4 4 .nil) (fun a hE => ?_)
    by_cases c8 : x1_ < 0
    · rw [if_pos c8] at H
      replace hE := hE.kt 14 c8
      refine plc hE (.r 8 11 .nil) (fun a hE => ?_)
      refine pld ?_
      exact J15 _ (by omega) _ true _ _ hE .of hS H
    · rw [if_neg c8] at H
      replace hE := hE.kf 14 c8
      refine plc hE (.r 8 4 .nil) (fun a hE => ?_)
      by_cases c9 : x1_ > 7
      · rw [if_pos c9] at H
        replace hE := hE.kt 18 c9
        refine plc hE (.r 12 7 .nil) (fun a hE => ?_)
        refine pld ?_
        exact J15 _ (by omega) _ true _ _ hE .of hS H
      · rw [if_neg c9] at H
        replace hE := hE.kf 18 c9
        refine plc hE (.r 12 4 .nil) (fun a hE => ?_)
        by_cases c10 : x2_ < 1
        · rw [if_pos c10] at H
          replace hE := hE.kt 22 c10
          refine plc hE (.r 16 3 .nil) (fun a hE => ?_)
          refine pld ?_
          exact J15 _ (by omega) _ true _ _ hE .of hS H
        · rw [if_neg c10] at H
          replace hE := hE.kf 22 c10
          refine plc hE (.r 16 3 .nil) (fun a hE => ?_)
          refine pld ?_
          exact J15 _ (by omega) _ (decide (x2_ > 3)) _ _ hE .of hS H
  · rw [if_neg c7] at H
    replace hE := hE.bfn 10 c7
    refine plc hE (.r 4 15 .nil) (fun a hE => ?_)
    refine pld ?_
    exact J15 _ (by omega) _ true _ _ hE .of hS H

/-! ### windrose/windroseref06.Find: function 49 -/
def windroseref06_Find.l7 : Nat → List T_api_Node → Int → Int → Option (T_api_Node × Bool)
  | 0, _, _, _ => none
  | k + 1, x0_, x1_, x6 => if x6 < (x0_.length : Int) then (if 0 ≤ x6 ∧ x6 < (x0_.length : Int) then (if (nth T_api_Node.z x0_ x6).f0 = x1_ then (some ((⟨(nth T_api_Node.z x0_ x6).f0, (nth T_api_Node.z x0_ x6).f1, (nth T_api_Node.z x0_ x6).f2, (nth T_api_Node.z x0_ x6).f3, (nth T_api_Node.z x0_ x6).f4, (nth T_api_Node.z x0_ x6).f5⟩ : T_api_Node), true)) else (windroseref06_Find.l7 k x0_ x1_ (w64 (x6 + 1)))) else (none)) else (some ((⟨0, 0, 0, 0, false, false⟩ : T_api_Node), false))
theorem windroseref06_Find.l7_s (k : Nat) (x0_ : List T_api_Node) (x1_ : Int) (x6 : Int) : windroseref06_Find.l7 (k + 1) x0_ x1_ x6 = (if x6 < (x0_.length : Int) then (if 0 ≤ x6 ∧ x6 < (x0_.length : Int) then (if (nth T_api_Node.z x0_ x6).f0 = x1_ then (some ((⟨(nth T_api_Node.z x0_ x6).f0, (nth T_api_Node.z x0_ x6).f1, (nth T_api_Node.z x0_ x6).f2, (nth T_api_Node.z x0_ x6).f3, (nth T_api_Node.z x0_ x6).f4, (nth T_api_Node.z x0_ x6).f5⟩ : T_api_Node), true)) else (windroseref06_Find.l7 k x0_ x1_ (w64 (x6 + 1)))) else (none)) else (some ((⟨0, 0, 0, 0, false, false⟩ : T_api_Node), false))) := by kernel_rfl
def windroseref06_Find.f (k : Nat) (x0_ : List T_api_Node) (x1_ : Int) : Option (T_api_Node × Bool) := windroseref06_Find.l7 k x0_ x1_ 0
def windroseref06_Find.Post (W F : World) (r : T_api_Node × Bool) (v : Value) (w' : World) : Prop := ∃ (F' : World), v = .tuple #[.agg #[.int .i64 r.1.f0, .int .i64 r.1.f1, .int .i64 r.1.f2, .int .i64 r.1.f3, .bool r.1.f4, .bool r.1.f5], .bool r.2] ∧ St W (mine W []) F w' F' []
set_option maxHeartbeats 4000000 in
set_option maxRecDepth 100000 in
theorem windroseref06_Find.calls (k : Nat) (x0_ : List T_api_Node) (x1_ : Int) (A0_0 : Option Addr) (c0_0 : Nat) (r : T_api_Node × Bool) (W F : World) (hown : Sub F W) (g0_0 : Rd T_api_Node.k F A0_0 c0_0 x0_) (H : windroseref06_Find.f k x0_ x1_ = some r) :
    Calls Try.prog 49 #[.slice A0_0 x0_.length c0_0, .int .i64 x1_] W fun e w' => ∃ v, e = .returned v ∧ windroseref06_Find.Post W F r v w' := by
  have hS := St.start (Own.nil hown)
  unfold windroseref06_Find.f at H
  refine enter (n := 25) rfl rfl rfl (Nat.le_of_ble_eq_true rfl) (fun a hE => ?_)
  refine wp_seq_k fun K1 hK1 => ?_
  refine pl0 ?_
  refine ple hE (.al (t := 102) hS [.int .i64 0, .int .i64 0, .int .i64 0, .int .i64 0, .bool false, .bool false]) ?_
  rintro _ u3 a ⟨b2, rfl, hb2, hS, hg⟩ hE
  refine plc hE (.r 1 1 .nil) (fun a hE => ?_)
  refine pld ?_
  refine hK1 _ _ ?_
  refine wp_seq_k fun K4 hK4 => ?_
  refine wp_seq_k fun K5 hK5 => ?_
  refine pl0 ?_
  refine plc hE (.r 0 1 .nil) (fun a hE => ?_)
  refine pld ?_
  refine hK5 _ _ ?_
  refine wp_block ?_
  refine wp_loop_ghost (fun kq8 a w' => ∃ (G : Nat → Value) (x6 : Int), kq8 ≤ k ∧ Env 25 G a ∧ At G [(0, .slice A0_0 x0_.length c0_0), (1, .int .i64 x1_), (4, .pointer (some ⟨b2, 0, none⟩)), (6, .int .i64 x6)] ∧ St W (mine W []) F w' F [box b2 #[.int .i64 0, .int .i64 0, .int .i64 0, .int .i64 0, .bool false, .bool false] 102] ∧  windroseref06_Find.l7 kq8 x0_ x1_ x6 = some r) k ⟨_, 0, Nat.le_refl _, hE, .of, hS, H⟩ ?_
  rintro kq8 a u10 ⟨G, x6, hkq, hE, hA, hS, H⟩
  cases kq8 with
  | zero => cases (show none = some r from H)
  | succ k9 =>
    rw [windroseref06_Find.l7_s] at H
    obtain ⟨J, hE⟩ := hE.at hA
    refine wp_seq_k fun K11 hK11 => ?_
    refine wp_seq_k fun K12 hK12 => ?_
    refine pl0 ?_
    refine plc hE (.r 0 4 .nil) (fun a hE => ?_)
    refine pld ?_
    refine hK12 _ _ ?_
    by_cases c13 : x6 < (x0_.length : Int)
    · rw [if_pos c13] at H
      replace hE := hE.kt 10 c13
      refine ct hE ?_
      refine wp_skip ?_
      refine hK11 _ _ ?_
      refine wp_seq_k fun K14 hK14 => ?_
      refine wp_block ?_
      refine wp_seq_k fun K15 hK15 => ?_
      refine pl0 ?_
      by_cases c16 : 0 ≤ x6 ∧ x6 < (x0_.length : Int)
      rotate_left
      · rw [if_neg c16] at H; cases H
      rw [if_pos c16] at H
      have hE_ := hE
      obtain ⟨ad17, rfl⟩ := g0_0.addr c16.1 c16.2
      replace hE := hE_
      obtain ⟨cs19, rfl, hc20⟩ := g0_0.el T_api_Node.z x6 c16.1 c16.2
      refine plc hE (.r 0 2 <| .x 2 c16 <| .r 3 1 <| .c 4 (hS.fc hc20 0) <| .r 5 2 <| .nil) (fun a hE => ?_)
      refine pld ?_
      refine hK15 _ _ ?_
      by_cases c21 : (nth T_api_Node.z x0_ x6).f0 = x1_
      · rw [if_pos c21] at H
        replace hE := hE.kt 19 c21
        refine ct hE ?_
        refine wp_seq_k fun K22 hK22 => ?_
        refine pl0 ?_
        refine plc hE (.r 0 2 <| .x 2 c16 <| .cs 3 (hS.fcs hc20) <| .nil) (fun a hE => ?_)
        refine ple hE (.sto hS [.int .i64 ((nth T_api_Node.z x0_ x6).f0), .int .i64 ((nth T_api_Node.z x0_ x6).f1), .int .i64 ((nth T_api_Node.z x0_ x6).f2), .int .i64 ((nth T_api_Node.z x0_ x6).f3), .bool ((nth T_api_Node.z x0_ x6).f4), .bool ((nth T_api_Node.z x0_ x6).f5)]) ?_
        rintro _ u26 a ⟨rfl, hb2, hS, hz⟩ hE
        refine plc hE (.r 5 1 .nil) (fun a hE => ?_)
        refine pld ?_
        refine hK22 _ _ ?_
        refine wp_ret (block_ret (then_ret (then_ret (block_ret (then_ret ?_)))))
        replace hS := hS.tail
        obtain rfl := Option.some.inj H
        exact retN hE rfl (of_decide_eq_true rfl) (.cell (by kernel_rfl) (res_blk [.int .i64 ((nth T_api_Node.z x0_ x6).f0), .int .i64 ((nth T_api_Node.z x0_ x6).f1), .int .i64 ((nth T_api_Node.z x0_ x6).f2), .int .i64 ((nth T_api_Node.z x0_ x6).f3), .bool ((nth T_api_Node.z x0_ x6).f4), .bool ((nth T_api_Node.z x0_ x6).f5)] ag102 sz102 hb2 rfl) (.tmp (by kernel_rfl) .nil)) ⟨_, rfl, _, rfl, hS⟩
      · rw [if_neg c21] at H
        replace hE := hE.kf 19 c21
        refine cf hE ?_
        refine wp_skip ?_
        refine block_n ?_
        refine hK14 _ _ ?_
        refine pl0 ?_
        refine plc hE (.r 0 3 .nil) (fun a hE => ?_)
        refine pld ?_
        exact then_n ⟨k9, by omega, _, (w64 (x6 + 1)), by omega, hE, .of, hS, H⟩
    · rw [if_neg c13] at H
      replace hE := hE.kf 10 c13
      refine cf hE ?_
      refine wp_exit ?_
      refine hK4 _ _ ?_
      refine wp_seq_k fun K27 hK27 => ?_
      refine pl0 ?_
      refine plc hE (.r 0 1 .nil) (fun a hE => ?_)
      refine ple hE (.sto hS [.int .i64 0, .int .i64 0, .int .i64 0, .int .i64 0, .bool false, .bool false]) ?_
      rintro _ u28 a ⟨rfl, hb2, hS, hz⟩ hE
      refine plc hE (.r 2 1 .nil) (fun a hE => ?_)
      refine pld ?_
      refine hK27 _ _ ?_
      refine wp_ret ?_
      replace hS := hS.tail
      obtain rfl := Option.some.inj H
      exact retN hE rfl (of_decide_eq_true rfl) (.cell (by kernel_rfl) (res_blk [.int .i64 0, .int .i64 0, .int .i64 0, .int .i64 0, .bool false, .bool false] ag102 sz102 hb2 rfl) (.tmp (by kernel_rfl) .nil)) ⟨_, rfl, _, rfl, hS⟩

/-! ### windrose/windroseref06.Apart: function 50 -/
mutual
def windroseref06_Apart.l5 : Nat → List T_api_Node → List Int → Int → Option Bool
  | 0, _, _, _ => none
  | k + 1, x0_, x1_, x4 => if x4 < (x1_.length : Int) then (if 0 ≤ x4 ∧ x4 < (x1_.length : Int) then ((windroseref06_Find.f k x0_ (nth 0 x1_ x4)).bind fun t20 => (if t20.2 = true then (windroseref06_Apart.l31 k x0_ x1_ x4 t20 0) else (some false))) else (none)) else (some true)
def windroseref06_Apart.l31 : Nat → List T_api_Node → List Int → Int → T_api_Node × Bool → Int → Option Bool
  | 0, _, _, _, _, _ => none
  | k + 1, x0_, x1_, x4, t20, x30 => if x30 < x4 then (if 0 ≤ x30 ∧ x30 < (x1_.length : Int) then ((windroseref06_Find.f k x0_ (nth 0 x1_ x30)).bind fun t45 => (if t20.1.f1 = t45.1.f1 then (some false) else (windroseref06_Apart.l31 k x0_ x1_ x4 t20 (w64 (x30 + 1))))) else (none)) else (windroseref06_Apart.l5 k x0_ x1_ (w64 (x4 + 1)))
end
theorem windroseref06_Apart.l5_s (k : Nat) (x0_ : List T_api_Node) (x1_ : List Int) (x4 : Int) : windroseref06_Apart.l5 (k + 1) x0_ x1_ x4 = (if x4 < (x1_.length : Int) then (if 0 ≤ x4 ∧ x4 < (x1_.length : Int) then ((windroseref06_Find.f k x0_ (nth 0 x1_ x4)).bind fun t20 => (if t20.2 = true then (windroseref06_Apart.l31 k x0_ x1_ x4 t20 0) else (some false))) else (none)) else (some true)) := by kernel_rfl
theorem windroseref06_Apart.l31_s (k : Nat) (x0_ : List T_api_Node) (x1_ : List Int) (x4 : Int) (t20 : T_api_Node × Bool) (x30 : Int) : windroseref06_Apart.l31 (k + 1) x0_ x1_ x4 t20 x30 = (if x30 < x4 then (if 0 ≤ x30 ∧ x30 < (x1_.length : Int) then ((windroseref06_Find.f k x0_ (nth 0 x1_ x30)).bind fun t45 => (if t20.1.f1 = t45.1.f1 then (some false) else (windroseref06_Apart.l31 k x0_ x1_ x4 t20 (w64 (x30 + 1))))) else (none)) else (windroseref06_Apart.l5 k x0_ x1_ (w64 (x4 + 1)))) := by kernel_rfl
def windroseref06_Apart.f (k : Nat) (x0_ : List T_api_Node) (x1_ : List Int) : Option Bool := windroseref06_Apart.l5 k x0_ x1_ 0
def windroseref06_Apart.Post (W F : World) (r : Bool) (v : Value) (w' : World) : Prop := ∃ (F' : World), v = .bool r ∧ St W (mine W []) F w' F' []
set_option maxHeartbeats 4000000 in
set_option maxRecDepth 100000 in
theorem windroseref06_Apart.calls (k : Nat) (x0_ : List T_api_Node) (x1_ : List Int) (A0_0 : Option Addr) (c0_0 : Nat) (A1_0 : Option Addr) (c1_0 : Nat) (r : Bool) (W F : World) (hown : Sub F W) (g0_0 : Rd T_api_Node.k F A0_0 c0_0 x0_) (g1_0 : Rd (Kn.int .i64) F A1_0 c1_0 x1_) (H : windroseref06_Apart.f k x0_ x1_ = some r) :
    Calls Try.prog 50 #[.slice A0_0 x0_.length c0_0, .slice A1_0 x1_.length c1_0] W fun e w' => ∃ v, e = .returned v ∧ windroseref06_Apart.Post W F r v w' := by
  have hS := St.start (Own.nil hown)
  unfold windroseref06_Apart.f at H
  refine enter (n := 47) rfl rfl rfl (Nat.le_of_ble_eq_true rfl) (fun a hE => ?_)
  refine wp_seq_k fun K1 hK1 => ?_
  refine pl0 ?_
  refine plc hE (.r 0 1 .nil) (fun a hE => ?_)
  refine pld ?_
  refine hK1 _ _ ?_
  refine wp_seq_k fun K2 hK2 => ?_
  refine wp_seq_k fun K3 hK3 => ?_
  refine pl0 ?_
  refine plc hE (.r 0 1 .nil) (fun a hE => ?_)
  refine pld ?_
  refine hK3 _ _ ?_
  refine wp_block ?_
  refine wp_loop_ghost (fun kq6 a w' => ∃ (G : Nat → Value) (x4 : Int), kq6 ≤ k ∧ Env 47 G a ∧ At G [(0, .slice A0_0 x0_.length c0_0), (1, .slice A1_0 x1_.length c1_0), (5, .int .i64 x4)] ∧ St W (mine W []) F w' F [] ∧  windroseref06_Apart.l5 kq6 x0_ x1_ x4 = some r) k ⟨_, 0, Nat.le_refl _, hE, .of, hS, H⟩ ?_
  rintro kq6 a u8 ⟨G, x4, hkq, hE, hA, hS, H⟩
  cases kq6 with
  | zero => cases (show none = some r from H)
  | succ k7 =>
    rw [windroseref06_Apart.l5_s] at H
    obtain ⟨J, hE⟩ := hE.at hA
    refine wp_seq_k fun K9 hK9 => ?_
    refine wp_seq_k fun K10 hK10 => ?_
    refine pl0 ?_
    refine plc hE (.r 0 4 .nil) (fun a hE => ?_)
    refine pld ?_
    refine hK10 _ _ ?_
    by_cases c11 : x4 < (x1_.length : Int)
    · rw [if_pos c11] at H
      replace hE := hE.kt 14 c11
      refine ct hE ?_
      refine wp_skip ?_
      refine hK9 _ _ ?_
      refine wp_seq_k fun K12 hK12 => ?_
      refine wp_block ?_
      refine wp_seq_k fun K13 hK13 => ?_
      refine pl0 ?_
      by_cases c14 : 0 ≤ x4 ∧ x4 < (x1_.length : Int)
      rotate_left
      · rw [if_neg c14] at H; cases H
      rw [if_pos c14] at H
      have hE_ := hE
      obtain ⟨ad15, rfl⟩ := g1_0.addr c14.1 c14.2
      replace hE := hE_
      obtain ⟨cs17, rfl, hc18⟩ := g1_0.el 0 x4 c14.1 c14.2
      refine plc hE (.r 0 3 <| .x 3 c14 <| .c 4 (hS.fc hc18 0) <| .nil) (fun a hE => ?_)
      obtain ⟨t20, h21, H⟩ := Option.bind_eq_some_iff.mp H
      refine ple hE (.cl en49 (windroseref06_Find.calls k7 x0_ (nth 0 x1_ x4) _ _ _ _ _ hS.own.sub g0_0 h21)) ?_
      rintro _ u19 a ⟨_, rfl, hC⟩ hE
      replace hS := hS.lent hC
      refine plc hE (.r 6 3 .nil) (fun a hE => ?_)
      refine ple hE (.al (t := 102) hS [.int .i64 0, .int .i64 0, .int .i64 0, .int .i64 0, .bool false, .bool false]) ?_
      rintro _ u23 a ⟨b22, rfl, hb22, hS, hg⟩ hE
      refine ple hE (.sto hS [.int .i64 t20.1.f0, .int .i64 t20.1.f1, .int .i64 t20.1.f2, .int .i64 t20.1.f3, .bool t20.1.f4, .bool t20.1.f5]) ?_
      rintro _ u24 a ⟨rfl, hb22, hS, hz⟩ hE
      refine plc hE (.r 11 1 .nil) (fun a hE => ?_)
      refine pld ?_
      refine hK13 _ _ ?_
      refine wp_seq_k fun K25 hK25 => ?_
      refine wp_seq_k fun K26 hK26 => ?_
      refine pl0 ?_
      refine plc hE (.r 0 2 .nil) (fun a hE => ?_)
      refine pld ?_
      refine hK26 _ _ ?_
      by_cases c27 : t20.2 = true
      · rw [if_pos c27] at H
        replace hE := hE.btn 27 c27
        refine cf hE ?_
        refine wp_skip ?_
        refine hK25 _ _ ?_
        refine wp_seq_k fun K29 hK29 => ?_
        refine pl0 ?_
        refine plc hE (.r 0 1 .nil) (fun a hE => ?_)
        refine pld ?_
        refine hK29 _ _ ?_
        refine wp_block ?_
        refine wp_loop_ghost (fun kq32 a w' => ∃ (G : Nat → Value) (x30 : Int), kq32 ≤ k7 ∧ Env 47 G a ∧ At G [(0, .slice A0_0 x0_.length c0_0), (1, .slice (some ad15) x1_.length c1_0), (5, .int .i64 x4), (6, .pointer (some ⟨b22, 0, none⟩)), (8, .int .i64 x30)] ∧ St W (mine W []) F w' F [box b22 #[.int .i64 t20.1.f0, .int .i64 t20.1.f1, .int .i64 t20.1.f2, .int .i64 t20.1.f3, .bool t20.1.f4, .bool t20.1.f5] 102] ∧  windroseref06_Apart.l31 kq32 x0_ x1_ x4 t20 x30 = some r) k7 ⟨_, 0, Nat.le_refl _, hE, .of, hS, H⟩ ?_
        rintro kq32 a u34 ⟨G, x30, hkq, hE, hA, hS, H⟩
        cases kq32 with
        | zero => cases (show none = some r from H)
        | succ k33 =>
          rw [windroseref06_Apart.l31_s] at H
          obtain ⟨J, hE⟩ := hE.at hA
          refine wp_seq_k fun K35 hK35 => ?_
          refine wp_seq_k fun K36 hK36 => ?_
          refine pl0 ?_
          refine plc hE (.r 0 3 .nil) (fun a hE => ?_)
          refine pld ?_
          refine hK36 _ _ ?_
          by_cases c37 : x30 < x4
          · rw [if_pos c37] at H
            replace hE := hE.kt 30 c37
            refine ct hE ?_
            refine wp_skip ?_
            refine hK35 _ _ ?_
            refine wp_seq_k fun K38 hK38 => ?_
            refine wp_block ?_
            refine wp_seq_k fun K39 hK39 => ?_
            refine pl0 ?_
            by_cases c40 : 0 ≤ x30 ∧ x30 < (x1_.length : Int)
            rotate_left
            · rw [if_neg c40] at H; cases H
            rw [if_pos c40] at H
            obtain ⟨cs42, rfl, hc43⟩ := g1_0.el 0 x30 c40.1 c40.2
            refine plc hE (.r 0 3 <| .x 3 c40 <| .c 4 (hS.fc hc43 0) <| .nil) (fun a hE => ?_)
            obtain ⟨t45, h46, H⟩ := Option.bind_eq_some_iff.mp H
            refine ple hE (.cl en49 (windroseref06_Find.calls k33 x0_ (nth 0 x1_ x30) _ _ _ _ _ hS.own.sub g0_0 h46)) ?_
            rintro _ u44 a ⟨_, rfl, hC⟩ hE
            replace hS := hS.lent hC
            refine plc hE (.r 6 3 .nil) (fun a hE => ?_)
            refine ple hE (.al (t := 102) hS [.int .i64 0, .int .i64 0, .int .i64 0, .int .i64 0, .bool false, .bool false]) ?_
            rintro _ u48 a ⟨b47, rfl, hb47, hS, hg⟩ hE
            refine ple hE (.sto hS [.int .i64 t45.1.f0, .int .i64 t45.1.f1, .int .i64 t45.1.f2, .int .i64 t45.1.f3, .bool t45.1.f4, .bool t45.1.f5]) ?_
            rintro _ u49 a ⟨rfl, hb47, hS, hz⟩ hE
            refine plc hE (.r 11 1 .nil) (fun a hE => ?_)
            refine pld ?_
            refine hK39 _ _ ?_
            refine wp_seq_k fun K50 hK50 => ?_
            refine pl0 ?_
            have hb22 := hS.blk_at (i := 1) rfl
            refine plc hE (.r 0 1 <| .b 1 1 hb22 <| .r 2 1 <| .b 3 1 hb47 <| .r 4 1 <| .nil) (fun a hE => ?_)
            refine pld ?_
            refine hK50 _ _ ?_
            by_cases c51 : t20.1.f1 = t45.1.f1
            · rw [if_pos c51] at H
              replace hE := hE.kt 46 c51
              refine ct hE ?_
              refine wp_seq_k fun K52 hK52 => ?_
              refine pl0 ?_
              refine plc hE (.r 0 1 .nil) (fun a hE => ?_)
              refine pld ?_
              refine hK52 _ _ ?_
              refine wp_ret (block_ret (then_ret (then_ret (block_ret (block_ret (then_ret (then_ret (block_ret (then_ret ?_)))))))))
              replace hS := hS.tail
              replace hS := hS.tail
              obtain rfl := Option.some.inj H
              exact rt1 hE ⟨_, rfl, _, rfl, hS⟩
            · rw [if_neg c51] at H
              replace hE := hE.kf 46 c51
              refine cf hE ?_
              refine wp_skip ?_
              refine block_n ?_
              refine hK38 _ _ ?_
              refine pl0 ?_
              refine plc hE (.r 0 3 .nil) (fun a hE => ?_)
              refine pld ?_
              replace hS := hS.tail
              exact then_n ⟨k33, by omega, _, (w64 (x30 + 1)), by omega, hE, .of, hS, H⟩
          · rw [if_neg c37] at H
            replace hE := hE.kf 30 c37
            refine cf hE ?_
            refine wp_exit ?_
            refine hK12 _ _ ?_
            refine pl0 ?_
            refine plc hE (.r 0 3 .nil) (fun a hE => ?_)
            refine pld ?_
            replace hS := hS.tail
            exact then_n ⟨k33, by omega, _, (w64 (x4 + 1)), by omega, hE, .of, hS, H⟩
      · rw [if_neg c27] at H
        replace hE := hE.bfn 27 c27
        refine ct hE ?_
        refine wp_seq_k fun K28 hK28 => ?_
        refine pl0 ?_
        refine plc hE (.r 0 1 .nil) (fun a hE => ?_)
        refine pld ?_
        refine hK28 _ _ ?_
        refine wp_ret (then_ret (block_ret (then_ret (then_ret (block_ret (then_ret ?_))))))
        replace hS := hS.tail
        obtain rfl := Option.some.inj H
        exact rt1 hE ⟨_, rfl, _, rfl, hS⟩
    · rw [if_neg c11] at H
      replace hE := hE.kf 14 c11
      refine cf hE ?_
      refine wp_exit ?_
      refine hK2 _ _ ?_
      refine wp_seq_k fun K53 hK53 => ?_
      refine pl0 ?_
      refine plc hE (.r 0 1 .nil) (fun a hE => ?_)
      refine pld ?_
      refine hK53 _ _ ?_
      refine wp_ret ?_
      obtain rfl := Option.some.inj H
      exact rt1 hE ⟨_, rfl, _, rfl, hS⟩

/-! ### windrose/windroselaw07.PlaceZones: function 10 -/
mutual
def windroselaw07_PlaceZones.j55 : Nat → List T_api_Node → Int → List Int → Bool → Option Bool
  | 0, _, _, _, _ => none
  | k + 1, x0_, x2_, t4, y53 => if y53 = true then (if (t4.length : Int) = 0 then ((windroselaw07_awake.f k).bind fun t64 => (some t64)) else (some false)) else ((windroseref06_Zones.f k x0_).bind fun t69 => (windroselaw07_PlaceZones.l80 k x0_ x2_ t4 t69 0 0))
def windroselaw07_PlaceZones.l80 : Nat → List T_api_Node → Int → List Int → List T_api_Choice → Int → Int → Option Bool
  | 0, _, _, _, _, _, _ => none
  | k + 1, x0_, x2_, t4, t69, x78, x79 => if x79 < (t69.length : Int) then (windroselaw07_PlaceZones.j88 k x0_ x2_ t4 t69 x78 x79 (decide (x78 < x2_))) else (windroselaw07_PlaceZones.j88 k x0_ x2_ t4 t69 x78 x79 false)
def windroselaw07_PlaceZones.j88 : Nat → List T_api_Node → Int → List Int → List T_api_Choice → Int → Int → Bool → Option Bool
  | 0, _, _, _, _, _, _, _ => none
  | k + 1, x0_, x2_, t4, t69, x78, x79, y87 => if y87 = true then (if 0 ≤ x79 ∧ x79 < (t69.length : Int) then (if (nth T_api_Choice.z t69 x79).f1 > 0 then (windroselaw07_PlaceZones.l80 k x0_ x2_ t4 t69 (w64 (x78 + 1)) (w64 (x79 + 1))) else (windroselaw07_PlaceZones.l80 k x0_ x2_ t4 t69 x78 (w64 (x79 + 1)))) else (none)) else (windroselaw07_PlaceZones.l106 k x0_ t4 x78 0)
def windroselaw07_PlaceZones.l106 : Nat → List T_api_Node → List Int → Int → Int → Option Bool
  | 0, _, _, _, _ => none
  | k + 1, x0_, t4, x78, x105 => if x105 < (t4.length : Int) then (if 0 ≤ x105 ∧ x105 < (t4.length : Int) then ((windroseref06_Find.f k x0_ (nth 0 t4 x105)).bind fun t122 => (if t122.2 = true then (if t122.1.f5 = true then (windroselaw07_PlaceZones.j131 k x0_ t4 x78 x105 (t122.1.f3 == 0)) else (windroselaw07_PlaceZones.j131 k x0_ t4 x78 x105 true)) else (windroselaw07_PlaceZones.j131 k x0_ t4 x78 x105 true))) else (none)) else (if (t4.length : Int) = x78 then ((windroseref06_Apart.f k x0_ t4).bind fun t141 => (if t141 = true then ((windroselaw07_awake.f k).bind fun t145 => (some t145)) else (some false))) else (some false))
def windroselaw07_PlaceZones.j131 : Nat → List T_api_Node → List Int → Int → Int → Bool → Option Bool
  | 0, _, _, _, _, _ => none
  | k + 1, x0_, t4, x78, x105, y130 => if y130 = true then (some false) else (windroselaw07_PlaceZones.l106 k x0_ t4 x78 (w64 (x105 + 1)))
end
theorem windroselaw07_PlaceZones.j55_s (k : Nat) (x0_ : List T_api_Node) (x2_ : Int) (t4 : List Int) (y53 : Bool) : windroselaw07_PlaceZones.j55 (k + 1) x0_ x2_ t4 y53 = (if y53 = true then (if (t4.length : Int) = 0 then ((windroselaw07_awake.f k).bind fun t64 => (some t64)) else (some false)) else ((windroseref06_Zones.f k x0_).bind fun t69 => (windroselaw07_PlaceZones.l80 k x0_ x2_ t4 t69 0 0))) := by kernel_rfl
theorem windroselaw07_PlaceZones.l80_s (k : Nat) (x0_ : List T_api_Node) (x2_ : Int) (t4 : List Int) (t69 : List T_api_Choice) (x78 : Int) (x79 : Int) : windroselaw07_PlaceZones.l80 (k + 1) x0_ x2_ t4 t69 x78 x79 = (if x79 < (t69.length : Int) then (windroselaw07_PlaceZones.j88 k x0_ x2_ t4 t69 x78 x79 (decide (x78 < x2_))) else (windroselaw07_PlaceZones.j88 k x0_ x2_ t4 t69 x78 x79 false)) := by kernel_rfl
theorem windroselaw07_PlaceZones.j88_s (k : Nat) (x0_ : List T_api_Node) (x2_ : Int) (t4 : List Int) (t69 : List T_api_Choice) (x78 : Int) (x79 : Int) (y87 : Bool) : windroselaw07_PlaceZones.j88 (k + 1) x0_ x2_ t4 t69 x78 x79 y87 = (if y87 = true then (if 0 ≤ x79 ∧ x79 < (t69.length : Int) then (if (nth T_api_Choice.z t69 x79).f1 > 0 then (windroselaw07_PlaceZones.l80 k x0_ x2_ t4 t69 (w64 (x78 + 1)) (w64 (x79 + 1))) else (windroselaw07_PlaceZones.l80 k x0_ x2_ t4 t69 x78 (w64 (x79 + 1)))) else (none)) else (windroselaw07_PlaceZones.l106 k x0_ t4 x78 0)) := by kernel_rfl
theorem windroselaw07_PlaceZones.l106_s (k : Nat) (x0_ : List T_api_Node) (t4 : List Int) (x78 : Int) (x105 : Int) : windroselaw07_PlaceZones.l106 (k + 1) x0_ t4 x78 x105 = (if x105 < (t4.length : Int) then (if 0 ≤ x105 ∧ x105 < (t4.length : Int) then ((windroseref06_Find.f k x0_ (nth 0 t4 x105)).bind fun t122 => (if t122.2 = true then (if t122.1.f5 = true then (windroselaw07_PlaceZones.j131 k x0_ t4 x78 x105 (t122.1.f3 == 0)) else (windroselaw07_PlaceZones.j131 k x0_ t4 x78 x105 true)) else (windroselaw07_PlaceZones.j131 k x0_ t4 x78 x105 true))) else (none)) else (if (t4.length : Int) = x78 then ((windroseref06_Apart.f k x0_ t4).bind fun t141 => (if t141 = true then ((windroselaw07_awake.f k).bind fun t145 => (some t145)) else (some false))) else (some false))) := by kernel_rfl
theorem windroselaw07_PlaceZones.j131_s (k : Nat) (x0_ : List T_api_Node) (t4 : List Int) (x78 : Int) (x105 : Int) (y130 : Bool) : windroselaw07_PlaceZones.j131 (k + 1) x0_ t4 x78 x105 y130 = (if y130 = true then (some false) else (windroselaw07_PlaceZones.l106 k x0_ t4 x78 (w64 (x105 + 1)))) := by kernel_rfl
def windroselaw07_PlaceZones.f (k : Nat) (x0_ : List T_api_Node) (x1_ : Int) (x2_ : Int) : Option Bool := (place_Of.f k x0_ x1_ x2_).bind fun t4 => (if (x0_.length : Int) > 40 then ((windroselaw07_awake.f k).bind fun t16 => (some t16)) else ((windroseref07_Of.f k x0_ x1_ x2_).bind fun t21 => ((windroseref02_Ints.f k t4 t21).bind fun t29 => (if t29 = true then ((windroseref07_Of.f k [(⟨1, 1, 1, 1, false, true⟩ : T_api_Node)] x1_ x2_).bind fun t42 => (if (t42.length : Int) = 0 then (windroselaw07_PlaceZones.j55 k x0_ x2_ t4 true) else ((windroseref06_May.f k x0_).bind fun t51 => (windroselaw07_PlaceZones.j55 k x0_ x2_ t4 (!t51))))) else (some false)))))
def windroselaw07_PlaceZones.Post (W F : World) (r : Bool) (v : Value) (w' : World) : Prop := ∃ (F' : World), v = .bool r ∧ St W (mine W []) F w' F' []
set_option maxHeartbeats 4000000 in
set_option maxRecDepth 100000 in
theorem windroselaw07_PlaceZones.calls (k : Nat) (x0_ : List T_api_Node) (x1_ : Int) (x2_ : Int) (A0_0 : Option Addr) (c0_0 : Nat) (r : Bool) (W F : World) (hown : Sub F W) (g0_0 : Rd T_api_Node.k F A0_0 c0_0 x0_) (H : windroselaw07_PlaceZones.f k x0_ x1_ x2_ = some r) :
    Calls Try.prog 10 #[.slice A0_0 x0_.length c0_0, .int .i64 x1_, .int .i64 x2_] W fun e w' => ∃ v, e = .returned v ∧ windroselaw07_PlaceZones.Post W F r v w' := by
  have hS := St.start (Own.nil hown)
  unfold windroselaw07_PlaceZones.f at H
  refine enter (n := 107) rfl rfl rfl (Nat.le_of_ble_eq_true rfl) (fun a hE => ?_)
  refine wp_seq_k fun K1 hK1 => ?_
  refine pl0 ?_
  refine plc hE (.r 0 1 .nil) (fun a hE => ?_)
  refine pld ?_
  refine hK1 _ _ ?_
  refine wp_seq_k fun K2 hK2 => ?_
  refine pl0 ?_
  refine plc hE (.r 0 3 .nil) (fun a hE => ?_)
  obtain ⟨t4, h5, H⟩ := Option.bind_eq_some_iff.mp H
  refine ple hE (.cl en46 (place_Of.calls k x0_ x1_ x2_ _ _ _ _ _ hS.own.sub g0_0 h5)) ?_
  rintro _ u3 a ⟨F6, A7, c8, rfl, hC⟩ hE
  have hs := hC.sub
  replace hS := hS.called (X := []) hC
  replace g0_0 := g0_0.mono hs
  refine plc hE (.r 4 1 .nil) (fun a hE => ?_)
  refine pld ?_
  refine hK2 _ _ ?_
  refine wp_seq_k fun K11 hK11 => ?_
  refine wp_seq_k fun K12 hK12 => ?_
  refine pl0 ?_
  refine plc hE (.r 0 3 .nil) (fun a hE => ?_)
  refine pld ?_
  refine hK12 _ _ ?_
  by_cases c13 : (x0_.length : Int) > 40
  · rw [if_pos c13] at H
    replace hE := hE.kt 20 c13
    refine ct hE ?_
    refine wp_seq_k fun K14 hK14 => ?_
    refine pl0 ?_
    obtain ⟨t16, h17, H⟩ := Option.bind_eq_some_iff.mp H
    refine ple hE (.cl en41 (windroselaw07_awake.calls k _ _ _ hS.own.sub h17)) ?_
    rintro _ u15 a ⟨_, rfl, hC⟩ hE
    replace hS := hS.lent hC
    refine plc hE (.r 1 1 .nil) (fun a hE => ?_)
    refine pld ?_
    refine hK14 _ _ ?_
    refine wp_ret (then_ret ?_)
    replace hS := hS.tail
    obtain rfl := Option.some.inj H
    exact rt1 hE ⟨_, rfl, _, rfl, hS⟩
  · rw [if_neg c13] at H
    replace hE := hE.kf 20 c13
    refine cf hE ?_
    refine wp_skip ?_
    refine hK11 _ _ ?_
    refine wp_seq_k fun K18 hK18 => ?_
    refine wp_seq_k fun K19 hK19 => ?_
    refine pl0 ?_
    refine plc hE (.r 0 4 .nil) (fun a hE => ?_)
    obtain ⟨t21, h22, H⟩ := Option.bind_eq_some_iff.mp H
    refine ple hE (.cl en47 (windroseref07_Of.calls k x0_ x1_ x2_ _ _ _ _ _ hS.own.sub g0_0 h22)) ?_
    rintro _ u20 a ⟨F23, A24, c25, rfl, hC⟩ hE
    have hs := hC.sub
    replace hS := hS.called (X := []) hC
    replace g0_0 := g0_0.mono hs
    obtain ⟨t29, h30, H⟩ := Option.bind_eq_some_iff.mp H
    refine ple hE (.cl en44 (windroseref02_Ints.calls k t4 t21 _ _ _ _ _ _ _ (Sub.refl _) (hS.rd_at (i := 1) rfl) (hS.rd_at (i := 0) rfl) h30)) ?_
    rintro _ u28 a ⟨_, rfl, hC⟩ hE
    replace hS := hS.lent hC
    refine plc hE (.r 6 1 .nil) (fun a hE => ?_)
    refine pld ?_
    refine hK19 _ _ ?_
    by_cases c31 : t29 = true
    · rw [if_pos c31] at H
      replace hE := hE.btn 28 c31
      refine cf hE ?_
      refine wp_skip ?_
      refine hK18 _ _ ?_
      refine wp_seq_k fun K33 hK33 => ?_
      refine wp_seq_k fun K34 hK34 => ?_
      have J58 : ∀ kq56, kq56 ≤ k → ∀ (G : Nat → Value) (y53 : Bool) (F54 : World) (a : Act) (w' : World), Env 107 G a → At G [(0, .slice A0_0 x0_.length c0_0), (2, .int .i64 x2_), (7, .slice A7 t4.length c8), (40, .bool y53)] → St W (mine W []) F w' F54 [row (Kn.int .i64) 3 (.slice A7 t4.length c8) t4] → Rd T_api_Node.k F54 A0_0 c0_0 x0_ → windroselaw07_PlaceZones.j55 kq56 x0_ x2_ t4 y53 = some r → K34 a w' := by
        intro kq56 hkq G y53 F54 a u59 hE hA hS g0_0 H
        cases kq56 with
        | zero => cases (show none = some r from H)
        | succ k57 =>
          rw [windroselaw07_PlaceZones.j55_s] at H
          obtain ⟨J, hE⟩ := hE.at hA
          refine hK34 _ _ ?_
          by_cases c60 : y53 = true
          · rw [if_pos c60] at H
            replace hE := hE.bt 40 c60
            refine ct hE ?_
            refine wp_seq_k fun K61 hK61 => ?_
            refine pl0 ?_
            refine plc hE (.r 0 4 .nil) (fun a hE => ?_)
            by_cases c62 : (t4.length : Int) = 0
            · rw [if_pos c62] at H
              replace hE := hE.kt 44 c62
              obtain ⟨t64, h65, H⟩ := Option.bind_eq_some_iff.mp H
              refine ple hE (.cl en41 (windroselaw07_awake.calls k57 _ _ _ hS.own.sub h65)) ?_
              rintro _ u63 a ⟨_, rfl, hC⟩ hE
              replace hS := hS.lent hC
              refine plc hE (.r 5 2 .nil) (fun a hE => ?_)
              refine pld ?_
              refine hK61 _ _ ?_
              refine wp_ret (then_ret ?_)
              replace hS := hS.tail
              obtain rfl := Option.some.inj H
              exact rt1 hE ⟨_, rfl, _, rfl, hS⟩
            · rw [if_neg c62] at H
              replace hE := hE.kf 44 c62
              refine plc hE (.r 4 3 .nil) (fun a hE => ?_)
              refine pld ?_
              refine hK61 _ _ ?_
              refine wp_ret (then_ret ?_)
              replace hS := hS.tail
              obtain rfl := Option.some.inj H
              exact rt1 hE ⟨_, rfl, _, rfl, hS⟩
          · rw [if_neg c60] at H
            replace hE := hE.bf 40 c60
            refine cf hE ?_
            refine wp_skip ?_
            refine hK33 _ _ ?_
            refine wp_seq_k fun K66 hK66 => ?_
            refine pl0 ?_
            refine plc hE (.r 0 1 .nil) (fun a hE => ?_)
            refine pld ?_
            refine hK66 _ _ ?_
            refine wp_seq_k fun K67 hK67 => ?_
            refine pl0 ?_
            refine plc hE (.r 0 1 .nil) (fun a hE => ?_)
            obtain ⟨t69, h70, H⟩ := Option.bind_eq_some_iff.mp H
            refine ple hE (.cl en48 (windroseref06_Zones.calls k57 x0_ _ _ _ _ _ hS.own.sub g0_0 h70)) ?_
            rintro _ u68 a ⟨F71, A72, c73, rfl, hC⟩ hE
            have hs := hC.sub
            replace hS := hS.called (X := []) hC
            replace g0_0 := g0_0.mono hs
            refine plc hE (.r 2 1 .nil) (fun a hE => ?_)
            refine pld ?_
            refine hK67 _ _ ?_
            refine wp_seq_k fun K76 hK76 => ?_
            refine wp_seq_k fun K77 hK77 => ?_
            refine pl0 ?_
            refine plc hE (.r 0 1 .nil) (fun a hE => ?_)
            refine pld ?_
            refine hK77 _ _ ?_
            refine wp_block ?_
            refine wp_loop_ghost (fun kq81 a w' => ∃ (G : Nat → Value) (x78 : Int) (x79 : Int), kq81 ≤ k57 ∧ Env 107 G a ∧ At G [(0, .slice A0_0 x0_.length c0_0), (2, .int .i64 x2_), (7, .slice A7 t4.length c8), (8, .int .i64 x78), (9, .slice A72 t69.length c73), (10, .int .i64 x79)] ∧ St W (mine W []) F w' F71 [row T_api_Choice.k 106 (.slice A72 t69.length c73) t69, row (Kn.int .i64) 3 (.slice A7 t4.length c8) t4] ∧  windroselaw07_PlaceZones.l80 kq81 x0_ x2_ t4 t69 x78 x79 = some r) k57 ⟨_, 0, 0, Nat.le_refl _, hE, .of, hS, H⟩ ?_
            rintro kq81 a u83 ⟨G, x78, x79, hkq, hE, hA, hS, H⟩
            cases kq81 with
            | zero => cases (show none = some r from H)
            | succ k82 =>
              rw [windroselaw07_PlaceZones.l80_s] at H
              obtain ⟨J, hE⟩ := hE.at hA
              refine wp_seq_k fun K84 hK84 => ?_
              refine wp_seq_k fun K85 hK85 => ?_
              have J91 : ∀ kq89, kq89 ≤ k82 → ∀ (G : Nat → Value) (y87 : Bool) (a : Act) (w' : World), Env 107 G a → At G [(0, .slice A0_0 x0_.length c0_0), (2, .int .i64 x2_), (7, .slice A7 t4.length c8), (8, .int .i64 x78), (9, .slice A72 t69.length c73), (10, .int .i64 x79), (57, .bool y87)] → St W (mine W []) F w' F71 [row T_api_Choice.k 106 (.slice A72 t69.length c73) t69, row (Kn.int .i64) 3 (.slice A7 t4.length c8) t4] → windroselaw07_PlaceZones.j88 kq89 x0_ x2_ t4 t69 x78 x79 y87 = some r → K85 a w' := by
                intro kq89 hkq G y87 a u92 hE hA hS H
                cases kq89 with
                | zero => cases (show none = some r from H)
                | succ k90 =>
                  rw [windroselaw07_PlaceZones.j88_s] at H
                  obtain ⟨J, hE⟩ := hE.at hA
                  refine hK85 _ _ ?_
                  by_cases c93 : y87 = true
                  · rw [if_pos c93] at H
                    replace hE := hE.bt 57 c93
                    refine ct hE ?_
                    refine wp_skip ?_
                    refine hK84 _ _ ?_
                    refine wp_seq_k fun K94 hK94 => ?_
                    refine wp_block ?_
                    refine wp_seq_k fun K95 hK95 => ?_
                    refine pl0 ?_
                    by_cases c96 : 0 ≤ x79 ∧ x79 < (t69.length : Int)
                    rotate_left
                    · rw [if_neg c96] at H; cases H
                    rw [if_pos c96] at H
                    have hr97 := hS.row_at (i := 0) rfl
                    have hE_ := hE
                    obtain ⟨b98, rfl⟩ := row_addr hr97 c96.1 c96.2
                    replace hE := hE_
                    have hr_ := hS.row_at (i := 0) rfl
                    obtain ⟨cs100, rfl, hc101⟩ := row_el hr_ T_api_Choice.z x79 c96.1 c96.2
                    refine plc hE (.r 0 2 <| .x 2 c96 <| .r 3 1 <| .c 4 (hc101 1 _ rfl) <| .r 5 1 <| .nil) (fun a hE => ?_)
                    refine pld ?_
                    refine hK95 _ _ ?_
                    by_cases c102 : (nth T_api_Choice.z t69 x79).f1 > 0
                    · rw [if_pos c102] at H
                      replace hE := hE.kt 65 c102
                      refine ct hE ?_
                      refine pl0 ?_
                      refine plc hE (.r 0 3 .nil) (fun a hE => ?_)
                      refine pld ?_
                      refine block_n ?_
                      refine hK94 _ _ ?_
                      refine pl0 ?_
                      refine plc hE (.r 0 3 .nil) (fun a hE => ?_)
                      refine pld ?_
                      exact then_n ⟨k90, by omega, _, (w64 (x78 + 1)), (w64 (x79 + 1)), by omega, hE, .of, hS, H⟩
                    · rw [if_neg c102] at H
                      replace hE := hE.kf 65 c102
                      refine cf hE ?_
                      refine wp_skip ?_
                      refine block_n ?_
                      refine hK94 _ _ ?_
                      refine pl0 ?_
                      refine plc hE (.r 0 3 .nil) (fun a hE => ?_)
                      refine pld ?_
                      exact then_n ⟨k90, by omega, _, x78, (w64 (x79 + 1)), by omega, hE, .of, hS, H⟩
                  · rw [if_neg c93] at H
                    replace hE := hE.bf 57 c93
                    refine cf hE ?_
                    refine wp_exit ?_
                    refine hK76 _ _ ?_
                    refine wp_seq_k fun K103 hK103 => ?_
                    refine wp_seq_k fun K104 hK104 => ?_
                    refine pl0 ?_
                    refine plc hE (.r 0 1 .nil) (fun a hE => ?_)
                    refine pld ?_
                    refine hK104 _ _ ?_
                    refine wp_block ?_
                    replace hS := hS.tail
                    refine wp_loop_ghost (fun kq107 a w' => ∃ (G : Nat → Value) (x105 : Int), kq107 ≤ k90 ∧ Env 107 G a ∧ At G [(0, .slice A0_0 x0_.length c0_0), (7, .slice A7 t4.length c8), (8, .int .i64 x78), (11, .int .i64 x105)] ∧ St W (mine W []) F w' F71 [row (Kn.int .i64) 3 (.slice A7 t4.length c8) t4] ∧  windroselaw07_PlaceZones.l106 kq107 x0_ t4 x78 x105 = some r) k90 ⟨_, 0, Nat.le_refl _, hE, .of, hS, H⟩ ?_
                    rintro kq107 a u109 ⟨G, x105, hkq, hE, hA, hS, H⟩
                    cases kq107 with
                    | zero => cases (show none = some r from H)
                    | succ k108 =>
                      rw [windroselaw07_PlaceZones.l106_s] at H
                      obtain ⟨J, hE⟩ := hE.at hA
                      refine wp_seq_k fun K110 hK110 => ?_
                      refine wp_seq_k fun K111 hK111 => ?_
                      refine pl0 ?_
                      refine plc hE (.r 0 4 .nil) (fun a hE => ?_)
                      refine pld ?_
                      refine hK111 _ _ ?_
                      by_cases c112 : x105 < (t4.length : Int)
                      · rw [if_pos c112] at H
                        replace hE := hE.kt 71 c112
                        refine ct hE ?_
                        refine wp_skip ?_
                        refine hK110 _ _ ?_
                        refine wp_seq_k fun K113 hK113 => ?_
                        refine wp_block ?_
                        refine wp_seq_k fun K114 hK114 => ?_
                        refine pl0 ?_
                        by_cases c115 : 0 ≤ x105 ∧ x105 < (t4.length : Int)
                        rotate_left
                        · rw [if_neg c115] at H; cases H
                        rw [if_pos c115] at H
                        have hr116 := hS.row_at (i := 0) rfl
                        have hE_ := hE
                        obtain ⟨b117, rfl⟩ := row_addr hr116 c115.1 c115.2
                        replace hE := hE_
                        have hr_ := hS.row_at (i := 0) rfl
                        obtain ⟨cs119, rfl, hc120⟩ := row_el hr_ 0 x105 c115.1 c115.2
                        refine plc hE (.r 0 3 <| .x 3 c115 <| .c 4 (hc120 0 _ rfl) <| .nil) (fun a hE => ?_)
                        obtain ⟨t122, h123, H⟩ := Option.bind_eq_some_iff.mp H
                        refine ple hE (.cl en49 (windroseref06_Find.calls k108 x0_ (nth 0 t4 x105) _ _ _ _ _ hS.own.sub g0_0 h123)) ?_
                        rintro _ u121 a ⟨_, rfl, hC⟩ hE
                        replace hS := hS.lent hC
                        refine plc hE (.r 6 3 .nil) (fun a hE => ?_)
                        refine ple hE (.al (t := 102) hS [.int .i64 0, .int .i64 0, .int .i64 0, .int .i64 0, .bool false, .bool false]) ?_
                        rintro _ u125 a ⟨b124, rfl, hb124, hS, hg⟩ hE
                        refine ple hE (.sto hS [.int .i64 t122.1.f0, .int .i64 t122.1.f1, .int .i64 t122.1.f2, .int .i64 t122.1.f3, .bool t122.1.f4, .bool t122.1.f5]) ?_
                        rintro _ u126 a ⟨rfl, hb124, hS, hz⟩ hE
                        refine plc hE (.r 11 1 .nil) (fun a hE => ?_)
                        refine pld ?_
                        refine hK114 _ _ ?_
                        refine wp_seq_k fun K127 hK127 => ?_
                        have J134 : ∀ kq132, kq132 ≤ k108 → ∀ (G : Nat → Value) (y130 : Bool) (a : Act) (w' : World), Env 107 G a → At G [(0, .slice A0_0 x0_.length c0_0), (7, .slice (some ⟨b117, 0, none⟩) t4.length c8), (8, .int .i64 x78), (11, .int .i64 x105), (94, .bool y130)] → St W (mine W []) F w' F71 [box b124 #[.int .i64 t122.1.f0, .int .i64 t122.1.f1, .int .i64 t122.1.f2, .int .i64 t122.1.f3, .bool t122.1.f4, .bool t122.1.f5] 102, row (Kn.int .i64) 3 (.slice (some ⟨b117, 0, none⟩) t4.length c8) t4] → windroselaw07_PlaceZones.j131 kq132 x0_ t4 x78 x105 y130 = some r → K127 a w' := by
                          intro kq132 hkq G y130 a u135 hE hA hS H
                          cases kq132 with
                          | zero => cases (show none = some r from H)
                          | succ k133 =>
                            rw [windroselaw07_PlaceZones.j131_s] at H
                            obtain ⟨J, hE⟩ := hE.at hA
                            refine hK127 _ _ ?_
                            by_cases c136 : y130 = true
                            · rw [if_pos c136] at H
                              replace hE := hE.bt 94 c136
                              refine ct hE ?_
                              refine wp_seq_k fun K137 hK137 => ?_
                              refine pl0 ?_
                              refine plc hE (.r 0 1 .nil) (fun a hE => ?_)
                              refine pld ?_
                              refine hK137 _ _ ?_
                              refine wp_ret (block_ret (then_ret (then_ret (block_ret (then_ret ?_)))))
                              replace hS := hS.tail
                              replace hS := hS.tail
                              obtain rfl := Option.some.inj H
                              exact rt1 hE ⟨_, rfl, _, rfl, hS⟩
                            · rw [if_neg c136] at H
                              replace hE := hE.bf 94 c136
                              refine cf hE ?_
                              refine wp_skip ?_
                              refine block_n ?_
                              refine hK113 _ _ ?_
                              refine pl0 ?_
                              refine plc hE (.r 0 3 .nil) (fun a hE => ?_)
                              refine pld ?_
                              replace hS := hS.tail
                              exact then_n ⟨k133, by omega, _, (w64 (x105 + 1)), by omega, hE, .of, hS, H⟩
                        refine pl0 ?_
                        refine plc hE (.r 0 3 .nil) (fun a hE => ?_)
                        by_cases c128 : t122.2 = true
                        · rw [if_pos c128] at H
                          replace hE := hE.btn 85 c128
                          refine plc hE (.r 3 1 <| .b 4 5 hb124 <| .r 5 3 <| .nil) (fun a hE => ?_)
                          by_cases c129 : t122.1.f5 = true
                          · rw [if_pos c129] at H
                            replace hE := hE.btn 90 c129
                            refine plc hE (.r 8 1 <| .b 9 3 hb124 <| .r 10 2 <| .nil) (fun a hE => ?_)
                            refine pld ?_
                            exact J134 _ (by omega) _ (t122.1.f3 == 0) _ _ hE .of hS H
                          · rw [if_neg c129] at H
                            replace hE := hE.bfn 90 c129
                            refine plc hE (.r 8 4 .nil) (fun a hE => ?_)
                            refine pld ?_
                            exact J134 _ (by omega) _ true _ _ hE .of hS H
                        · rw [if_neg c128] at H
                          replace hE := hE.bfn 85 c128
                          refine plc hE (.r 3 9 .nil) (fun a hE => ?_)
                          refine pld ?_
                          exact J134 _ (by omega) _ true _ _ hE .of hS H
                      · rw [if_neg c112] at H
                        replace hE := hE.kf 71 c112
                        refine cf hE ?_
                        refine wp_exit ?_
                        refine hK103 _ _ ?_
                        refine wp_seq_k fun K138 hK138 => ?_
                        refine pl0 ?_
                        refine plc hE (.r 0 5 .nil) (fun a hE => ?_)
                        by_cases c139 : (t4.length : Int) = x78
                        · rw [if_pos c139] at H
                          replace hE := hE.kt 99 c139
                          refine plc hE (.r 5 2 .nil) (fun a hE => ?_)
                          obtain ⟨t141, h142, H⟩ := Option.bind_eq_some_iff.mp H
                          refine ple hE (.cl en50 (windroseref06_Apart.calls k108 x0_ t4 _ _ _ _ _ _ _ (Sub.refl _) (g0_0.mono hS.own.sub) (hS.rd_at (i := 0) rfl) h142)) ?_
                          rintro _ u140 a ⟨_, rfl, hC⟩ hE
                          replace hS := hS.lent hC
                          refine plc hE (.r 8 2 .nil) (fun a hE => ?_)
                          by_cases c143 : t141 = true
                          · rw [if_pos c143] at H
                            replace hE := hE.bt 104 c143
                            obtain ⟨t145, h146, H⟩ := Option.bind_eq_some_iff.mp H
                            refine ple hE (.cl en41 (windroselaw07_awake.calls k108 _ _ _ hS.own.sub h146)) ?_
                            rintro _ u144 a ⟨_, rfl, hC⟩ hE
                            replace hS := hS.lent hC
                            refine plc hE (.r 11 2 .nil) (fun a hE => ?_)
                            refine pld ?_
                            refine hK138 _ _ ?_
                            refine wp_ret ?_
                            replace hS := hS.tail
                            obtain rfl := Option.some.inj H
                            exact rt1 hE ⟨_, rfl, _, rfl, hS⟩
                          · rw [if_neg c143] at H
                            replace hE := hE.bf 104 c143
                            refine plc hE (.r 10 3 .nil) (fun a hE => ?_)
                            refine pld ?_
                            refine hK138 _ _ ?_
                            refine wp_ret ?_
                            replace hS := hS.tail
                            obtain rfl := Option.some.inj H
                            exact rt1 hE ⟨_, rfl, _, rfl, hS⟩
                        · rw [if_neg c139] at H
                          replace hE := hE.kf 99 c139
                          refine plc hE (.r 5 8 .nil) (fun a hE => ?_)
                          refine pld ?_
                          refine hK138 _ _ ?_
                          refine wp_ret ?_
                          replace hS := hS.tail
                          obtain rfl := Option.some.inj H
                          exact rt1 hE ⟨_, rfl, _, rfl, hS⟩
              refine pl0 ?_
              refine plc hE (.r 0 5 .nil) (fun a hE => ?_)
              by_cases c86 : x79 < (t69.length : Int)
              · rw [if_pos c86] at H
                replace hE := hE.kt 53 c86
                refine plc hE (.r 5 4 .nil) (fun a hE => ?_)
                refine pld ?_
                exact J91 _ (by omega) _ (decide (x78 < x2_)) _ _ hE .of hS H
              · rw [if_neg c86] at H
                replace hE := hE.kf 53 c86
                refine plc hE (.r 5 4 .nil) (fun a hE => ?_)
                refine pld ?_
                exact J91 _ (by omega) _ false _ _ hE .of hS H
      refine pl0 ?_
      refine plc hE (.r 0 1 .nil) (fun a hE => ?_)
      refine ple hE (.lit (d := T_api_Node.k) (e := 102) hS [(⟨1, 1, 1, 1, false, true⟩ : T_api_Node)] (.cons rfl .nil)) ?_
      rintro _ u35 a ⟨A36, c37, rfl, hS, hg⟩ hE
      refine plc hE (.r 2 2 .nil) (fun a hE => ?_)
      obtain ⟨F39, hs, g40, hS⟩ := hS.give
      replace g0_0 := g0_0.mono hs
      obtain ⟨t42, h43, H⟩ := Option.bind_eq_some_iff.mp H
      refine ple hE (.cl en47 (windroseref07_Of.calls k [(⟨1, 1, 1, 1, false, true⟩ : T_api_Node)] x1_ x2_ _ _ _ _ _ hS.own.sub g40 h43)) ?_
      rintro _ u41 a ⟨F44, A45, c46, rfl, hC⟩ hE
      have hs := hC.sub
      replace hS := hS.called (X := []) hC
      replace g0_0 := g0_0.mono hs
      replace g40 := g40.mono hs
      refine plc hE (.r 5 3 .nil) (fun a hE => ?_)
      by_cases c49 : (t42.length : Int) = 0
      · rw [if_pos c49] at H
        replace hE := hE.kt 36 c49
        refine plc hE (.r 8 4 .nil) (fun a hE => ?_)
        refine pld ?_
        replace hS := hS.tail
        replace hS := hS.tail
        exact J58 _ (by omega) _ true F44 _ _ hE .of hS g0_0 H
      · rw [if_neg c49] at H
        replace hE := hE.kf 36 c49
        refine plc hE (.r 8 1 .nil) (fun a hE => ?_)
        obtain ⟨t51, h52, H⟩ := Option.bind_eq_some_iff.mp H
        refine ple hE (.cl en43 (windroseref06_May.calls k x0_ _ _ _ _ _ hS.own.sub g0_0 h52)) ?_
        rintro _ u50 a ⟨_, rfl, hC⟩ hE
        replace hS := hS.lent hC
        refine plc hE (.r 10 2 .nil) (fun a hE => ?_)
        refine pld ?_
        replace hS := hS.tail
        replace hS := hS.tail
        exact J58 _ (by omega) _ (!t51) F44 _ _ hE .of hS g0_0 H
    · rw [if_neg c31] at H
      replace hE := hE.bfn 28 c31
      refine ct hE ?_
      refine wp_seq_k fun K32 hK32 => ?_
      refine pl0 ?_
      refine plc hE (.r 0 1 .nil) (fun a hE => ?_)
      refine pld ?_
      refine hK32 _ _ ?_
      refine wp_ret (then_ret ?_)
      replace hS := hS.tail
      replace hS := hS.tail
      obtain rfl := Option.some.inj H
      exact rt1 hE ⟨_, rfl, _, rfl, hS⟩

end Go.Proofs.Ytihjknnhbgkinaa.SZ
