/- Functions of the program, what each computes (written by wip/s/sl.py). -/
import Derived.Test.YtpohepinmjmbkaaGreatMS7
namespace Go.Proofs.YtpohepinmjmbkaaGreat.MS
open Go Go.RowKit Go.Proofs.YtpohepinmjmbkaaGreat.Sl
set_option linter.unusedVariables false
set_option linter.unusedSimpArgs false
set_option maxHeartbeats 4000000
set_option maxRecDepth 100000
/-! ### windrose/windroseref07.Run: function 123 -/
mutual
def windroseref07_Run.l24 : Nat → List T_api_Node → List T_api_Step → Int → Int → List Ar3_i64 → List Int → Int → Option (List Int)
  | 0, _, _, _, _, _, _, _ => none
  | k + 1, x0_, x1_, x2_, x3_, l18, l21, x22 => if x22 < (x1_.length : Int) then (if 0 ≤ x22 ∧ x22 < (x1_.length : Int) then (if (nth T_api_Step.z x1_ x22).f0 = 1 then (if ((([] : List Ar3_i64).length : Int) + ((1 : Nat) : Int)) * 24 ≤ 140737488355328 then (windroseref07_Run.j61 k x0_ x1_ x2_ x3_ l18 l21 x22 (([] : List Ar3_i64) ++ [(⟨0, 0, 0⟩ : Ar3_i64)])) else (none)) else (windroseref07_Run.j61 k x0_ x1_ x2_ x3_ l18 l21 x22 ([] : List Ar3_i64))) else (none)) else (some l21)
def windroseref07_Run.j61 : Nat → List T_api_Node → List T_api_Step → Int → Int → List Ar3_i64 → List Int → Int → List Ar3_i64 → Option (List Int)
  | 0, _, _, _, _, _, _, _, _ => none
  | k + 1, x0_, x1_, x2_, x3_, l18, l21, x22, l60 => windroseref07_Run.l78 k x0_ x1_ x2_ x3_ l18 x22 l21 l60 0
def windroseref07_Run.l78 : Nat → List T_api_Node → List T_api_Step → Int → Int → List Ar3_i64 → Int → List Int → List Ar3_i64 → Int → Option (List Int)
  | 0, _, _, _, _, _, _, _, _, _ => none
  | k + 1, x0_, x1_, x2_, x3_, l18, x22, l72, l75, x76 => if x76 < (l18.length : Int) then (if 0 ≤ x76 ∧ x76 < (l18.length : Int) then (if (nth T_api_Step.z x1_ x22).f0 = 3 then (windroseref07_Run.l104 k x0_ x1_ x2_ x3_ l18 x22 l72 l75 x76 false 0) else ((windroseref06_Leaves.f k x0_ ((nth Ar3_i64.z l18 x76).f0) ((nth Ar3_i64.z l18 x76).f1)).bind fun t139 => (if (nth T_api_Step.z x1_ x22).f1 = 1 then ((windroseref06_Zones.f k x0_).bind fun t150 => (windroseref07_Run.j162 k x0_ x1_ x2_ x3_ l18 x22 l72 l75 x76 t150)) else (windroseref07_Run.j162 k x0_ x1_ x2_ x3_ l18 x22 l72 l75 x76 t139)))) else (none)) else (windroseref07_Run.l24 k x0_ x1_ x2_ x3_ l75 l72 (w64 (x22 + 1)))
def windroseref07_Run.l104 : Nat → List T_api_Node → List T_api_Step → Int → Int → List Ar3_i64 → Int → List Int → List Ar3_i64 → Int → Bool → Int → Option (List Int)
  | 0, _, _, _, _, _, _, _, _, _, _, _ => none
  | k + 1, x0_, x1_, x2_, x3_, l18, x22, l72, l75, x76, y102, x103 => if x103 < (l72.length : Int) then (if y102 = true then (windroseref07_Run.l104 k x0_ x1_ x2_ x3_ l18 x22 l72 l75 x76 true (w64 (x103 + 1))) else (if 0 ≤ x103 ∧ x103 < (l72.length : Int) then (windroseref07_Run.l104 k x0_ x1_ x2_ x3_ l18 x22 l72 l75 x76 ((nth 0 l72 x103) == (nth Ar3_i64.z l18 x76).f2) (w64 (x103 + 1))) else (none))) else (if y102 = true then (windroseref07_Run.j123 k x0_ x1_ x2_ x3_ l18 x22 l72 l75 x76 false) else (windroseref07_Run.j123 k x0_ x1_ x2_ x3_ l18 x22 l72 l75 x76 (decide ((l72.length : Int) < x3_))))
def windroseref07_Run.j123 : Nat → List T_api_Node → List T_api_Step → Int → Int → List Ar3_i64 → Int → List Int → List Ar3_i64 → Int → Bool → Option (List Int)
  | 0, _, _, _, _, _, _, _, _, _, _ => none
  | k + 1, x0_, x1_, x2_, x3_, l18, x22, l72, l75, x76, y122 => if y122 = true then (if ((l72.length : Int) + ((1 : Nat) : Int)) * 8 ≤ 140737488355328 then (windroseref07_Run.l78 k x0_ x1_ x2_ x3_ l18 x22 (l72 ++ [(nth Ar3_i64.z l18 x76).f2]) l75 (w64 (x76 + 1))) else (none)) else (windroseref07_Run.l78 k x0_ x1_ x2_ x3_ l18 x22 l72 l75 (w64 (x76 + 1)))
def windroseref07_Run.j162 : Nat → List T_api_Node → List T_api_Step → Int → Int → List Ar3_i64 → Int → List Int → List Ar3_i64 → Int → List T_api_Choice → Option (List Int)
  | 0, _, _, _, _, _, _, _, _, _, _ => none
  | k + 1, x0_, x1_, x2_, x3_, l18, x22, l72, l75, x76, l160 => if (nth T_api_Step.z x1_ x22).f1 = 2 then ((windroseref06_Racks.f k x0_ ((nth Ar3_i64.z l18 x76).f0)).bind fun t171 => (windroseref07_Run.j183 k x0_ x1_ x2_ x3_ l18 x22 l72 l75 x76 t171)) else (windroseref07_Run.j183 k x0_ x1_ x2_ x3_ l18 x22 l72 l75 x76 l160)
def windroseref07_Run.j183 : Nat → List T_api_Node → List T_api_Step → Int → Int → List Ar3_i64 → Int → List Int → List Ar3_i64 → Int → List T_api_Choice → Option (List Int)
  | 0, _, _, _, _, _, _, _, _, _, _ => none
  | k + 1, x0_, x1_, x2_, x3_, l18, x22, l72, l75, x76, l181 => (windroseref01_Fold.f k (IntKind.u64.wrap x2_) [(IntKind.u64.wrap (nth T_api_Step.z x1_ x22).f1), (IntKind.u64.wrap (nth Ar3_i64.z l18 x76).f0), (IntKind.u64.wrap (nth Ar3_i64.z l18 x76).f1)]).bind fun t194 => ((windroseref05_Order.f k t194 l181).bind fun t199 => (windroseref07_Run.l212 k x0_ x1_ x2_ x3_ l18 x22 l72 x76 t199 l75 0))
def windroseref07_Run.l212 : Nat → List T_api_Node → List T_api_Step → Int → Int → List Ar3_i64 → Int → List Int → Int → List Int → List Ar3_i64 → Int → Option (List Int)
  | 0, _, _, _, _, _, _, _, _, _, _, _ => none
  | k + 1, x0_, x1_, x2_, x3_, l18, x22, l72, x76, t199, l210, x211 => if x211 < (t199.length : Int) then (windroseref07_Run.j220 k x0_ x1_ x2_ x3_ l18 x22 l72 x76 t199 l210 x211 (decide (x211 < (nth T_api_Step.z x1_ x22).f2))) else (windroseref07_Run.j220 k x0_ x1_ x2_ x3_ l18 x22 l72 x76 t199 l210 x211 false)
def windroseref07_Run.j220 : Nat → List T_api_Node → List T_api_Step → Int → Int → List Ar3_i64 → Int → List Int → Int → List Int → List Ar3_i64 → Int → Bool → Option (List Int)
  | 0, _, _, _, _, _, _, _, _, _, _, _, _ => none
  | k + 1, x0_, x1_, x2_, x3_, l18, x22, l72, x76, t199, l210, x211, y219 => if y219 = true then (if 0 ≤ x211 ∧ x211 < (t199.length : Int) then (if (w64 ((nth T_api_Step.z x1_ x22).f1 - 1)) = 0 then (windroseref07_Run.j247 k x0_ x1_ x2_ x3_ l18 x22 l72 x76 t199 l210 x211 (nth 0 t199 x211) ((nth Ar3_i64.z l18 x76).f1) ((nth Ar3_i64.z l18 x76).f2)) else (if (w64 ((nth T_api_Step.z x1_ x22).f1 - 1)) = 1 then (windroseref07_Run.j247 k x0_ x1_ x2_ x3_ l18 x22 l72 x76 t199 l210 x211 ((nth Ar3_i64.z l18 x76).f0) (nth 0 t199 x211) ((nth Ar3_i64.z l18 x76).f2)) else (if (w64 ((nth T_api_Step.z x1_ x22).f1 - 1)) = 2 then (windroseref07_Run.j247 k x0_ x1_ x2_ x3_ l18 x22 l72 x76 t199 l210 x211 ((nth Ar3_i64.z l18 x76).f0) ((nth Ar3_i64.z l18 x76).f1) (nth 0 t199 x211)) else (none)))) else (none)) else (windroseref07_Run.l78 k x0_ x1_ x2_ x3_ l18 x22 l72 l210 (w64 (x76 + 1)))
def windroseref07_Run.j247 : Nat → List T_api_Node → List T_api_Step → Int → Int → List Ar3_i64 → Int → List Int → Int → List Int → List Ar3_i64 → Int → Int → Int → Int → Option (List Int)
  | 0, _, _, _, _, _, _, _, _, _, _, _, _, _, _ => none
  | k + 1, x0_, x1_, x2_, x3_, l18, x22, l72, x76, t199, l210, x211, x244, x245, x246 => if ((l210.length : Int) + ((1 : Nat) : Int)) * 24 ≤ 140737488355328 then (windroseref07_Run.l212 k x0_ x1_ x2_ x3_ l18 x22 l72 x76 t199 (l210 ++ [(⟨x244, x245, x246⟩ : Ar3_i64)]) (w64 (x211 + 1))) else (none)
end
theorem windroseref07_Run.l24_s (k : Nat) (x0_ : List T_api_Node) (x1_ : List T_api_Step) (x2_ : Int) (x3_ : Int) (l18 : List Ar3_i64) (l21 : List Int) (x22 : Int) : windroseref07_Run.l24 (k + 1) x0_ x1_ x2_ x3_ l18 l21 x22 = (if x22 < (x1_.length : Int) then (if 0 ≤ x22 ∧ x22 < (x1_.length : Int) then (if (nth T_api_Step.z x1_ x22).f0 = 1 then (if ((([] : List Ar3_i64).length : Int) + ((1 : Nat) : Int)) * 24 ≤ 140737488355328 then (windroseref07_Run.j61 k x0_ x1_ x2_ x3_ l18 l21 x22 (([] : List Ar3_i64) ++ [(⟨0, 0, 0⟩ : Ar3_i64)])) else (none)) else (windroseref07_Run.j61 k x0_ x1_ x2_ x3_ l18 l21 x22 ([] : List Ar3_i64))) else (none)) else (some l21)) := by kernel_rfl
theorem windroseref07_Run.j61_s (k : Nat) (x0_ : List T_api_Node) (x1_ : List T_api_Step) (x2_ : Int) (x3_ : Int) (l18 : List Ar3_i64) (l21 : List Int) (x22 : Int) (l60 : List Ar3_i64) : windroseref07_Run.j61 (k + 1) x0_ x1_ x2_ x3_ l18 l21 x22 l60 = (windroseref07_Run.l78 k x0_ x1_ x2_ x3_ l18 x22 l21 l60 0) := by kernel_rfl
theorem windroseref07_Run.l78_s (k : Nat) (x0_ : List T_api_Node) (x1_ : List T_api_Step) (x2_ : Int) (x3_ : Int) (l18 : List Ar3_i64) (x22 : Int) (l72 : List Int) (l75 : List Ar3_i64) (x76 : Int) : windroseref07_Run.l78 (k + 1) x0_ x1_ x2_ x3_ l18 x22 l72 l75 x76 = (if x76 < (l18.length : Int) then (if 0 ≤ x76 ∧ x76 < (l18.length : Int) then (if (nth T_api_Step.z x1_ x22).f0 = 3 then (windroseref07_Run.l104 k x0_ x1_ x2_ x3_ l18 x22 l72 l75 x76 false 0) else ((windroseref06_Leaves.f k x0_ ((nth Ar3_i64.z l18 x76).f0) ((nth Ar3_i64.z l18 x76).f1)).bind fun t139 => (if (nth T_api_Step.z x1_ x22).f1 = 1 then ((windroseref06_Zones.f k x0_).bind fun t150 => (windroseref07_Run.j162 k x0_ x1_ x2_ x3_ l18 x22 l72 l75 x76 t150)) else (windroseref07_Run.j162 k x0_ x1_ x2_ x3_ l18 x22 l72 l75 x76 t139)))) else (none)) else (windroseref07_Run.l24 k x0_ x1_ x2_ x3_ l75 l72 (w64 (x22 + 1)))) := by kernel_rfl
theorem windroseref07_Run.l104_s (k : Nat) (x0_ : List T_api_Node) (x1_ : List T_api_Step) (x2_ : Int) (x3_ : Int) (l18 : List Ar3_i64) (x22 : Int) (l72 : List Int) (l75 : List Ar3_i64) (x76 : Int) (y102 : Bool) (x103 : Int) : windroseref07_Run.l104 (k + 1) x0_ x1_ x2_ x3_ l18 x22 l72 l75 x76 y102 x103 = (if x103 < (l72.length : Int) then (if y102 = true then (windroseref07_Run.l104 k x0_ x1_ x2_ x3_ l18 x22 l72 l75 x76 true (w64 (x103 + 1))) else (if 0 ≤ x103 ∧ x103 < (l72.length : Int) then (windroseref07_Run.l104 k x0_ x1_ x2_ x3_ l18 x22 l72 l75 x76 ((nth 0 l72 x103) == (nth Ar3_i64.z l18 x76).f2) (w64 (x103 + 1))) else (none))) else (if y102 = true then (windroseref07_Run.j123 k x0_ x1_ x2_ x3_ l18 x22 l72 l75 x76 false) else (windroseref07_Run.j123 k x0_ x1_ x2_ x3_ l18 x22 l72 l75 x76 (decide ((l72.length : Int) < x3_))))) := by kernel_rfl
theorem windroseref07_Run.j123_s (k : Nat) (x0_ : List T_api_Node) (x1_ : List T_api_Step) (x2_ : Int) (x3_ : Int) (l18 : List Ar3_i64) (x22 : Int) (l72 : List Int) (l75 : List Ar3_i64) (x76 : Int) (y122 : Bool) : windroseref07_Run.j123 (k + 1) x0_ x1_ x2_ x3_ l18 x22 l72 l75 x76 y122 = (if y122 = true then (if ((l72.length : Int) + ((1 : Nat) : Int)) * 8 ≤ 140737488355328 then (windroseref07_Run.l78 k x0_ x1_ x2_ x3_ l18 x22 (l72 ++ [(nth Ar3_i64.z l18 x76).f2]) l75 (w64 (x76 + 1))) else (none)) else (windroseref07_Run.l78 k x0_ x1_ x2_ x3_ l18 x22 l72 l75 (w64 (x76 + 1)))) := by kernel_rfl
theorem windroseref07_Run.j162_s (k : Nat) (x0_ : List T_api_Node) (x1_ : List T_api_Step) (x2_ : Int) (x3_ : Int) (l18 : List Ar3_i64) (x22 : Int) (l72 : List Int) (l75 : List Ar3_i64) (x76 : Int) (l160 : List T_api_Choice) : windroseref07_Run.j162 (k + 1) x0_ x1_ x2_ x3_ l18 x22 l72 l75 x76 l160 = (if (nth T_api_Step.z x1_ x22).f1 = 2 then ((windroseref06_Racks.f k x0_ ((nth Ar3_i64.z l18 x76).f0)).bind fun t171 => (windroseref07_Run.j183 k x0_ x1_ x2_ x3_ l18 x22 l72 l75 x76 t171)) else (windroseref07_Run.j183 k x0_ x1_ x2_ x3_ l18 x22 l72 l75 x76 l160)) := by kernel_rfl
theorem windroseref07_Run.j183_s (k : Nat) (x0_ : List T_api_Node) (x1_ : List T_api_Step) (x2_ : Int) (x3_ : Int) (l18 : List Ar3_i64) (x22 : Int) (l72 : List Int) (l75 : List Ar3_i64) (x76 : Int) (l181 : List T_api_Choice) : windroseref07_Run.j183 (k + 1) x0_ x1_ x2_ x3_ l18 x22 l72 l75 x76 l181 = ((windroseref01_Fold.f k (IntKind.u64.wrap x2_) [(IntKind.u64.wrap (nth T_api_Step.z x1_ x22).f1), (IntKind.u64.wrap (nth Ar3_i64.z l18 x76).f0), (IntKind.u64.wrap (nth Ar3_i64.z l18 x76).f1)]).bind fun t194 => ((windroseref05_Order.f k t194 l181).bind fun t199 => (windroseref07_Run.l212 k x0_ x1_ x2_ x3_ l18 x22 l72 x76 t199 l75 0))) := by kernel_rfl
theorem windroseref07_Run.l212_s (k : Nat) (x0_ : List T_api_Node) (x1_ : List T_api_Step) (x2_ : Int) (x3_ : Int) (l18 : List Ar3_i64) (x22 : Int) (l72 : List Int) (x76 : Int) (t199 : List Int) (l210 : List Ar3_i64) (x211 : Int) : windroseref07_Run.l212 (k + 1) x0_ x1_ x2_ x3_ l18 x22 l72 x76 t199 l210 x211 = (if x211 < (t199.length : Int) then (windroseref07_Run.j220 k x0_ x1_ x2_ x3_ l18 x22 l72 x76 t199 l210 x211 (decide (x211 < (nth T_api_Step.z x1_ x22).f2))) else (windroseref07_Run.j220 k x0_ x1_ x2_ x3_ l18 x22 l72 x76 t199 l210 x211 false)) := by kernel_rfl
theorem windroseref07_Run.j220_s (k : Nat) (x0_ : List T_api_Node) (x1_ : List T_api_Step) (x2_ : Int) (x3_ : Int) (l18 : List Ar3_i64) (x22 : Int) (l72 : List Int) (x76 : Int) (t199 : List Int) (l210 : List Ar3_i64) (x211 : Int) (y219 : Bool) : windroseref07_Run.j220 (k + 1) x0_ x1_ x2_ x3_ l18 x22 l72 x76 t199 l210 x211 y219 = (if y219 = true then (if 0 ≤ x211 ∧ x211 < (t199.length : Int) then (if (w64 ((nth T_api_Step.z x1_ x22).f1 - 1)) = 0 then (windroseref07_Run.j247 k x0_ x1_ x2_ x3_ l18 x22 l72 x76 t199 l210 x211 (nth 0 t199 x211) ((nth Ar3_i64.z l18 x76).f1) ((nth Ar3_i64.z l18 x76).f2)) else (if (w64 ((nth T_api_Step.z x1_ x22).f1 - 1)) = 1 then (windroseref07_Run.j247 k x0_ x1_ x2_ x3_ l18 x22 l72 x76 t199 l210 x211 ((nth Ar3_i64.z l18 x76).f0) (nth 0 t199 x211) ((nth Ar3_i64.z l18 x76).f2)) else (if (w64 ((nth T_api_Step.z x1_ x22).f1 - 1)) = 2 then (windroseref07_Run.j247 k x0_ x1_ x2_ x3_ l18 x22 l72 x76 t199 l210 x211 ((nth Ar3_i64.z l18 x76).f0) ((nth Ar3_i64.z l18 x76).f1) (nth 0 t199 x211)) else (none)))) else (none)) else (windroseref07_Run.l78 k x0_ x1_ x2_ x3_ l18 x22 l72 l210 (w64 (x76 + 1)))) := by kernel_rfl
theorem windroseref07_Run.j247_s (k : Nat) (x0_ : List T_api_Node) (x1_ : List T_api_Step) (x2_ : Int) (x3_ : Int) (l18 : List Ar3_i64) (x22 : Int) (l72 : List Int) (x76 : Int) (t199 : List Int) (l210 : List Ar3_i64) (x211 : Int) (x244 : Int) (x245 : Int) (x246 : Int) : windroseref07_Run.j247 (k + 1) x0_ x1_ x2_ x3_ l18 x22 l72 x76 t199 l210 x211 x244 x245 x246 = (if ((l210.length : Int) + ((1 : Nat) : Int)) * 24 ≤ 140737488355328 then (windroseref07_Run.l212 k x0_ x1_ x2_ x3_ l18 x22 l72 x76 t199 (l210 ++ [(⟨x244, x245, x246⟩ : Ar3_i64)]) (w64 (x211 + 1))) else (none)) := by kernel_rfl
def windroseref07_Run.f (k : Nat) (x0_ : List T_api_Node) (x1_ : List T_api_Step) (x2_ : Int) (x3_ : Int) : Option (List Int) := windroseref07_Run.l24 k x0_ x1_ x2_ x3_ ([] : List Ar3_i64) ([] : List Int) 0
def windroseref07_Run.Post (W F : World) (r : List Int) (v : Value) (w' : World) : Prop := ∃ (F' : World) (RA0_0 : Option Addr) (rc0_0 : Nat), v = .slice RA0_0 r.length rc0_0 ∧ St W (mine W []) F w' F' [row (Kn.int .i64) 3 (.slice RA0_0 r.length rc0_0) r]
theorem windroseref07_Run.calls (k : Nat) (x0_ : List T_api_Node) (x1_ : List T_api_Step) (x2_ : Int) (x3_ : Int) (A0_0 : Option Addr) (c0_0 : Nat) (A1_0 : Option Addr) (c1_0 : Nat) (r : List Int) (W F : World) (hown : Sub F W) (g0_0 : Rd T_api_Node.k F A0_0 c0_0 x0_) (g1_0 : Rd T_api_Step.k F A1_0 c1_0 x1_) (H : windroseref07_Run.f k x0_ x1_ x2_ x3_ = some r) :
    Calls Tryz.prog 123 #[.slice A0_0 x0_.length c0_0, .slice A1_0 x1_.length c1_0, .int .i64 x2_, .int .i64 x3_] W fun e w' => ∃ v, e = .returned v ∧ windroseref07_Run.Post W F r v w' := by
 have hS := St.start (Own.nil hown)
 unfold windroseref07_Run.f at H
 refine enter (n := 144) rfl rfl rfl (Nat.le_of_ble_eq_true rfl) (fun a hE => ?_)
 refine wp_seq_k fun K1 hK1 => pl0 (plc hE (.r 0 1 .nil) (fun a hE => pld (hK1 _ _ (wp_seq_k fun K2 hK2 => pl0 (ple hE (.lit (d := Ar3_i64.k) (e := 176) hS ([] : List Ar3_i64) (.nil)) ?_)))))
 rintro _ u3 a ⟨A4, c5, rfl, hS, hg⟩ hE
 refine plc hE (.r 1 1 .nil) (fun a hE => pld (hK2 _ _ (wp_seq_k fun K7 hK7 => pl0 (ple hE (.lit (d := (Kn.int .i64)) (e := 3) hS ([] : List Int) (.nil)) ?_))))
 rintro _ u8 a ⟨A9, c10, rfl, hS, hg⟩ hE
 refine plc hE (.r 1 1 .nil) (fun a hE => pld (hK7 _ _ (wp_seq_k fun K12 hK12 => wp_seq_k fun K13 hK13 => pl0 (plc hE (.r 0 1 .nil) (fun a hE => pld (hK13 _ _ (wp_block ?_)))))))
 replace hS := hS.front 1 rfl
 refine wp_loop_ghost (fun kq25 a w' => ∃ (G : Nat → Value) (A16 : Option Addr) (c17 : Nat) (l18 : List Ar3_i64) (A19 : Option Addr) (c20 : Nat) (l21 : List Int) (x22 : Int) (F23 : World), kq25 ≤ k ∧ Env 144 G a ∧ At G [(0, .slice A0_0 x0_.length c0_0), (1, .slice A1_0 x1_.length c1_0), (2, .int .i64 x2_), (3, .int .i64 x3_), (9, .slice A16 l18.length c17), (10, .slice A19 l21.length c20), (11, .int .i64 x22)] ∧ St W (mine W []) F w' F23 [row Ar3_i64.k 176 (.slice A16 l18.length c17) l18, row (Kn.int .i64) 3 (.slice A19 l21.length c20) l21] ∧ Rd T_api_Node.k F23 A0_0 c0_0 x0_ ∧ Rd T_api_Step.k F23 A1_0 c1_0 x1_ ∧  windroseref07_Run.l24 kq25 x0_ x1_ x2_ x3_ l18 l21 x22 = some r) k ⟨_, A4, c5, ([] : List Ar3_i64), A9, c10, ([] : List Int), 0, F, Nat.le_refl _, hE, .of, hS, g0_0, g1_0, H⟩ ?_
 rintro kq25 a u27 ⟨G, A16, c17, l18, A19, c20, l21, x22, F23, hkq, hE, hA, hS, g0_0, g1_0, H⟩
 cases kq25 with
 | zero => cases (show none = some r from H)
 | succ k26 =>
  rw [windroseref07_Run.l24_s] at H
  obtain ⟨J, hE⟩ := hE.at hA
  refine wp_seq_k fun K28 hK28 => wp_seq_k fun K29 hK29 => pl0 (plc hE (.r 0 4 .nil) (fun a hE => pld (hK29 _ _ ?_)))
  rcases sp H with ⟨c30, H⟩ | ⟨c30, H⟩
  ·
   replace hE := hE.kt 27 c30
   refine ct hE (wp_skip (hK28 _ _ (wp_seq_k fun K31 hK31 => wp_block (wp_seq_k fun K32 hK32 => pl0 ?_))))
   obtain ⟨c33, H⟩ := gd H
   have hE_ := hE
   obtain ⟨ad34, rfl⟩ := g1_0.addr c33.1 c33.2
   replace hE := hE_
   obtain ⟨cs36, rfl, hc37⟩ := g1_0.el T_api_Step.z x22 c33.1 c33.2
   refine plc hE (.r 0 2 <| .x 2 c33 <| .cs 3 (hS.fcs hc37) <| .nil) (fun a hE => ple hE (.al (t := 175) hS [.int .i64 0, .int .i64 0, .int .i64 0]) ?_)
   rintro _ u39 a ⟨b38, rfl, hb38, hS, hg⟩ hE
   refine ple hE (.sto hS [.int .i64 ((nth T_api_Step.z x1_ x22).f0), .int .i64 ((nth T_api_Step.z x1_ x22).f1), .int .i64 ((nth T_api_Step.z x1_ x22).f2)]) ?_
   rintro _ u40 a ⟨rfl, hb38, hS, hz⟩ hE
   refine pld (hK32 _ _ (wp_seq_k fun K41 hK41 => pl0 (ple hE (.lit (d := Ar3_i64.k) (e := 176) hS ([] : List Ar3_i64) (.nil)) ?_)))
   rintro _ u42 a ⟨A43, c44, rfl, hS, hg⟩ hE
   refine plc hE (.r 1 1 .nil) (fun a hE => pld (hK41 _ _ (wp_seq_k fun K46 hK46 => ?_)))
   have J64 : ∀ kq62, kq62 ≤ k26 → ∀ (G : Nat → Value) (A58 : Option Addr) (c59 : Nat) (l60 : List Ar3_i64) (a : Act) (w' : World), Env 144 G a → At G [(0, .slice A0_0 x0_.length c0_0), (1, .slice (some ad34) x1_.length c1_0), (2, .int .i64 x2_), (3, .int .i64 x3_), (9, .slice A16 l18.length c17), (10, .slice A19 l21.length c20), (11, .int .i64 x22), (12, .pointer (some ⟨b38, 0, none⟩)), (13, .slice A58 l60.length c59)] → St W (mine W []) F w' F23 [box b38 #[.int .i64 ((nth T_api_Step.z x1_ x22).f0), .int .i64 ((nth T_api_Step.z x1_ x22).f1), .int .i64 ((nth T_api_Step.z x1_ x22).f2)] 175, row Ar3_i64.k 176 (.slice A16 l18.length c17) l18, row (Kn.int .i64) 3 (.slice A19 l21.length c20) l21, row Ar3_i64.k 176 (.slice A58 l60.length c59) l60] → windroseref07_Run.j61 kq62 x0_ x1_ x2_ x3_ l18 l21 x22 l60 = some r → K46 a w' := by
    intro kq62 hkq G A58 c59 l60 a u65 hE hA hS H
    cases kq62 with
    | zero => cases (show none = some r from H)
    | succ k63 =>
     rw [windroseref07_Run.j61_s] at H
     obtain ⟨J, hE⟩ := hE.at hA
     refine hK46 _ _ (wp_seq_k fun K66 hK66 => wp_seq_k fun K67 hK67 => pl0 (plc hE (.r 0 1 .nil) (fun a hE => pld (hK67 _ _ (wp_block ?_)))))
     refine wp_loop_ghost (fun kq79 a w' => ∃ (G : Nat → Value) (A70 : Option Addr) (c71 : Nat) (l72 : List Int) (A73 : Option Addr) (c74 : Nat) (l75 : List Ar3_i64) (x76 : Int) (F77 : World), kq79 ≤ k63 ∧ Env 144 G a ∧ At G [(0, .slice A0_0 x0_.length c0_0), (1, .slice (some ad34) x1_.length c1_0), (2, .int .i64 x2_), (3, .int .i64 x3_), (9, .slice A16 l18.length c17), (10, .slice A70 l72.length c71), (11, .int .i64 x22), (12, .pointer (some ⟨b38, 0, none⟩)), (13, .slice A73 l75.length c74), (14, .int .i64 x76)] ∧ St W (mine W []) F w' F77 [box b38 #[.int .i64 ((nth T_api_Step.z x1_ x22).f0), .int .i64 ((nth T_api_Step.z x1_ x22).f1), .int .i64 ((nth T_api_Step.z x1_ x22).f2)] 175, row Ar3_i64.k 176 (.slice A16 l18.length c17) l18, row (Kn.int .i64) 3 (.slice A70 l72.length c71) l72, row Ar3_i64.k 176 (.slice A73 l75.length c74) l75] ∧ Rd T_api_Node.k F77 A0_0 c0_0 x0_ ∧ Rd T_api_Step.k F77 (some ad34) c1_0 x1_ ∧  windroseref07_Run.l78 kq79 x0_ x1_ x2_ x3_ l18 x22 l72 l75 x76 = some r) k63 ⟨_, A19, c20, l21, A58, c59, l60, 0, F23, Nat.le_refl _, hE, .of, hS, g0_0, g1_0, H⟩ ?_
     rintro kq79 a u81 ⟨G, A70, c71, l72, A73, c74, l75, x76, F77, hkq, hE, hA, hS, g0_0, g1_0, H⟩
     cases kq79 with
     | zero => cases (show none = some r from H)
     | succ k80 =>
      rw [windroseref07_Run.l78_s] at H
      obtain ⟨J, hE⟩ := hE.at hA
      refine wp_seq_k fun K82 hK82 => wp_seq_k fun K83 hK83 => pl0 (plc hE (.r 0 4 .nil) (fun a hE => pld (hK83 _ _ ?_)))
      rcases sp H with ⟨c84, H⟩ | ⟨c84, H⟩
      ·
       replace hE := hE.kt 45 c84
       refine ct hE (wp_skip (hK82 _ _ (wp_seq_k fun K85 hK85 => wp_block (wp_seq_k fun K86 hK86 => pl0 ?_))))
       obtain ⟨c87, H⟩ := gd H
       have hr88 := hS.row_at (i := 1) rfl
       have hE_ := hE
       obtain ⟨b89, rfl⟩ := row_addr hr88 c87.1 c87.2
       replace hE := hE_
       have hr_ := hS.row_at (i := 1) rfl
       obtain ⟨cs91, rfl, hc92⟩ := row_el hr_ Ar3_i64.z x76 c87.1 c87.2
       refine plc hE (.r 0 2 <| .x 2 c87 <| .cs 3 hc92 <| .nil) (fun a hE => ple hE (.al (t := 176) hS [.int .i64 0, .int .i64 0, .int .i64 0]) ?_)
       rintro _ u94 a ⟨b93, rfl, hb93, hS, hg⟩ hE
       refine ple hE (.sto hS [.int .i64 ((nth Ar3_i64.z l18 x76).f0), .int .i64 ((nth Ar3_i64.z l18 x76).f1), .int .i64 ((nth Ar3_i64.z l18 x76).f2)]) ?_
       rintro _ u95 a ⟨rfl, hb93, hS, hz⟩ hE
       refine pld (hK86 _ _ (wp_seq_k fun K96 hK96 => wp_seq_k fun K97 hK97 => pl0 ?_))
       have hb38 := hS.blk_at (i := 1) rfl
       refine plc hE (.r 0 1 <| .b 1 0 hb38 <| .r 2 1 <| .nil) (fun a hE => pld (hK97 _ _ ?_))
       rcases sp H with ⟨c98, H⟩ | ⟨c98, H⟩
       ·
        replace hE := hE.kt 54 c98
        refine ct hE (wp_seq_k fun K99 hK99 => pl0 (plc hE (.r 0 1 .nil) (fun a hE => pld (hK99 _ _ (wp_seq_k fun K100 hK100 => wp_seq_k fun K101 hK101 => pl0 (plc hE (.r 0 1 .nil) (fun a hE => pld (hK101 _ _ (wp_block ?_)))))))))
        refine wp_loop_ghost (fun kq105 a w' => ∃ (G : Nat → Value) (y102 : Bool) (x103 : Int), kq105 ≤ k80 ∧ Env 144 G a ∧ At G [(0, .slice A0_0 x0_.length c0_0), (1, .slice (some ad34) x1_.length c1_0), (2, .int .i64 x2_), (3, .int .i64 x3_), (9, .slice (some ⟨b89, 0, none⟩) l18.length c17), (10, .slice A70 l72.length c71), (11, .int .i64 x22), (12, .pointer (some ⟨b38, 0, none⟩)), (13, .slice A73 l75.length c74), (14, .int .i64 x76), (15, .pointer (some ⟨b93, 0, none⟩)), (16, .bool y102), (17, .int .i64 x103)] ∧ St W (mine W []) F w' F77 [box b93 #[.int .i64 ((nth Ar3_i64.z l18 x76).f0), .int .i64 ((nth Ar3_i64.z l18 x76).f1), .int .i64 ((nth Ar3_i64.z l18 x76).f2)] 176, box b38 #[.int .i64 ((nth T_api_Step.z x1_ x22).f0), .int .i64 ((nth T_api_Step.z x1_ x22).f1), .int .i64 ((nth T_api_Step.z x1_ x22).f2)] 175, row Ar3_i64.k 176 (.slice (some ⟨b89, 0, none⟩) l18.length c17) l18, row (Kn.int .i64) 3 (.slice A70 l72.length c71) l72, row Ar3_i64.k 176 (.slice A73 l75.length c74) l75] ∧  windroseref07_Run.l104 kq105 x0_ x1_ x2_ x3_ l18 x22 l72 l75 x76 y102 x103 = some r) k80 ⟨_, false, 0, Nat.le_refl _, hE, .of, hS, H⟩ ?_
        rintro kq105 a u107 ⟨G, y102, x103, hkq, hE, hA, hS, H⟩
        cases kq105 with
        | zero => cases (show none = some r from H)
        | succ k106 =>
         rw [windroseref07_Run.l104_s] at H
         obtain ⟨J, hE⟩ := hE.at hA
         refine wp_seq_k fun K108 hK108 => wp_seq_k fun K109 hK109 => pl0 (plc hE (.r 0 4 .nil) (fun a hE => pld (hK109 _ _ ?_)))
         rcases sp H with ⟨c110, H⟩ | ⟨c110, H⟩
         ·
          replace hE := hE.kt 58 c110
          refine ct hE (wp_skip (hK108 _ _ (wp_seq_k fun K111 hK111 => wp_block ?_)))
          refine drawn 11 ⟨[], [], fun q => False⟩ mixed rfl (by kernel_rfl) (fun hst => ?_)
          replace hS := hS.drew
          refine mny 9 hst hE (.r 0 2 .nil) (fun a hE => ?_)
          rcases sp H with ⟨c112, H⟩ | ⟨c112, H⟩
          ·
           replace hE := hE.bt 16 c112
           replace hE := hE.bt 62 c112
           refine mny 0 hst hE (.r 2 9 .nil) (fun a hE => ?_)
           refine dn ?_
           refine block_n ?_
           refine hK111 _ _ (pl0 (plc hE (.r 0 3 .nil) (fun a hE => pld ?_)))
           exact then_n ⟨k106, by omega, _, true, (w64 (x103 + 1)), by omega, hE, .of, hS, H⟩
          ·
           replace hE := hE.bf 16 c112
           replace hE := hE.bf 62 c112
           obtain ⟨c113, H⟩ := gd H
           have hr114 := hS.row_at (i := 3) rfl
           have hE_ := hE
           obtain ⟨b115, rfl⟩ := row_addr hr114 c113.1 c113.2
           replace hE := hE_
           have hr_ := hS.row_at (i := 3) rfl
           obtain ⟨cs117, rfl, hc118⟩ := row_el hr_ 0 x103 c113.1 c113.2
           have hb93 := hS.blk_at (i := 0) rfl
           refine mny 0 hst hE (.r 2 2 <| .x 4 c113 <| .c 5 (hc118 0 _ rfl) <| .r 6 1 <| .b 7 2 hb93 <| .r 8 3 <| .nil) (fun a hE => ?_)
           refine dn ?_
           refine block_n ?_
           refine hK111 _ _ (pl0 (plc hE (.r 0 3 .nil) (fun a hE => pld ?_)))
           exact then_n ⟨k106, by omega, _, ((nth 0 l72 x103) == (nth Ar3_i64.z l18 x76).f2), (w64 (x103 + 1)), by omega, hE, .of, hS, H⟩
         ·
          replace hE := hE.kf 58 c110
          refine cf hE ?_
          refine wp_exit ?_
          refine hK100 _ _ (wp_seq_k fun K119 hK119 => wp_seq_k fun K120 hK120 => ?_)
          have J126 : ∀ kq124, kq124 ≤ k106 → ∀ (G : Nat → Value) (y122 : Bool) (a : Act) (w' : World), Env 144 G a → At G [(0, .slice A0_0 x0_.length c0_0), (1, .slice (some ad34) x1_.length c1_0), (2, .int .i64 x2_), (3, .int .i64 x3_), (9, .slice (some ⟨b89, 0, none⟩) l18.length c17), (10, .slice A70 l72.length c71), (11, .int .i64 x22), (12, .pointer (some ⟨b38, 0, none⟩)), (13, .slice A73 l75.length c74), (14, .int .i64 x76), (15, .pointer (some ⟨b93, 0, none⟩)), (78, .bool y122)] → St W (mine W []) F w' F77 [box b93 #[.int .i64 ((nth Ar3_i64.z l18 x76).f0), .int .i64 ((nth Ar3_i64.z l18 x76).f1), .int .i64 ((nth Ar3_i64.z l18 x76).f2)] 176, box b38 #[.int .i64 ((nth T_api_Step.z x1_ x22).f0), .int .i64 ((nth T_api_Step.z x1_ x22).f1), .int .i64 ((nth T_api_Step.z x1_ x22).f2)] 175, row Ar3_i64.k 176 (.slice (some ⟨b89, 0, none⟩) l18.length c17) l18, row (Kn.int .i64) 3 (.slice A70 l72.length c71) l72, row Ar3_i64.k 176 (.slice A73 l75.length c74) l75] → windroseref07_Run.j123 kq124 x0_ x1_ x2_ x3_ l18 x22 l72 l75 x76 y122 = some r → K120 a w' := by
           intro kq124 hkq G y122 a u127 hE hA hS H
           cases kq124 with
           | zero => cases (show none = some r from H)
           | succ k125 =>
            rw [windroseref07_Run.j123_s] at H
            obtain ⟨J, hE⟩ := hE.at hA
            refine hK120 _ _ ?_
            rcases sp H with ⟨c128, H⟩ | ⟨c128, H⟩
            ·
             replace hE := hE.bt 78 c128
             refine ct hE (pl0 ?_)
             have hb93 := hS.blk_at (i := 0) rfl
             refine plc hE (.r 0 2 <| .b 2 2 hb93 <| .nil) (fun a hE => ple hE (.lit (d := (Kn.int .i64)) (e := 3) hS [(nth Ar3_i64.z l18 x76).f2] (.cons rfl .nil)) ?_)
             rintro _ u129 a ⟨A130, c131, rfl, hS, hg⟩ hE
             obtain ⟨c133, H⟩ := gd H
             replace hS := hS.front 4 rfl
             refine ple hE (.ap (d := (Kn.int .i64)) 8 hS (row_src (hS.row_at (i := 1) rfl)) c133 c131) ?_
             rintro _ u136 a ⟨A134, c135, rfl, hS, hz⟩ hE
             refine plc hE (.r 5 1 .nil) (fun a hE => pld (hK119 _ _ ?_))
             refine wp_exit ?_
             refine hK85 _ _ (pl0 (plc hE (.r 0 3 .nil) (fun a hE => pld ?_)))
             replace hS := hS.front 1 rfl
             replace hS := hS.tail
             replace hS := hS.front 1 rfl
             replace hS := hS.tail
             replace hS := hS.front 3 rfl
             replace hS := hS.front 1 rfl
             replace hS := hS.front 3 rfl
             replace hS := hS.front 3 rfl
             exact then_n ⟨k125, by omega, _, A134, c135, (l72 ++ [(nth Ar3_i64.z l18 x76).f2]), A73, c74, l75, (w64 (x76 + 1)), F77, by omega, hE, .of, hS, g0_0, g1_0, H⟩
            ·
             replace hE := hE.bf 78 c128
             refine cf hE (wp_skip (hK119 _ _ ?_))
             refine wp_exit ?_
             refine hK85 _ _ (pl0 (plc hE (.r 0 3 .nil) (fun a hE => pld ?_)))
             replace hS := hS.tail
             exact then_n ⟨k125, by omega, _, A70, c71, l72, A73, c74, l75, (w64 (x76 + 1)), F77, by omega, hE, .of, hS, g0_0, g1_0, H⟩
          refine pl0 (plc hE (.r 0 3 .nil) (fun a hE => ?_))
          rcases sp H with ⟨c121, H⟩ | ⟨c121, H⟩
          ·
           replace hE := hE.btn 73 c121
           refine plc hE (.r 3 5 .nil) (fun a hE => pld ?_)
           exact J126 _ (by omega) _ false _ _ hE .of hS H
          ·
           replace hE := hE.bfn 73 c121
           refine plc hE (.r 3 5 .nil) (fun a hE => pld ?_)
           exact J126 _ (by omega) _ (decide ((l72.length : Int) < x3_)) _ _ hE .of hS H
       ·
        replace hE := hE.kf 54 c98
        refine cf hE (wp_skip (hK96 _ _ (wp_seq_k fun K137 hK137 => pl0 (plc hE (.r 0 2 <| .b 2 0 hb93 <| .r 3 1 <| .b 4 1 hb93 <| .nil) (fun a hE => ?_)))))
        obtain ⟨t139, h140, H⟩ := bd H
        refine ple hE (.cl en168 (windroseref06_Leaves.calls k80 x0_ ((nth Ar3_i64.z l18 x76).f0) ((nth Ar3_i64.z l18 x76).f1) _ _ _ _ _ hS.own.sub g0_0 h140)) ?_
        rintro _ u138 a ⟨F141, A142, c143, rfl, hC⟩ hE
        have hs := hC.sub
        replace hS := hS.called (X := []) hC
        replace g0_0 := g0_0.mono hs
        replace g1_0 := g1_0.mono hs
        refine plc hE (.r 6 1 .nil) (fun a hE => pld (hK137 _ _ (wp_seq_k fun K146 hK146 => ?_)))
        have J165 : ∀ kq163, kq163 ≤ k80 → ∀ (G : Nat → Value) (A158 : Option Addr) (c159 : Nat) (l160 : List T_api_Choice) (F161 : World) (a : Act) (w' : World), Env 144 G a → At G [(0, .slice A0_0 x0_.length c0_0), (1, .slice (some ad34) x1_.length c1_0), (2, .int .i64 x2_), (3, .int .i64 x3_), (9, .slice (some ⟨b89, 0, none⟩) l18.length c17), (10, .slice A70 l72.length c71), (11, .int .i64 x22), (12, .pointer (some ⟨b38, 0, none⟩)), (13, .slice A73 l75.length c74), (14, .int .i64 x76), (15, .pointer (some ⟨b93, 0, none⟩)), (18, .slice A158 l160.length c159)] → St W (mine W []) F w' F161 [box b93 #[.int .i64 ((nth Ar3_i64.z l18 x76).f0), .int .i64 ((nth Ar3_i64.z l18 x76).f1), .int .i64 ((nth Ar3_i64.z l18 x76).f2)] 176, box b38 #[.int .i64 ((nth T_api_Step.z x1_ x22).f0), .int .i64 ((nth T_api_Step.z x1_ x22).f1), .int .i64 ((nth T_api_Step.z x1_ x22).f2)] 175, row Ar3_i64.k 176 (.slice (some ⟨b89, 0, none⟩) l18.length c17) l18, row (Kn.int .i64) 3 (.slice A70 l72.length c71) l72, row Ar3_i64.k 176 (.slice A73 l75.length c74) l75, row T_api_Choice.k 216 (.slice A158 l160.length c159) l160] → Rd T_api_Node.k F161 A0_0 c0_0 x0_ → Rd T_api_Step.k F161 (some ad34) c1_0 x1_ → windroseref07_Run.j162 kq163 x0_ x1_ x2_ x3_ l18 x22 l72 l75 x76 l160 = some r → K146 a w' := by
         intro kq163 hkq G A158 c159 l160 F161 a u166 hE hA hS g0_0 g1_0 H
         cases kq163 with
         | zero => cases (show none = some r from H)
         | succ k164 =>
          rw [windroseref07_Run.j162_s] at H
          obtain ⟨J, hE⟩ := hE.at hA
          refine hK146 _ _ (wp_seq_k fun K167 hK167 => ?_)
          have J186 : ∀ kq184, kq184 ≤ k164 → ∀ (G : Nat → Value) (A179 : Option Addr) (c180 : Nat) (l181 : List T_api_Choice) (F182 : World) (a : Act) (w' : World), Env 144 G a → At G [(0, .slice A0_0 x0_.length c0_0), (1, .slice (some ad34) x1_.length c1_0), (2, .int .i64 x2_), (3, .int .i64 x3_), (9, .slice (some ⟨b89, 0, none⟩) l18.length c17), (10, .slice A70 l72.length c71), (11, .int .i64 x22), (12, .pointer (some ⟨b38, 0, none⟩)), (13, .slice A73 l75.length c74), (14, .int .i64 x76), (15, .pointer (some ⟨b93, 0, none⟩)), (18, .slice A179 l181.length c180)] → St W (mine W []) F w' F182 [box b93 #[.int .i64 ((nth Ar3_i64.z l18 x76).f0), .int .i64 ((nth Ar3_i64.z l18 x76).f1), .int .i64 ((nth Ar3_i64.z l18 x76).f2)] 176, box b38 #[.int .i64 ((nth T_api_Step.z x1_ x22).f0), .int .i64 ((nth T_api_Step.z x1_ x22).f1), .int .i64 ((nth T_api_Step.z x1_ x22).f2)] 175, row Ar3_i64.k 176 (.slice (some ⟨b89, 0, none⟩) l18.length c17) l18, row (Kn.int .i64) 3 (.slice A70 l72.length c71) l72, row Ar3_i64.k 176 (.slice A73 l75.length c74) l75, row T_api_Choice.k 216 (.slice A179 l181.length c180) l181] → Rd T_api_Node.k F182 A0_0 c0_0 x0_ → Rd T_api_Step.k F182 (some ad34) c1_0 x1_ → windroseref07_Run.j183 kq184 x0_ x1_ x2_ x3_ l18 x22 l72 l75 x76 l181 = some r → K167 a w' := by
           intro kq184 hkq G A179 c180 l181 F182 a u187 hE hA hS g0_0 g1_0 H
           cases kq184 with
           | zero => cases (show none = some r from H)
           | succ k185 =>
            rw [windroseref07_Run.j183_s] at H
            obtain ⟨J, hE⟩ := hE.at hA
            refine hK167 _ _ (wp_seq_k fun K188 hK188 => pl0 ?_)
            have hb38 := hS.blk_at (i := 1) rfl
            have hb93 := hS.blk_at (i := 0) rfl
            refine plc hE (.r 0 3 <| .b 3 1 hb38 <| .r 4 2 <| .b 6 0 hb93 <| .r 7 2 <| .b 9 1 hb93 <| .r 10 1 <| .nil) (fun a hE => ple hE (.lit (d := (Kn.int .u64)) (e := 182) hS [(IntKind.u64.wrap (nth T_api_Step.z x1_ x22).f1), (IntKind.u64.wrap (nth Ar3_i64.z l18 x76).f0), (IntKind.u64.wrap (nth Ar3_i64.z l18 x76).f1)] (.cons rfl <| .cons rfl <| .cons rfl .nil)) ?_)
            rintro _ u189 a ⟨A190, c191, rfl, hS, hg⟩ hE
            obtain ⟨t194, h195, H⟩ := bd H
            refine ple hE (.cl en172 (windroseref01_Fold.calls k185 (IntKind.u64.wrap x2_) [(IntKind.u64.wrap (nth T_api_Step.z x1_ x22).f1), (IntKind.u64.wrap (nth Ar3_i64.z l18 x76).f0), (IntKind.u64.wrap (nth Ar3_i64.z l18 x76).f1)] _ _ _ _ _ (Sub.refl _) (hS.rd_at (i := 0) rfl) h195)) ?_
            rintro _ u193 a ⟨_, rfl, hC⟩ hE
            replace hS := hS.lent hC
            refine plc hE (.r 13 1 .nil) (fun a hE => ?_)
            replace hS := hS.front 6 rfl
            obtain ⟨F196, hs, g197, hS⟩ := hS.give
            replace g0_0 := g0_0.mono hs
            replace g1_0 := g1_0.mono hs
            obtain ⟨t199, h200, H⟩ := bd H
            refine ple hE (.cl en171 (windroseref05_Order.calls k185 t194 l181 _ _ _ _ _ hS.own.sub g197 h200)) ?_
            rintro _ u198 a ⟨F201, A202, c203, rfl, hC⟩ hE
            have hs := hC.sub
            replace hS := hS.called (X := []) hC
            replace g0_0 := g0_0.mono hs
            replace g1_0 := g1_0.mono hs
            replace g197 := g197.mono hs
            refine plc hE (.r 15 1 .nil) (fun a hE => pld (hK188 _ _ (wp_seq_k fun K206 hK206 => pl0 (plc hE (.r 0 1 .nil) (fun a hE => pld (hK206 _ _ (wp_block ?_)))))))
            replace hS := hS.front 1 rfl
            replace hS := hS.tail
            replace hS := hS.front 5 rfl
            replace hS := hS.front 5 rfl
            replace hS := hS.front 5 rfl
            replace hS := hS.front 3 rfl
            replace hS := hS.front 5 rfl
            replace hS := hS.front 5 rfl
            refine wp_loop_ghost (fun kq213 a w' => ∃ (G : Nat → Value) (A208 : Option Addr) (c209 : Nat) (l210 : List Ar3_i64) (x211 : Int), kq213 ≤ k185 ∧ Env 144 G a ∧ At G [(0, .slice A0_0 x0_.length c0_0), (1, .slice (some ad34) x1_.length c1_0), (2, .int .i64 x2_), (3, .int .i64 x3_), (9, .slice (some ⟨b89, 0, none⟩) l18.length c17), (10, .slice A70 l72.length c71), (11, .int .i64 x22), (12, .pointer (some ⟨b38, 0, none⟩)), (13, .slice A208 l210.length c209), (14, .int .i64 x76), (15, .pointer (some ⟨b93, 0, none⟩)), (19, .slice A202 t199.length c203), (20, .int .i64 x211)] ∧ St W (mine W []) F w' F201 [box b93 #[.int .i64 ((nth Ar3_i64.z l18 x76).f0), .int .i64 ((nth Ar3_i64.z l18 x76).f1), .int .i64 ((nth Ar3_i64.z l18 x76).f2)] 176, box b38 #[.int .i64 ((nth T_api_Step.z x1_ x22).f0), .int .i64 ((nth T_api_Step.z x1_ x22).f1), .int .i64 ((nth T_api_Step.z x1_ x22).f2)] 175, row (Kn.int .i64) 3 (.slice A202 t199.length c203) t199, row Ar3_i64.k 176 (.slice (some ⟨b89, 0, none⟩) l18.length c17) l18, row (Kn.int .i64) 3 (.slice A70 l72.length c71) l72, row Ar3_i64.k 176 (.slice A208 l210.length c209) l210] ∧  windroseref07_Run.l212 kq213 x0_ x1_ x2_ x3_ l18 x22 l72 x76 t199 l210 x211 = some r) k185 ⟨_, A73, c74, l75, 0, Nat.le_refl _, hE, .of, hS, H⟩ ?_
            rintro kq213 a u215 ⟨G, A208, c209, l210, x211, hkq, hE, hA, hS, H⟩
            cases kq213 with
            | zero => cases (show none = some r from H)
            | succ k214 =>
             rw [windroseref07_Run.l212_s] at H
             obtain ⟨J, hE⟩ := hE.at hA
             refine wp_seq_k fun K216 hK216 => wp_seq_k fun K217 hK217 => ?_
             have J223 : ∀ kq221, kq221 ≤ k214 → ∀ (G : Nat → Value) (y219 : Bool) (a : Act) (w' : World), Env 144 G a → At G [(0, .slice A0_0 x0_.length c0_0), (1, .slice (some ad34) x1_.length c1_0), (2, .int .i64 x2_), (3, .int .i64 x3_), (9, .slice (some ⟨b89, 0, none⟩) l18.length c17), (10, .slice A70 l72.length c71), (11, .int .i64 x22), (12, .pointer (some ⟨b38, 0, none⟩)), (13, .slice A208 l210.length c209), (14, .int .i64 x76), (15, .pointer (some ⟨b93, 0, none⟩)), (19, .slice A202 t199.length c203), (20, .int .i64 x211), (126, .bool y219)] → St W (mine W []) F w' F201 [box b93 #[.int .i64 ((nth Ar3_i64.z l18 x76).f0), .int .i64 ((nth Ar3_i64.z l18 x76).f1), .int .i64 ((nth Ar3_i64.z l18 x76).f2)] 176, box b38 #[.int .i64 ((nth T_api_Step.z x1_ x22).f0), .int .i64 ((nth T_api_Step.z x1_ x22).f1), .int .i64 ((nth T_api_Step.z x1_ x22).f2)] 175, row (Kn.int .i64) 3 (.slice A202 t199.length c203) t199, row Ar3_i64.k 176 (.slice (some ⟨b89, 0, none⟩) l18.length c17) l18, row (Kn.int .i64) 3 (.slice A70 l72.length c71) l72, row Ar3_i64.k 176 (.slice A208 l210.length c209) l210] → windroseref07_Run.j220 kq221 x0_ x1_ x2_ x3_ l18 x22 l72 x76 t199 l210 x211 y219 = some r → K217 a w' := by
              intro kq221 hkq G y219 a u224 hE hA hS H
              cases kq221 with
              | zero => cases (show none = some r from H)
              | succ k222 =>
               rw [windroseref07_Run.j220_s] at H
               obtain ⟨J, hE⟩ := hE.at hA
               refine hK217 _ _ ?_
               rcases sp H with ⟨c225, H⟩ | ⟨c225, H⟩
               ·
                replace hE := hE.bt 126 c225
                refine ct hE (wp_skip (hK216 _ _ (wp_seq_k fun K226 hK226 => wp_block (wp_seq_k fun K227 hK227 => pl0 ?_))))
                have hb93 := hS.blk_at (i := 0) rfl
                refine plc hE (.bn 0 0 3 hb93 .nil) (fun a hE => ple hE (.al (t := 176) hS [.int .i64 0, .int .i64 0, .int .i64 0]) ?_)
                rintro _ u229 a ⟨b228, rfl, hb228, hS, hg⟩ hE
                refine ple hE (.sto hS [.int .i64 ((nth Ar3_i64.z l18 x76).f0), .int .i64 ((nth Ar3_i64.z l18 x76).f1), .int .i64 ((nth Ar3_i64.z l18 x76).f2)]) ?_
                rintro _ u230 a ⟨rfl, hb228, hS, hz⟩ hE
                refine pld (hK227 _ _ (wp_seq_k fun K231 hK231 => ?_))
                have J250 : ∀ kq248, kq248 ≤ k222 → ∀ (G : Nat → Value) (x244 : Int) (x245 : Int) (x246 : Int) (a : Act) (w' : World), Env 144 G a → At G [(0, .slice A0_0 x0_.length c0_0), (1, .slice (some ad34) x1_.length c1_0), (2, .int .i64 x2_), (3, .int .i64 x3_), (9, .slice (some ⟨b89, 0, none⟩) l18.length c17), (10, .slice A70 l72.length c71), (11, .int .i64 x22), (12, .pointer (some ⟨b38, 0, none⟩)), (13, .slice A208 l210.length c209), (14, .int .i64 x76), (15, .pointer (some ⟨b93, 0, none⟩)), (19, .slice A202 t199.length c203), (20, .int .i64 x211), (21, .pointer (some ⟨b228, 0, none⟩))] → St W (mine W []) F w' F201 [box b228 #[.int .i64 x244, .int .i64 x245, .int .i64 x246] 176, box b93 #[.int .i64 ((nth Ar3_i64.z l18 x76).f0), .int .i64 ((nth Ar3_i64.z l18 x76).f1), .int .i64 ((nth Ar3_i64.z l18 x76).f2)] 176, box b38 #[.int .i64 ((nth T_api_Step.z x1_ x22).f0), .int .i64 ((nth T_api_Step.z x1_ x22).f1), .int .i64 ((nth T_api_Step.z x1_ x22).f2)] 175, row (Kn.int .i64) 3 (.slice A202 t199.length c203) t199, row Ar3_i64.k 176 (.slice (some ⟨b89, 0, none⟩) l18.length c17) l18, row (Kn.int .i64) 3 (.slice A70 l72.length c71) l72, row Ar3_i64.k 176 (.slice A208 l210.length c209) l210] → windroseref07_Run.j247 kq248 x0_ x1_ x2_ x3_ l18 x22 l72 x76 t199 l210 x211 x244 x245 x246 = some r → K231 a w' := by
                 intro kq248 hkq G x244 x245 x246 a u251 hE hA hS H
                 cases kq248 with
                 | zero => cases (show none = some r from H)
                 | succ k249 =>
                  rw [windroseref07_Run.j247_s] at H
                  obtain ⟨J, hE⟩ := hE.at hA
                  refine hK231 _ _ (pl0 ?_)
                  have hb228 := hS.blk_at (i := 0) rfl
                  refine plc hE (.r 0 1 <| .bn 1 0 3 hb228 <| .nil) (fun a hE => ple hE (.lit (d := Ar3_i64.k) (e := 176) hS [(⟨x244, x245, x246⟩ : Ar3_i64)] (.cons rfl .nil)) ?_)
                  rintro _ u252 a ⟨A253, c254, rfl, hS, hg⟩ hE
                  obtain ⟨c256, H⟩ := gd H
                  replace hS := hS.front 7 rfl
                  refine ple hE (.ap (d := Ar3_i64.k) 24 hS (row_src (hS.row_at (i := 1) rfl)) c256 c254) ?_
                  rintro _ u259 a ⟨A257, c258, rfl, hS, hz⟩ hE
                  refine plc hE (.r 4 1 .nil) (fun a hE => pld ?_)
                  refine block_n ?_
                  refine hK226 _ _ (pl0 (plc hE (.r 0 3 .nil) (fun a hE => pld ?_)))
                  replace hS := hS.front 1 rfl
                  replace hS := hS.tail
                  replace hS := hS.front 1 rfl
                  replace hS := hS.tail
                  replace hS := hS.front 5 rfl
                  replace hS := hS.front 5 rfl
                  replace hS := hS.front 5 rfl
                  replace hS := hS.front 5 rfl
                  replace hS := hS.front 5 rfl
                  exact then_n ⟨k249, by omega, _, A257, c258, (l210 ++ [(⟨x244, x245, x246⟩ : Ar3_i64)]), (w64 (x211 + 1)), by omega, hE, .of, hS, H⟩
                refine drawn 9 ⟨[8], [], fun q => False⟩ mixed rfl (by kernel_rfl) (fun hst => ?_)
                replace hS := hS.drew
                have hb38 := hS.blk_at (i := 2) rfl
                obtain ⟨c232, H⟩ := gd H
                have hr233 := hS.row_at (i := 3) rfl
                have hE_ := hE
                obtain ⟨b234, rfl⟩ := row_addr hr233 c232.1 c232.2
                replace hE := hE_
                have hr_ := hS.row_at (i := 3) rfl
                obtain ⟨cs236, rfl, hc237⟩ := row_el hr_ 0 x211 c232.1 c232.2
                refine mny 2 hst hE (.r 0 1 <| .b 1 1 hb38 <| .r 2 3 <| .x 5 c232 <| .c 6 (hc237 0 _ rfl) <| .nil) (fun a hE => ?_)
                rcases sp H with ⟨c238, H⟩ | ⟨c238, H⟩
                ·
                 replace hE := hE.set (d := 132) (v := .int .i64 0) (Eq.trans (b := .int .i64 (w64 ((nth T_api_Step.z x1_ x22).f1 - 1))) (by kernel_rfl) (congrArg _ c238))
                 refine mny 1 hst hE (.r 7 1 .nil) (fun a hE => ?_)
                 refine on1 8 hE (.sto hS [.int .i64 (nth 0 t199 x211), .int .i64 ((nth Ar3_i64.z l18 x76).f1), .int .i64 ((nth Ar3_i64.z l18 x76).f2)]) ?_
                 rintro _ u239 a ⟨rfl, hb228, hS, hz⟩ hE
                 refine ⟨.d, ?_⟩
                 refine dn ?_
                 exact J250 _ (by omega) _ (nth 0 t199 x211) ((nth Ar3_i64.z l18 x76).f1) ((nth Ar3_i64.z l18 x76).f2) _ _ hE .of hS H
                ·
                 rcases sp H with ⟨c240, H⟩ | ⟨c240, H⟩
                 ·
                  replace hE := hE.set (d := 132) (v := .int .i64 1) (Eq.trans (b := .int .i64 (w64 ((nth T_api_Step.z x1_ x22).f1 - 1))) (by kernel_rfl) (congrArg _ c240))
                  refine mny 1 hst hE (.r 7 1 .nil) (fun a hE => ?_)
                  refine on1 8 hE (.sto hS [.int .i64 ((nth Ar3_i64.z l18 x76).f0), .int .i64 (nth 0 t199 x211), .int .i64 ((nth Ar3_i64.z l18 x76).f2)]) ?_
                  rintro _ u241 a ⟨rfl, hb228, hS, hz⟩ hE
                  refine ⟨.d, ?_⟩
                  refine dn ?_
                  exact J250 _ (by omega) _ ((nth Ar3_i64.z l18 x76).f0) (nth 0 t199 x211) ((nth Ar3_i64.z l18 x76).f2) _ _ hE .of hS H
                 ·
                  rcases sp H with ⟨c242, H⟩ | ⟨c242, H⟩
                  ·
                   replace hE := hE.set (d := 132) (v := .int .i64 2) (Eq.trans (b := .int .i64 (w64 ((nth T_api_Step.z x1_ x22).f1 - 1))) (by kernel_rfl) (congrArg _ c242))
                   refine mny 1 hst hE (.r 7 1 .nil) (fun a hE => ?_)
                   refine on1 8 hE (.sto hS [.int .i64 ((nth Ar3_i64.z l18 x76).f0), .int .i64 ((nth Ar3_i64.z l18 x76).f1), .int .i64 (nth 0 t199 x211)]) ?_
                   rintro _ u243 a ⟨rfl, hb228, hS, hz⟩ hE
                   refine ⟨.d, ?_⟩
                   refine dn ?_
                   exact J250 _ (by omega) _ ((nth Ar3_i64.z l18 x76).f0) ((nth Ar3_i64.z l18 x76).f1) (nth 0 t199 x211) _ _ hE .of hS H
                  ·
                   cases (show none = some r from H)
               ·
                replace hE := hE.bf 126 c225
                refine cf hE ?_
                refine wp_exit ?_
                refine hK85 _ _ (pl0 (plc hE (.r 0 3 .nil) (fun a hE => pld ?_)))
                replace hS := hS.tail
                replace hS := hS.front 1 rfl
                replace hS := hS.tail
                exact then_n ⟨k222, by omega, _, A70, c71, l72, A208, c209, l210, (w64 (x76 + 1)), F201, by omega, hE, .of, hS, g0_0, g1_0, H⟩
             refine pl0 (plc hE (.r 0 5 .nil) (fun a hE => ?_))
             rcases sp H with ⟨c218, H⟩ | ⟨c218, H⟩
             ·
              replace hE := hE.kt 121 c218
              have hb38 := hS.blk_at (i := 1) rfl
              refine plc hE (.r 5 2 <| .b 7 2 hb38 <| .r 8 2 <| .nil) (fun a hE => pld ?_)
              exact J223 _ (by omega) _ (decide (x211 < (nth T_api_Step.z x1_ x22).f2)) _ _ hE .of hS H
             ·
              replace hE := hE.kf 121 c218
              refine plc hE (.r 5 5 .nil) (fun a hE => pld ?_)
              exact J223 _ (by omega) _ false _ _ hE .of hS H
          refine wp_seq_k fun K168 hK168 => pl0 ?_
          have hb38 := hS.blk_at (i := 1) rfl
          refine plc hE (.r 0 1 <| .b 1 1 hb38 <| .r 2 1 <| .nil) (fun a hE => pld (hK168 _ _ ?_))
          rcases sp H with ⟨c169, H⟩ | ⟨c169, H⟩
          ·
           replace hE := hE.kt 97 c169
           refine ct hE (pl0 ?_)
           have hb93 := hS.blk_at (i := 0) rfl
           refine plc hE (.r 0 2 <| .b 2 0 hb93 <| .nil) (fun a hE => ?_)
           obtain ⟨t171, h172, H⟩ := bd H
           refine ple hE (.cl en170 (windroseref06_Racks.calls k164 x0_ ((nth Ar3_i64.z l18 x76).f0) _ _ _ _ _ hS.own.sub g0_0 h172)) ?_
           rintro _ u170 a ⟨F173, A174, c175, rfl, hC⟩ hE
           have hs := hC.sub
           replace hS := hS.called (X := []) hC
           replace g0_0 := g0_0.mono hs
           replace g1_0 := g1_0.mono hs
           refine plc hE (.r 4 1 .nil) (fun a hE => pld ?_)
           replace hS := hS.front 6 rfl
           replace hS := hS.tail
           replace hS := hS.front 5 rfl
           replace hS := hS.front 5 rfl
           replace hS := hS.front 5 rfl
           replace hS := hS.front 5 rfl
           replace hS := hS.front 5 rfl
           exact J186 _ (by omega) _ A174 c175 t171 F173 _ _ hE .of hS g0_0 g1_0 H
          ·
           replace hE := hE.kf 97 c169
           refine cf hE (wp_skip ?_)
           exact J186 _ (by omega) _ A158 c159 l160 F161 _ _ hE .of hS g0_0 g1_0 H
        refine wp_seq_k fun K147 hK147 => pl0 ?_
        have hb38 := hS.blk_at (i := 2) rfl
        refine plc hE (.r 0 1 <| .b 1 1 hb38 <| .r 2 1 <| .nil) (fun a hE => pld (hK147 _ _ ?_))
        rcases sp H with ⟨c148, H⟩ | ⟨c148, H⟩
        ·
         replace hE := hE.kt 92 c148
         refine ct hE (pl0 (plc hE (.r 0 1 .nil) (fun a hE => ?_)))
         obtain ⟨t150, h151, H⟩ := bd H
         refine ple hE (.cl en169 (windroseref06_Zones.calls k80 x0_ _ _ _ _ _ hS.own.sub g0_0 h151)) ?_
         rintro _ u149 a ⟨F152, A153, c154, rfl, hC⟩ hE
         have hs := hC.sub
         replace hS := hS.called (X := []) hC
         replace g0_0 := g0_0.mono hs
         replace g1_0 := g1_0.mono hs
         refine plc hE (.r 2 1 .nil) (fun a hE => pld ?_)
         replace hS := hS.front 1 rfl
         replace hS := hS.tail
         replace hS := hS.front 5 rfl
         replace hS := hS.front 5 rfl
         replace hS := hS.front 5 rfl
         replace hS := hS.front 5 rfl
         replace hS := hS.front 5 rfl
         exact J165 _ (by omega) _ A153 c154 t150 F152 _ _ hE .of hS g0_0 g1_0 H
        ·
         replace hE := hE.kf 92 c148
         refine cf hE (wp_skip ?_)
         replace hS := hS.front 5 rfl
         replace hS := hS.front 5 rfl
         replace hS := hS.front 5 rfl
         replace hS := hS.front 5 rfl
         replace hS := hS.front 5 rfl
         exact J165 _ (by omega) _ A142 c143 t139 F141 _ _ hE .of hS g0_0 g1_0 H
      ·
       replace hE := hE.kf 45 c84
       refine cf hE ?_
       refine wp_exit ?_
       refine hK66 _ _ (pl0 (plc hE (.r 0 2 .nil) (fun a hE => pld ?_)))
       refine block_n ?_
       refine hK31 _ _ (pl0 (plc hE (.r 0 3 .nil) (fun a hE => pld ?_)))
       replace hS := hS.tail
       replace hS := hS.tail
       replace hS := hS.front 1 rfl
       exact then_n ⟨k80, by omega, _, A73, c74, l75, A70, c71, l72, (w64 (x22 + 1)), F77, by omega, hE, .of, hS, g0_0, g1_0, H⟩
   refine wp_seq_k fun K47 hK47 => pl0 ?_
   have hb38 := hS.blk_at (i := 1) rfl
   refine plc hE (.r 0 1 <| .b 1 0 hb38 <| .r 2 1 <| .nil) (fun a hE => pld (hK47 _ _ ?_))
   rcases sp H with ⟨c48, H⟩ | ⟨c48, H⟩
   ·
    replace hE := hE.kt 37 c48
    refine ct hE (pl0 (plc hE (.r 0 2 .nil) (fun a hE => ple hE (.lit (d := Ar3_i64.k) (e := 176) hS [(⟨0, 0, 0⟩ : Ar3_i64)] (.cons rfl .nil)) ?_)))
    rintro _ u49 a ⟨A50, c51, rfl, hS, hg⟩ hE
    obtain ⟨c53, H⟩ := gd H
    replace hS := hS.front 1 rfl
    refine ple hE (.ap (d := Ar3_i64.k) 24 hS (row_src (hS.row_at (i := 1) rfl)) c53 c51) ?_
    rintro _ u56 a ⟨A54, c55, rfl, hS, hz⟩ hE
    refine plc hE (.r 4 1 .nil) (fun a hE => pld ?_)
    replace hS := hS.front 1 rfl
    replace hS := hS.tail
    replace hS := hS.front 3 rfl
    replace hS := hS.front 3 rfl
    replace hS := hS.front 3 rfl
    exact J64 _ (by omega) _ A54 c55 (([] : List Ar3_i64) ++ [(⟨0, 0, 0⟩ : Ar3_i64)]) _ _ hE .of hS H
   ·
    replace hE := hE.kf 37 c48
    refine cf hE (wp_skip ?_)
    replace hS := hS.front 3 rfl
    replace hS := hS.front 3 rfl
    replace hS := hS.front 3 rfl
    exact J64 _ (by omega) _ A43 c44 ([] : List Ar3_i64) _ _ hE .of hS H
  ·
   replace hE := hE.kf 27 c30
   refine cf hE ?_
   refine wp_exit ?_
   refine hK12 _ _ (wp_seq_k fun K260 hK260 => pl0 (plc hE (.r 0 2 .nil) (fun a hE => pld (hK260 _ _ (wp_ret ?_)))))
   replace hS := hS.tail
   obtain rfl := si H
   exact rt1 hE ⟨_, rfl, _, _, _, rfl, hS⟩

/-! ### windrose/windroseref07.Of: function 73 -/
def windroseref07_Of.j12 : Nat → List T_api_Node → Int → Int → Bool → Option (List Int)
  | 0, _, _, _, _ => none
  | k + 1, x0_, x1_, x2_, y11 => if y11 = true then (some []) else ((windroseref07_Common.f x2_).bind fun t22 => ((windroseref07_Run.f k x0_ t22 x1_ x2_).bind fun t32 => (some t32)))
theorem windroseref07_Of.j12_s (k : Nat) (x0_ : List T_api_Node) (x1_ : Int) (x2_ : Int) (y11 : Bool) : windroseref07_Of.j12 (k + 1) x0_ x1_ x2_ y11 = (if y11 = true then (some []) else ((windroseref07_Common.f x2_).bind fun t22 => ((windroseref07_Run.f k x0_ t22 x1_ x2_).bind fun t32 => (some t32)))) := by kernel_rfl
def windroseref07_Of.f (k : Nat) (x0_ : List T_api_Node) (x1_ : Int) (x2_ : Int) : Option (List Int) := (windroseref06_May.f k x0_).bind fun t5 => (if t5 = true then (if x1_ < 0 then (windroseref07_Of.j12 k x0_ x1_ x2_ true) else (if x1_ > 7 then (windroseref07_Of.j12 k x0_ x1_ x2_ true) else (if x2_ < 1 then (windroseref07_Of.j12 k x0_ x1_ x2_ true) else (windroseref07_Of.j12 k x0_ x1_ x2_ (decide (x2_ > 3)))))) else (windroseref07_Of.j12 k x0_ x1_ x2_ true))
def windroseref07_Of.Post (W F : World) (r : List Int) (v : Value) (w' : World) : Prop := ∃ (F' : World) (RA0_0 : Option Addr) (rc0_0 : Nat), v = .slice RA0_0 r.length rc0_0 ∧ St W (mine W []) F w' F' [row (Kn.int .i64) 3 (.slice RA0_0 r.length rc0_0) r]
theorem windroseref07_Of.calls (k : Nat) (x0_ : List T_api_Node) (x1_ : Int) (x2_ : Int) (A0_0 : Option Addr) (c0_0 : Nat) (r : List Int) (W F : World) (hown : Sub F W) (g0_0 : Rd T_api_Node.k F A0_0 c0_0 x0_) (H : windroseref07_Of.f k x0_ x1_ x2_ = some r) :
    Calls Tryz.prog 73 #[.slice A0_0 x0_.length c0_0, .int .i64 x1_, .int .i64 x2_] W fun e w' => ∃ v, e = .returned v ∧ windroseref07_Of.Post W F r v w' := by
 have hS := St.start (Own.nil hown)
 unfold windroseref07_Of.f at H
 refine enter (n := 32) rfl rfl rfl (Nat.le_of_ble_eq_true rfl) (fun a hE => ?_)
 refine wp_seq_k fun K1 hK1 => pl0 (plc hE (.r 0 1 .nil) (fun a hE => pld (hK1 _ _ (wp_seq_k fun K2 hK2 => wp_seq_k fun K3 hK3 => ?_))))
 have J15 : ∀ kq13, kq13 ≤ k → ∀ (G : Nat → Value) (y11 : Bool) (a : Act) (w' : World), Env 32 G a → At G [(0, .slice A0_0 x0_.length c0_0), (1, .int .i64 x1_), (2, .int .i64 x2_), (25, .bool y11)] → St W (mine W []) F w' F [] → windroseref07_Of.j12 kq13 x0_ x1_ x2_ y11 = some r → K3 a w' := by
  intro kq13 hkq G y11 a u16 hE hA hS H
  cases kq13 with
  | zero => cases (show none = some r from H)
  | succ k14 =>
   rw [windroseref07_Of.j12_s] at H
   obtain ⟨J, hE⟩ := hE.at hA
   refine hK3 _ _ ?_
   rcases sp H with ⟨c17, H⟩ | ⟨c17, H⟩
   ·
    replace hE := hE.bt 25 c17
    refine ct hE (wp_seq_k fun K18 hK18 => pl0 (plc hE (.r 0 1 .nil) (fun a hE => pld (hK18 _ _ (wp_ret (then_ret ?_))))))
    replace hS := hS.nilrow (Kn.int .i64) 3
    obtain rfl := si H
    exact rt1 hE ⟨_, rfl, _, _, _, rfl, hS⟩
   ·
    replace hE := hE.bf 25 c17
    refine cf hE (wp_skip (hK2 _ _ (wp_seq_k fun K20 hK20 => pl0 (plc hE (.r 0 2 .nil) (fun a hE => ?_)))))
    obtain ⟨t22, h23, H⟩ := bd H
    refine ple hE (.cl en124 (windroseref07_Common.calls x2_ _ _ _ hS.own.sub h23)) ?_
    rintro _ u21 a ⟨F24, A25, c26, rfl, hC⟩ hE
    have hs := hC.sub
    replace hS := hS.called (X := []) hC
    replace g0_0 := g0_0.mono hs
    refine plc hE (.r 3 2 .nil) (fun a hE => ?_)
    obtain ⟨F29, hs, g30, hS⟩ := hS.give
    replace g0_0 := g0_0.mono hs
    obtain ⟨t32, h33, H⟩ := bd H
    refine ple hE (.cl en123 (windroseref07_Run.calls k14 x0_ t22 x1_ x2_ _ _ _ _ _ _ _ hS.own.sub g0_0 g30 h33)) ?_
    rintro _ u31 a ⟨F34, A35, c36, rfl, hC⟩ hE
    have hs := hC.sub
    replace hS := hS.called (X := []) hC
    replace g0_0 := g0_0.mono hs
    replace g30 := g30.mono hs
    refine plc hE (.r 6 1 .nil) (fun a hE => pld (hK20 _ _ (wp_ret ?_)))
    obtain rfl := si H
    exact rt1 hE ⟨_, rfl, _, _, _, rfl, hS⟩
 refine pl0 (plc hE (.r 0 1 .nil) (fun a hE => ?_))
 obtain ⟨t5, h6, H⟩ := bd H
 refine ple hE (.cl en67 (windroseref06_May.calls k x0_ _ _ _ _ _ hS.own.sub g0_0 h6)) ?_
 rintro _ u4 a ⟨_, rfl, hC⟩ hE
 replace hS := hS.lent hC
 refine plc hE (.r 2 2 .nil) (fun a hE => ?_)
 rcases sp H with ⟨c7, H⟩ | ⟨c7, H⟩
 ·
  replace hE := hE.btn 10 c7
  refine plc hE (.r 4 4 .nil) (fun a hE => ?_)
  rcases sp H with ⟨c8, H⟩ | ⟨c8, H⟩
  ·
   replace hE := hE.kt 14 c8
   refine plc hE (.r 8 11 .nil) (fun a hE => pld ?_)
   exact J15 _ (by omega) _ true _ _ hE .of hS H
  ·
   replace hE := hE.kf 14 c8
   refine plc hE (.r 8 4 .nil) (fun a hE => ?_)
   rcases sp H with ⟨c9, H⟩ | ⟨c9, H⟩
   ·
    replace hE := hE.kt 18 c9
    refine plc hE (.r 12 7 .nil) (fun a hE => pld ?_)
    exact J15 _ (by omega) _ true _ _ hE .of hS H
   ·
    replace hE := hE.kf 18 c9
    refine plc hE (.r 12 4 .nil) (fun a hE => ?_)
    rcases sp H with ⟨c10, H⟩ | ⟨c10, H⟩
    ·
     replace hE := hE.kt 22 c10
     refine plc hE (.r 16 3 .nil) (fun a hE => pld ?_)
     exact J15 _ (by omega) _ true _ _ hE .of hS H
    ·
     replace hE := hE.kf 22 c10
     refine plc hE (.r 16 3 .nil) (fun a hE => pld ?_)
     exact J15 _ (by omega) _ (decide (x2_ > 3)) _ _ hE .of hS H
 ·
  replace hE := hE.bfn 10 c7
  refine plc hE (.r 4 15 .nil) (fun a hE => pld ?_)
  exact J15 _ (by omega) _ true _ _ hE .of hS H

/-! ### windrose/windroseref08.Raw: function 23 -/
def windroseref08_Raw.j12 : Nat → T_api_Map → Int → Bool → Option (List Int)
  | 0, _, _, _ => none
  | k + 1, x0_, x1_, y11 => if y11 = true then (some []) else ((windroseref08_Temp.f k x0_ x1_).bind fun t22 => (if (t22.length : Int) > 0 then (some t22) else ((windroseref07_Of.f k x0_.f4 x1_ x0_.f1).bind fun t33 => (some t33))))
theorem windroseref08_Raw.j12_s (k : Nat) (x0_ : T_api_Map) (x1_ : Int) (y11 : Bool) : windroseref08_Raw.j12 (k + 1) x0_ x1_ y11 = (if y11 = true then (some []) else ((windroseref08_Temp.f k x0_ x1_).bind fun t22 => (if (t22.length : Int) > 0 then (some t22) else ((windroseref07_Of.f k x0_.f4 x1_ x0_.f1).bind fun t33 => (some t33))))) := by kernel_rfl
def windroseref08_Raw.f (k : Nat) (x0_ : T_api_Map) (x1_ : Int) : Option (List Int) := (windroseref08_May.f k x0_).bind fun t7 => (if t7 = true then (if x1_ < 0 then (windroseref08_Raw.j12 k x0_ x1_ true) else (windroseref08_Raw.j12 k x0_ x1_ (decide (x1_ ≥ x0_.f3)))) else (windroseref08_Raw.j12 k x0_ x1_ true))
def windroseref08_Raw.Post (W F : World) (r : List Int) (v : Value) (w' : World) : Prop := ∃ (F' : World) (RA0_0 : Option Addr) (rc0_0 : Nat), v = .slice RA0_0 r.length rc0_0 ∧ St W (mine W []) F w' F' [] ∧ Rd (Kn.int .i64) F' RA0_0 rc0_0 r
theorem windroseref08_Raw.calls (k : Nat) (x0_ : T_api_Map) (x1_ : Int) (A0_4 : Option Addr) (c0_4 : Nat) (A0_5 : Option Addr) (c0_5 : Nat) (A0_6 : Option Addr) (c0_6 : Nat) (r : List Int) (W F : World) (hown : Sub F W) (g0_4 : Rd T_api_Node.k F A0_4 c0_4 x0_.f4) (g0_5 : Rd T_api_Temp.k F A0_5 c0_5 x0_.f5) (g0_6 : Rd T_api_Trail.k F A0_6 c0_6 x0_.f6) (H : windroseref08_Raw.f k x0_ x1_ = some r) :
    Calls Tryz.prog 23 #[.agg #[.int .i64 x0_.f0, .int .i64 x0_.f1, .int .i64 x0_.f2, .int .i64 x0_.f3, .slice A0_4 x0_.f4.length c0_4, .slice A0_5 x0_.f5.length c0_5, .slice A0_6 x0_.f6.length c0_6], .int .i64 x1_] W fun e w' => ∃ v, e = .returned v ∧ windroseref08_Raw.Post W F r v w' := by
 have hS := St.start (Own.nil hown)
 unfold windroseref08_Raw.f at H
 refine enter (n := 32) rfl rfl rfl (Nat.le_of_ble_eq_true rfl) (fun a hE => ?_)
 refine wp_seq_k fun K1 hK1 => pl0 (ple hE (.bx (t := 26) hS [.int .i64 x0_.f0, .int .i64 x0_.f1, .int .i64 x0_.f2, .int .i64 x0_.f3, .slice A0_4 x0_.f4.length c0_4, .slice A0_5 x0_.f5.length c0_5, .slice A0_6 x0_.f6.length c0_6]) ?_)
 rintro _ u3 a ⟨b2, rfl, hb2, hS, hg⟩ hE
 refine plc hE (.r 1 1 .nil) (fun a hE => pld (hK1 _ _ (wp_seq_k fun K4 hK4 => wp_seq_k fun K5 hK5 => ?_)))
 have J15 : ∀ kq13, kq13 ≤ k → ∀ (G : Nat → Value) (y11 : Bool) (a : Act) (w' : World), Env 32 G a → At G [(1, .int .i64 x1_), (2, .pointer (some ⟨b2, 0, none⟩)), (18, .bool y11)] → St W (mine W []) F w' F [box b2 #[.int .i64 x0_.f0, .int .i64 x0_.f1, .int .i64 x0_.f2, .int .i64 x0_.f3, .slice A0_4 x0_.f4.length c0_4, .slice A0_5 x0_.f5.length c0_5, .slice A0_6 x0_.f6.length c0_6] 26] → windroseref08_Raw.j12 kq13 x0_ x1_ y11 = some r → K5 a w' := by
  intro kq13 hkq G y11 a u16 hE hA hS H
  cases kq13 with
  | zero => cases (show none = some r from H)
  | succ k14 =>
   rw [windroseref08_Raw.j12_s] at H
   obtain ⟨J, hE⟩ := hE.at hA
   refine hK5 _ _ ?_
   rcases sp H with ⟨c17, H⟩ | ⟨c17, H⟩
   ·
    replace hE := hE.bt 18 c17
    refine ct hE (wp_seq_k fun K18 hK18 => pl0 (plc hE (.r 0 1 .nil) (fun a hE => pld (hK18 _ _ (wp_ret (then_ret ?_))))))
    replace hS := hS.tail
    obtain rfl := si H
    exact rt1 hE ⟨_, rfl, _, _, _, rfl, hS, (Rd.nil _ _)⟩
   ·
    replace hE := hE.bf 18 c17
    refine cf hE (wp_skip (hK4 _ _ (wp_seq_k fun K19 hK19 => wp_seq_k fun K20 hK20 => pl0 ?_)))
    have hb2 := hS.blk_at (i := 0) rfl
    refine plc hE (.bn 0 0 7 hb2 <| .r 1 1 <| .nil) (fun a hE => ?_)
    obtain ⟨t22, h23, H⟩ := bd H
    refine ple hE (.cl en72 (windroseref08_Temp.calls k14 x0_ x1_ _ _ _ _ _ _ _ _ _ hS.own.sub g0_4 g0_5 g0_6 h23)) ?_
    rintro _ u21 a ⟨F24, A25, c26, rfl, hC, g27⟩ hE
    have hs := hC.sub
    replace hS := hS.called (X := []) hC
    replace g0_4 := g0_4.mono hs
    replace g0_5 := g0_5.mono hs
    replace g0_6 := g0_6.mono hs
    refine plc hE (.r 3 1 .nil) (fun a hE => pld (hK20 _ _ (wp_seq_k fun K28 hK28 => pl0 (plc hE (.r 0 3 .nil) (fun a hE => pld (hK28 _ _ ?_))))))
    rcases sp H with ⟨c29, H⟩ | ⟨c29, H⟩
    ·
     replace hE := hE.kt 24 c29
     refine ct hE (wp_seq_k fun K30 hK30 => pl0 (plc hE (.r 0 2 .nil) (fun a hE => pld (hK30 _ _ (wp_ret (then_ret ?_))))))
     replace hS := hS.tail
     obtain rfl := si H
     exact rt1 hE ⟨_, rfl, _, _, _, rfl, hS, g27⟩
    ·
     replace hE := hE.kf 24 c29
     refine cf hE (wp_skip (hK19 _ _ (wp_seq_k fun K31 hK31 => pl0 ?_)))
     have hb2 := hS.blk_at (i := 0) rfl
     refine plc hE (.r 0 1 <| .b 1 4 hb2 <| .r 2 2 <| .b 4 1 hb2 <| .nil) (fun a hE => ?_)
     obtain ⟨t33, h34, H⟩ := bd H
     refine ple hE (.cl en73 (windroseref07_Of.calls k14 x0_.f4 x1_ x0_.f1 _ _ _ _ _ hS.own.sub g0_4 h34)) ?_
     rintro _ u32 a ⟨F35, A36, c37, rfl, hC⟩ hE
     have hs := hC.sub
     replace hS := hS.called (X := []) hC
     replace g27 := g27.mono hs
     replace g0_4 := g0_4.mono hs
     replace g0_5 := g0_5.mono hs
     replace g0_6 := g0_6.mono hs
     refine plc hE (.r 6 1 .nil) (fun a hE => pld (hK31 _ _ (wp_ret ?_)))
     obtain ⟨F40, hs, g41, hS⟩ := hS.give
     replace g27 := g27.mono hs
     replace g0_4 := g0_4.mono hs
     replace g0_5 := g0_5.mono hs
     replace g0_6 := g0_6.mono hs
     replace hS := hS.tail
     obtain rfl := si H
     exact rt1 hE ⟨_, rfl, _, _, _, rfl, hS, g41⟩
 refine pl0 (plc hE (.bn 0 0 7 hb2 .nil) (fun a hE => ?_))
 obtain ⟨t7, h8, H⟩ := bd H
 refine ple hE (.cl en19 (windroseref08_May.calls k x0_ _ _ _ _ _ _ _ _ _ hS.own.sub g0_4 g0_5 g0_6 h8)) ?_
 rintro _ u6 a ⟨_, rfl, hC⟩ hE
 replace hS := hS.lent hC
 refine plc hE (.r 2 2 .nil) (fun a hE => ?_)
 rcases sp H with ⟨c9, H⟩ | ⟨c9, H⟩
 ·
  replace hE := hE.btn 9 c9
  refine plc hE (.r 4 4 .nil) (fun a hE => ?_)
  rcases sp H with ⟨c10, H⟩ | ⟨c10, H⟩
  ·
   replace hE := hE.kt 13 c10
   refine plc hE (.r 8 5 .nil) (fun a hE => pld ?_)
   exact J15 _ (by omega) _ true _ _ hE .of hS H
  ·
   replace hE := hE.kf 13 c10
   have hb2 := hS.blk_at (i := 0) rfl
   refine plc hE (.r 8 2 <| .b 10 3 hb2 <| .r 11 2 <| .nil) (fun a hE => pld ?_)
   exact J15 _ (by omega) _ (decide (x1_ ≥ x0_.f3)) _ _ hE .of hS H
 ·
  replace hE := hE.bfn 9 c9
  refine plc hE (.r 4 9 .nil) (fun a hE => pld ?_)
  exact J15 _ (by omega) _ true _ _ hE .of hS H

/-! ### windrose/windroseref08.Acting: function 25 -/
def windroseref08_Acting.l24 : Nat → T_api_Map → List Int → List Int → Int → Option (List Int)
  | 0, _, _, _, _ => none
  | k + 1, x0_, t6, l22, x23 => if x23 < (t6.length : Int) then (if 0 ≤ x23 ∧ x23 < (t6.length : Int) then ((windroseref06_Find.f k x0_.f4 (nth 0 t6 x23)).bind fun t38 => (if t38.1.f4 = true then (if ((l22.length : Int) + ((1 : Nat) : Int)) * 8 ≤ 140737488355328 then (windroseref08_Acting.l24 k x0_ t6 (l22 ++ [(nth 0 t6 x23)]) (w64 (x23 + 1))) else (none)) else (windroseref08_Acting.l24 k x0_ t6 l22 (w64 (x23 + 1))))) else (none)) else (some l22)
theorem windroseref08_Acting.l24_s (k : Nat) (x0_ : T_api_Map) (t6 : List Int) (l22 : List Int) (x23 : Int) : windroseref08_Acting.l24 (k + 1) x0_ t6 l22 x23 = (if x23 < (t6.length : Int) then (if 0 ≤ x23 ∧ x23 < (t6.length : Int) then ((windroseref06_Find.f k x0_.f4 (nth 0 t6 x23)).bind fun t38 => (if t38.1.f4 = true then (if ((l22.length : Int) + ((1 : Nat) : Int)) * 8 ≤ 140737488355328 then (windroseref08_Acting.l24 k x0_ t6 (l22 ++ [(nth 0 t6 x23)]) (w64 (x23 + 1))) else (none)) else (windroseref08_Acting.l24 k x0_ t6 l22 (w64 (x23 + 1))))) else (none)) else (some l22)) := by kernel_rfl
def windroseref08_Acting.f (k : Nat) (x0_ : T_api_Map) (x1_ : Int) : Option (List Int) := (windroseref08_Raw.f k x0_ x1_).bind fun t6 => (windroseref08_Acting.l24 k x0_ t6 ([] : List Int) 0)
def windroseref08_Acting.Post (W F : World) (r : List Int) (v : Value) (w' : World) : Prop := ∃ (F' : World) (RA0_0 : Option Addr) (rc0_0 : Nat), v = .slice RA0_0 r.length rc0_0 ∧ St W (mine W []) F w' F' [row (Kn.int .i64) 3 (.slice RA0_0 r.length rc0_0) r]
theorem windroseref08_Acting.calls (k : Nat) (x0_ : T_api_Map) (x1_ : Int) (A0_4 : Option Addr) (c0_4 : Nat) (A0_5 : Option Addr) (c0_5 : Nat) (A0_6 : Option Addr) (c0_6 : Nat) (r : List Int) (W F : World) (hown : Sub F W) (g0_4 : Rd T_api_Node.k F A0_4 c0_4 x0_.f4) (g0_5 : Rd T_api_Temp.k F A0_5 c0_5 x0_.f5) (g0_6 : Rd T_api_Trail.k F A0_6 c0_6 x0_.f6) (H : windroseref08_Acting.f k x0_ x1_ = some r) :
    Calls Tryz.prog 25 #[.agg #[.int .i64 x0_.f0, .int .i64 x0_.f1, .int .i64 x0_.f2, .int .i64 x0_.f3, .slice A0_4 x0_.f4.length c0_4, .slice A0_5 x0_.f5.length c0_5, .slice A0_6 x0_.f6.length c0_6], .int .i64 x1_] W fun e w' => ∃ v, e = .returned v ∧ windroseref08_Acting.Post W F r v w' := by
 have hS := St.start (Own.nil hown)
 unfold windroseref08_Acting.f at H
 refine enter (n := 40) rfl rfl rfl (Nat.le_of_ble_eq_true rfl) (fun a hE => ?_)
 refine wp_seq_k fun K1 hK1 => pl0 (ple hE (.bx (t := 26) hS [.int .i64 x0_.f0, .int .i64 x0_.f1, .int .i64 x0_.f2, .int .i64 x0_.f3, .slice A0_4 x0_.f4.length c0_4, .slice A0_5 x0_.f5.length c0_5, .slice A0_6 x0_.f6.length c0_6]) ?_)
 rintro _ u3 a ⟨b2, rfl, hb2, hS, hg⟩ hE
 refine plc hE (.r 1 1 .nil) (fun a hE => pld (hK1 _ _ (wp_seq_k fun K4 hK4 => pl0 (plc hE (.bn 0 0 7 hb2 <| .r 1 1 <| .nil) (fun a hE => ?_)))))
 obtain ⟨t6, h7, H⟩ := bd H
 refine ple hE (.cl en23 (windroseref08_Raw.calls k x0_ x1_ _ _ _ _ _ _ _ _ _ hS.own.sub g0_4 g0_5 g0_6 h7)) ?_
 rintro _ u5 a ⟨F8, A9, c10, rfl, hC, g11⟩ hE
 have hs := hC.sub
 replace hS := hS.called (X := []) hC
 replace g0_4 := g0_4.mono hs
 replace g0_5 := g0_5.mono hs
 replace g0_6 := g0_6.mono hs
 refine plc hE (.r 3 1 .nil) (fun a hE => pld (hK4 _ _ (wp_seq_k fun K12 hK12 => pl0 (ple hE (.lit (d := (Kn.int .i64)) (e := 3) hS ([] : List Int) (.nil)) ?_))))
 rintro _ u13 a ⟨A14, c15, rfl, hS, hg⟩ hE
 refine plc hE (.r 1 1 .nil) (fun a hE => pld (hK12 _ _ (wp_seq_k fun K17 hK17 => wp_seq_k fun K18 hK18 => pl0 (plc hE (.r 0 1 .nil) (fun a hE => pld (hK18 _ _ (wp_block ?_)))))))
 replace hS := hS.front 1 rfl
 refine wp_loop_ghost (fun kq25 a w' => ∃ (G : Nat → Value) (A20 : Option Addr) (c21 : Nat) (l22 : List Int) (x23 : Int), kq25 ≤ k ∧ Env 40 G a ∧ At G [(2, .pointer (some ⟨b2, 0, none⟩)), (5, .slice A9 t6.length c10), (6, .slice A20 l22.length c21), (7, .int .i64 x23)] ∧ St W (mine W []) F w' F8 [box b2 #[.int .i64 x0_.f0, .int .i64 x0_.f1, .int .i64 x0_.f2, .int .i64 x0_.f3, .slice A0_4 x0_.f4.length c0_4, .slice A0_5 x0_.f5.length c0_5, .slice A0_6 x0_.f6.length c0_6] 26, row (Kn.int .i64) 3 (.slice A20 l22.length c21) l22] ∧  windroseref08_Acting.l24 kq25 x0_ t6 l22 x23 = some r) k ⟨_, A14, c15, ([] : List Int), 0, Nat.le_refl _, hE, .of, hS, H⟩ ?_
 rintro kq25 a u27 ⟨G, A20, c21, l22, x23, hkq, hE, hA, hS, H⟩
 cases kq25 with
 | zero => cases (show none = some r from H)
 | succ k26 =>
  rw [windroseref08_Acting.l24_s] at H
  obtain ⟨J, hE⟩ := hE.at hA
  refine wp_seq_k fun K28 hK28 => wp_seq_k fun K29 hK29 => pl0 (plc hE (.r 0 4 .nil) (fun a hE => pld (hK29 _ _ ?_)))
  rcases sp H with ⟨c30, H⟩ | ⟨c30, H⟩
  ·
   replace hE := hE.kt 17 c30
   refine ct hE (wp_skip (hK28 _ _ (wp_seq_k fun K31 hK31 => wp_block (wp_seq_k fun K32 hK32 => ?_))))
   refine drawn 13 ⟨[11], [], fun q => False⟩ mixed rfl (by kernel_rfl) (fun hst => ?_)
   replace hS := hS.drew
   have hb2 := hS.blk_at (i := 0) rfl
   obtain ⟨c33, H⟩ := gd H
   have hE_ := hE
   obtain ⟨ad34, rfl⟩ := g11.addr c33.1 c33.2
   replace hE := hE_
   obtain ⟨cs36, rfl, hc37⟩ := g11.el 0 x23 c33.1 c33.2
   refine mny 7 hst hE (.r 0 1 <| .b 1 4 hb2 <| .r 2 2 <| .x 4 c33 <| .c 5 (hS.fc hc37 0) <| .nil) (fun a hE => ?_)
   obtain ⟨t38, h39, H⟩ := bd H
   refine meet2 (fun a w' => ∃ (G : Nat → Value) (b41 : Nat), Env 40 G a ∧ At G [(2, .pointer (some ⟨b2, 0, none⟩)), (5, .slice (some ad34) t6.length c10), (6, .slice A20 l22.length c21), (7, .int .i64 x23), (8, .pointer (some ⟨b41, 0, none⟩)), (28, .agg #[.int .i64 t38.1.f0, .int .i64 t38.1.f1, .int .i64 t38.1.f2, .int .i64 t38.1.f3, .bool t38.1.f4, .bool t38.1.f5]), (29, .bool t38.2)] ∧ St W (mine W []) F w' F8 [box b41 #[.int .i64 0, .int .i64 0, .int .i64 0, .int .i64 0, .bool false, .bool false] 104, box b2 #[.int .i64 x0_.f0, .int .i64 x0_.f1, .int .i64 x0_.f2, .int .i64 x0_.f3, .slice A0_4 x0_.f4.length c0_4, .slice A0_5 x0_.f5.length c0_5, .slice A0_6 x0_.f6.length c0_6] 26, row (Kn.int .i64) 3 (.slice A20 l22.length c21) l22]) 2 2047 ?_ (fun hJ => ?_)
   ·
    rintro a u44 ⟨G, b41, hE, hA, hS⟩
    obtain ⟨J, hE⟩ := hE.at hA
    refine on1 11 hE (.sto hS [.int .i64 t38.1.f0, .int .i64 t38.1.f1, .int .i64 t38.1.f2, .int .i64 t38.1.f3, .bool t38.1.f4, .bool t38.1.f5]) ?_
    rintro _ u45 a ⟨rfl, hb41, hS, hz⟩ hE
    refine ⟨.d, ?_⟩
    refine mny 0 hst hE (.r 12 1 .nil) (fun a hE => ?_)
    refine dn ?_
    refine hK32 _ _ (wp_seq_k fun K46 hK46 => pl0 (plc hE (.r 0 1 <| .b 1 4 hb41 <| .nil) (fun a hE => pld (hK46 _ _ ?_))))
    rcases sp H with ⟨c47, H⟩ | ⟨c47, H⟩
    ·
     replace hE := hE.bt 31 c47
     refine ct hE (pl0 ?_)
     obtain ⟨cs49, rfl, hc50⟩ := g11.el 0 x23 c33.1 c33.2
     refine plc hE (.r 0 3 <| .x 3 c33 <| .c 4 (hS.fc hc50 0) <| .nil) (fun a hE => ple hE (.lit (d := (Kn.int .i64)) (e := 3) hS [(nth 0 t6 x23)] (.cons rfl .nil)) ?_)
     rintro _ u51 a ⟨A52, c53, rfl, hS, hg⟩ hE
     obtain ⟨c55, H⟩ := gd H
     replace hS := hS.front 3 rfl
     refine ple hE (.ap (d := (Kn.int .i64)) 8 hS (row_src (hS.row_at (i := 1) rfl)) c55 c53) ?_
     rintro _ u58 a ⟨A56, c57, rfl, hS, hz⟩ hE
     refine plc hE (.r 7 1 .nil) (fun a hE => pld ?_)
     refine block_n ?_
     refine hK31 _ _ (pl0 (plc hE (.r 0 3 .nil) (fun a hE => pld ?_)))
     replace hS := hS.front 1 rfl
     replace hS := hS.tail
     replace hS := hS.front 1 rfl
     replace hS := hS.tail
     replace hS := hS.front 1 rfl
     exact then_n ⟨k26, by omega, _, A56, c57, (l22 ++ [(nth 0 t6 x23)]), (w64 (x23 + 1)), by omega, hE, .of, hS, H⟩
    ·
     replace hE := hE.bf 31 c47
     refine cf hE (wp_skip ?_)
     refine block_n ?_
     refine hK31 _ _ (pl0 (plc hE (.r 0 3 .nil) (fun a hE => pld ?_)))
     replace hS := hS.tail
     exact then_n ⟨k26, by omega, _, A20, c21, l22, (w64 (x23 + 1)), by omega, hE, .of, hS, H⟩
   ·
    refine pk2 6 10 ?_ ?_
    ·
     refine pk1 6 hE (.cl en75 (windroseref06_Find.calls k26 x0_.f4 (nth 0 t6 x23) _ _ _ _ _ hS.own.sub g0_4 h39)) ?_
     rintro _ u40 a ⟨_, rfl, hC⟩ hE
     refine ⟨.of hC.agr, ?_⟩
     replace hS := hS.lent hC
     refine mny 3 hst hE (.r 7 3 .nil) (fun a hE => ?_)
     refine on1 10 hE (.al (t := 104) hS [.int .i64 0, .int .i64 0, .int .i64 0, .int .i64 0, .bool false, .bool false]) ?_
     rintro _ u42 a ⟨b41, rfl, hb41, hS, hg⟩ hE
     refine ⟨.of hg, ?_⟩
     exact hJ _ _ ⟨_, b41, hE, .of, hS⟩
    ·
     refine pk1 10 hE (.al (t := 104) hS [.int .i64 0, .int .i64 0, .int .i64 0, .int .i64 0, .bool false, .bool false]) ?_
     rintro _ u42 a ⟨b41, rfl, hb41, hS, hg⟩ hE
     refine ⟨.of hg, ?_⟩
     refine on1 6 hE (.cl en75 (windroseref06_Find.calls k26 x0_.f4 (nth 0 t6 x23) _ _ _ _ _ hS.own.sub g0_4 h39)) ?_
     rintro _ u40 a ⟨_, rfl, hC⟩ hE
     refine ⟨.of hC.agr, ?_⟩
     replace hS := hS.lent hC
     refine mny 2 hst hE (.r 7 3 .nil) (fun a hE => ?_)
     exact hJ _ _ ⟨_, b41, hE, .of, hS⟩
  ·
   replace hE := hE.kf 17 c30
   refine cf hE ?_
   refine wp_exit ?_
   refine hK17 _ _ (wp_seq_k fun K59 hK59 => pl0 (plc hE (.r 0 2 .nil) (fun a hE => pld (hK59 _ _ (wp_ret ?_)))))
   replace hS := hS.tail
   obtain rfl := si H
   exact rt1 hE ⟨_, rfl, _, _, _, rfl, hS⟩

/-! ### windrose/windroselaw08.MapsStands: function 4 -/
def windroselaw08_MapsStands.f (k : Nat) (x0_ : T_api_Map) (x1_ : Int) : Option Bool := (windroselaw08_Light.f k x0_).bind fun t7 => (if t7 = true then ((maps_Raw.f k x0_ x1_).bind fun t16 => ((windroseref08_Raw.f k x0_ x1_).bind fun t24 => ((windroseref02_Ints.f k t16 t24).bind fun t31 => (if t31 = true then ((maps_Acting.f k x0_ x1_).bind fun t35 => ((windroseref08_Acting.f k x0_ x1_).bind fun t43 => ((windroseref02_Ints.f k t35 t43).bind fun t51 => (if t51 = true then ((windroselaw08_awake.f k).bind fun t55 => (some t55)) else (some false))))) else (some false))))) else ((windroselaw08_awake.f k).bind fun t12 => (some t12)))
def windroselaw08_MapsStands.Post (W F : World) (r : Bool) (v : Value) (w' : World) : Prop := ∃ (F' : World), v = .bool r ∧ St W (mine W []) F w' F' []
theorem windroselaw08_MapsStands.calls (k : Nat) (x0_ : T_api_Map) (x1_ : Int) (A0_4 : Option Addr) (c0_4 : Nat) (A0_5 : Option Addr) (c0_5 : Nat) (A0_6 : Option Addr) (c0_6 : Nat) (r : Bool) (W F : World) (hown : Sub F W) (g0_4 : Rd T_api_Node.k F A0_4 c0_4 x0_.f4) (g0_5 : Rd T_api_Temp.k F A0_5 c0_5 x0_.f5) (g0_6 : Rd T_api_Trail.k F A0_6 c0_6 x0_.f6) (H : windroselaw08_MapsStands.f k x0_ x1_ = some r) :
    Calls Tryz.prog 4 #[.agg #[.int .i64 x0_.f0, .int .i64 x0_.f1, .int .i64 x0_.f2, .int .i64 x0_.f3, .slice A0_4 x0_.f4.length c0_4, .slice A0_5 x0_.f5.length c0_5, .slice A0_6 x0_.f6.length c0_6], .int .i64 x1_] W fun e w' => ∃ v, e = .returned v ∧ windroselaw08_MapsStands.Post W F r v w' := by
 have hS := St.start (Own.nil hown)
 unfold windroselaw08_MapsStands.f at H
 refine enter (n := 28) rfl rfl rfl (Nat.le_of_ble_eq_true rfl) (fun a hE => ?_)
 refine wp_seq_k fun K1 hK1 => pl0 (ple hE (.bx (t := 26) hS [.int .i64 x0_.f0, .int .i64 x0_.f1, .int .i64 x0_.f2, .int .i64 x0_.f3, .slice A0_4 x0_.f4.length c0_4, .slice A0_5 x0_.f5.length c0_5, .slice A0_6 x0_.f6.length c0_6]) ?_)
 rintro _ u3 a ⟨b2, rfl, hb2, hS, hg⟩ hE
 refine plc hE (.r 1 1 .nil) (fun a hE => pld (hK1 _ _ (wp_seq_k fun K4 hK4 => wp_seq_k fun K5 hK5 => pl0 (plc hE (.bn 0 0 7 hb2 .nil) (fun a hE => ?_)))))
 obtain ⟨t7, h8, H⟩ := bd H
 refine ple hE (.cl en20 (windroselaw08_Light.calls k x0_ _ _ _ _ _ _ _ _ _ hS.own.sub g0_4 g0_5 g0_6 h8)) ?_
 rintro _ u6 a ⟨_, rfl, hC⟩ hE
 replace hS := hS.lent hC
 refine plc hE (.r 2 1 .nil) (fun a hE => pld (hK5 _ _ ?_))
 rcases sp H with ⟨c9, H⟩ | ⟨c9, H⟩
 ·
  replace hE := hE.btn 7 c9
  refine cf hE (wp_skip (hK4 _ _ (wp_seq_k fun K14 hK14 => ?_)))
  refine drawn 20 ⟨[], [], fun q => False⟩ mixed rfl (by kernel_rfl) (fun hst => ?_)
  replace hS := hS.drew
  have hb2 := hS.blk_at (i := 0) rfl
  refine mny 16 hst hE (.bn 0 0 7 hb2 <| .r 1 1 <| .bn 3 0 7 hb2 <| .r 4 1 <| .nil) (fun a hE => ?_)
  obtain ⟨t16, h17, H⟩ := bd H
  refine on1 2 hE (.cl en22 (maps_Raw.calls k x0_ x1_ _ _ _ _ _ _ _ _ _ hS.own.sub g0_4 g0_5 g0_6 h17)) ?_
  rintro _ u15 a ⟨F18, A19, c20, rfl, hC⟩ hE
  refine ⟨.of hC.agr, ?_⟩
  have hs := hC.sub
  replace hS := hS.called (X := []) hC
  replace g0_4 := g0_4.mono hs
  replace g0_5 := g0_5.mono hs
  replace g0_6 := g0_6.mono hs
  obtain ⟨t24, h25, H⟩ := bd H
  refine on1 5 hE (.cl en23 (windroseref08_Raw.calls k x0_ x1_ _ _ _ _ _ _ _ _ _ hS.own.sub g0_4 g0_5 g0_6 h25)) ?_
  rintro _ u23 a ⟨F26, A27, c28, rfl, hC, g29⟩ hE
  refine ⟨.of hC.agr, ?_⟩
  have hs := hC.sub
  replace hS := hS.called (X := []) hC
  replace g0_4 := g0_4.mono hs
  replace g0_5 := g0_5.mono hs
  replace g0_6 := g0_6.mono hs
  obtain ⟨t31, h32, H⟩ := bd H
  refine on1 6 hE (.cl en21 (windroseref02_Ints.calls k t16 t24 _ _ _ _ _ _ _ (Sub.refl _) (hS.rd_at (i := 0) rfl) (g29.mono hS.own.sub) h32)) ?_
  rintro _ u30 a ⟨_, rfl, hC⟩ hE
  refine ⟨.of hC.agr, ?_⟩
  replace hS := hS.lent hC
  refine mny 12 hst hE (.r 7 1 .nil) (fun a hE => ?_)
  rcases sp H with ⟨c33, H⟩ | ⟨c33, H⟩
  ·
   replace hE := hE.bt 16 c33
   have hb2 := hS.blk_at (i := 1) rfl
   refine mny 8 hst hE (.bn 8 0 7 hb2 <| .r 9 1 <| .bn 11 0 7 hb2 <| .r 12 1 <| .nil) (fun a hE => ?_)
   obtain ⟨t35, h36, H⟩ := bd H
   refine on1 10 hE (.cl en24 (maps_Acting.calls k x0_ x1_ _ _ _ _ _ _ _ _ _ hS.own.sub g0_4 g0_5 g0_6 h36)) ?_
   rintro _ u34 a ⟨F37, A38, c39, rfl, hC⟩ hE
   refine ⟨.of hC.agr, ?_⟩
   have hs := hC.sub
   replace hS := hS.called (X := []) hC
   replace g0_4 := g0_4.mono hs
   replace g0_5 := g0_5.mono hs
   replace g0_6 := g0_6.mono hs
   replace g29 := g29.mono hs
   obtain ⟨t43, h44, H⟩ := bd H
   refine on1 13 hE (.cl en25 (windroseref08_Acting.calls k x0_ x1_ _ _ _ _ _ _ _ _ _ hS.own.sub g0_4 g0_5 g0_6 h44)) ?_
   rintro _ u42 a ⟨F45, A46, c47, rfl, hC⟩ hE
   refine ⟨.of hC.agr, ?_⟩
   have hs := hC.sub
   replace hS := hS.called (X := []) hC
   replace g0_4 := g0_4.mono hs
   replace g0_5 := g0_5.mono hs
   replace g0_6 := g0_6.mono hs
   replace g29 := g29.mono hs
   obtain ⟨t51, h52, H⟩ := bd H
   refine on1 14 hE (.cl en21 (windroseref02_Ints.calls k t35 t43 _ _ _ _ _ _ _ (Sub.refl _) (hS.rd_at (i := 1) rfl) (hS.rd_at (i := 0) rfl) h52)) ?_
   rintro _ u50 a ⟨_, rfl, hC⟩ hE
   refine ⟨.of hC.agr, ?_⟩
   replace hS := hS.lent hC
   refine mny 3 hst hE (.r 15 2 .nil) (fun a hE => ?_)
   rcases sp H with ⟨c53, H⟩ | ⟨c53, H⟩
   ·
    replace hE := hE.bt 25 c53
    obtain ⟨t55, h56, H⟩ := bd H
    refine on1 17 hE (.cl en17 (windroselaw08_awake.calls k _ _ _ hS.own.sub h56)) ?_
    rintro _ u54 a ⟨_, rfl, hC⟩ hE
    refine ⟨.of hC.agr, ?_⟩
    replace hS := hS.lent hC
    refine mny 0 hst hE (.r 18 2 .nil) (fun a hE => ?_)
    refine dn ?_
    refine hK14 _ _ (wp_ret ?_)
    replace hS := hS.tail
    replace hS := hS.tail
    replace hS := hS.tail
    replace hS := hS.tail
    obtain rfl := si H
    exact rt1 hE ⟨_, rfl, _, rfl, hS⟩
   ·
    replace hE := hE.bf 25 c53
    refine mny 0 hst hE (.r 17 3 .nil) (fun a hE => ?_)
    refine dn ?_
    refine hK14 _ _ (wp_ret ?_)
    replace hS := hS.tail
    replace hS := hS.tail
    replace hS := hS.tail
    replace hS := hS.tail
    obtain rfl := si H
    exact rt1 hE ⟨_, rfl, _, rfl, hS⟩
  ·
   replace hE := hE.bf 16 c33
   refine mny 0 hst hE (.r 8 12 .nil) (fun a hE => ?_)
   refine dn ?_
   refine hK14 _ _ (wp_ret ?_)
   replace hS := hS.tail
   replace hS := hS.tail
   obtain rfl := si H
   exact rt1 hE ⟨_, rfl, _, rfl, hS⟩
 ·
  replace hE := hE.bfn 7 c9
  refine ct hE (wp_seq_k fun K10 hK10 => pl0 ?_)
  obtain ⟨t12, h13, H⟩ := bd H
  refine ple hE (.cl en17 (windroselaw08_awake.calls k _ _ _ hS.own.sub h13)) ?_
  rintro _ u11 a ⟨_, rfl, hC⟩ hE
  replace hS := hS.lent hC
  refine plc hE (.r 1 1 .nil) (fun a hE => pld (hK10 _ _ (wp_ret (then_ret ?_))))
  replace hS := hS.tail
  obtain rfl := si H
  exact rt1 hE ⟨_, rfl, _, rfl, hS⟩

end Go.Proofs.YtpohepinmjmbkaaGreat.MS
