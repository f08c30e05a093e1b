import Derived.Test.YtpohepinmjmbkaaGreatQS8
namespace Go.Proofs.YtpohepinmjmbkaaGreat.QS
open Go Go.RowKit Go.Proofs.YtpohepinmjmbkaaGreat.Sl
set_option linter.unusedVariables false
set_option linter.unusedSimpArgs false
set_option maxHeartbeats 4000000
set_option maxRecDepth 100000
mutual
def qE.l24 : Nat → List qA → List qH → Int → Int → List Ar3_i64 → List Int → Int → Option (List Int)
  | 0, _, _, _, _, _, _, _ => none
  | k + 1, x0_, x1_, x2_, x3_, l18, l21, x22 => if x22 < (x1_.length : Int) then (if 0 ≤ x22 ∧ x22 < (x1_.length : Int) then (if (nth qH.z x1_ x22).f0 = 1 then (if ((([] : List Ar3_i64).length : Int) + ((1 : Nat) : Int)) * 24 ≤ 140737488355328 then (qE.j61 k x0_ x1_ x2_ x3_ l18 l21 x22 (([] : List Ar3_i64) ++ [(⟨0, 0, 0⟩ : Ar3_i64)])) else (none)) else (qE.j61 k x0_ x1_ x2_ x3_ l18 l21 x22 ([] : List Ar3_i64))) else (none)) else (some l21)
def qE.j61 : Nat → List qA → List qH → Int → Int → List Ar3_i64 → List Int → Int → List Ar3_i64 → Option (List Int)
  | 0, _, _, _, _, _, _, _, _ => none
  | k + 1, x0_, x1_, x2_, x3_, l18, l21, x22, l60 => qE.l78 k x0_ x1_ x2_ x3_ l18 x22 l21 l60 0
def qE.l78 : Nat → List qA → List qH → Int → Int → List Ar3_i64 → Int → List Int → List Ar3_i64 → Int → Option (List Int)
  | 0, _, _, _, _, _, _, _, _, _ => none
  | k + 1, x0_, x1_, x2_, x3_, l18, x22, l72, l75, x76 => if x76 < (l18.length : Int) then (if 0 ≤ x76 ∧ x76 < (l18.length : Int) then (if (nth qH.z x1_ x22).f0 = 3 then (qE.l104 k x0_ x1_ x2_ x3_ l18 x22 l72 l75 x76 false 0) else ((qi.f k x0_ ((nth Ar3_i64.z l18 x76).f0) ((nth Ar3_i64.z l18 x76).f1)).bind fun t139 => (if (nth qH.z x1_ x22).f1 = 1 then ((qAQ.f k x0_).bind fun t150 => (qE.j162 k x0_ x1_ x2_ x3_ l18 x22 l72 l75 x76 t150)) else (qE.j162 k x0_ x1_ x2_ x3_ l18 x22 l72 l75 x76 t139)))) else (none)) else (qE.l24 k x0_ x1_ x2_ x3_ l75 l72 (w64 (x22 + 1)))
def qE.l104 : Nat → List qA → List qH → Int → Int → List Ar3_i64 → Int → List Int → List Ar3_i64 → Int → Bool → Int → Option (List Int)
  | 0, _, _, _, _, _, _, _, _, _, _, _ => none
  | k + 1, x0_, x1_, x2_, x3_, l18, x22, l72, l75, x76, y102, x103 => if x103 < (l72.length : Int) then (if y102 = true then (qE.l104 k x0_ x1_ x2_ x3_ l18 x22 l72 l75 x76 true (w64 (x103 + 1))) else (if 0 ≤ x103 ∧ x103 < (l72.length : Int) then (qE.l104 k x0_ x1_ x2_ x3_ l18 x22 l72 l75 x76 ((nth 0 l72 x103) == (nth Ar3_i64.z l18 x76).f2) (w64 (x103 + 1))) else (none))) else (if y102 = true then (qE.j123 k x0_ x1_ x2_ x3_ l18 x22 l72 l75 x76 false) else (qE.j123 k x0_ x1_ x2_ x3_ l18 x22 l72 l75 x76 (decide ((l72.length : Int) < x3_))))
def qE.j123 : Nat → List qA → List qH → Int → Int → List Ar3_i64 → Int → List Int → List Ar3_i64 → Int → Bool → Option (List Int)
  | 0, _, _, _, _, _, _, _, _, _, _ => none
  | k + 1, x0_, x1_, x2_, x3_, l18, x22, l72, l75, x76, y122 => if y122 = true then (if ((l72.length : Int) + ((1 : Nat) : Int)) * 8 ≤ 140737488355328 then (qE.l78 k x0_ x1_ x2_ x3_ l18 x22 (l72 ++ [(nth Ar3_i64.z l18 x76).f2]) l75 (w64 (x76 + 1))) else (none)) else (qE.l78 k x0_ x1_ x2_ x3_ l18 x22 l72 l75 (w64 (x76 + 1)))
def qE.j162 : Nat → List qA → List qH → Int → Int → List Ar3_i64 → Int → List Int → List Ar3_i64 → Int → List qB → Option (List Int)
  | 0, _, _, _, _, _, _, _, _, _, _ => none
  | k + 1, x0_, x1_, x2_, x3_, l18, x22, l72, l75, x76, l160 => if (nth qH.z x1_ x22).f1 = 2 then ((qAI.f k x0_ ((nth Ar3_i64.z l18 x76).f0)).bind fun t171 => (qE.j183 k x0_ x1_ x2_ x3_ l18 x22 l72 l75 x76 t171)) else (qE.j183 k x0_ x1_ x2_ x3_ l18 x22 l72 l75 x76 l160)
def qE.j183 : Nat → List qA → List qH → Int → Int → List Ar3_i64 → Int → List Int → List Ar3_i64 → Int → List qB → Option (List Int)
  | 0, _, _, _, _, _, _, _, _, _, _ => none
  | k + 1, x0_, x1_, x2_, x3_, l18, x22, l72, l75, x76, l181 => (qAM.f k (IntKind.u64.wrap x2_) [(IntKind.u64.wrap (nth qH.z x1_ x22).f1), (IntKind.u64.wrap (nth Ar3_i64.z l18 x76).f0), (IntKind.u64.wrap (nth Ar3_i64.z l18 x76).f1)]).bind fun t194 => ((qAU.f k t194 l181).bind fun t199 => (qE.l212 k x0_ x1_ x2_ x3_ l18 x22 l72 x76 t199 l75 0))
def qE.l212 : Nat → List qA → List qH → Int → Int → List Ar3_i64 → Int → List Int → Int → List Int → List Ar3_i64 → Int → Option (List Int)
  | 0, _, _, _, _, _, _, _, _, _, _, _ => none
  | k + 1, x0_, x1_, x2_, x3_, l18, x22, l72, x76, t199, l210, x211 => if x211 < (t199.length : Int) then (qE.j220 k x0_ x1_ x2_ x3_ l18 x22 l72 x76 t199 l210 x211 (decide (x211 < (nth qH.z x1_ x22).f2))) else (qE.j220 k x0_ x1_ x2_ x3_ l18 x22 l72 x76 t199 l210 x211 false)
def qE.j220 : Nat → List qA → List qH → Int → Int → List Ar3_i64 → Int → List Int → Int → List Int → List Ar3_i64 → Int → Bool → Option (List Int)
  | 0, _, _, _, _, _, _, _, _, _, _, _, _ => none
  | k + 1, x0_, x1_, x2_, x3_, l18, x22, l72, x76, t199, l210, x211, y219 => if y219 = true then (if 0 ≤ x211 ∧ x211 < (t199.length : Int) then (if (w64 ((nth qH.z x1_ x22).f1 - 1)) = 0 then (qE.j247 k x0_ x1_ x2_ x3_ l18 x22 l72 x76 t199 l210 x211 (nth 0 t199 x211) ((nth Ar3_i64.z l18 x76).f1) ((nth Ar3_i64.z l18 x76).f2)) else (if (w64 ((nth qH.z x1_ x22).f1 - 1)) = 1 then (qE.j247 k x0_ x1_ x2_ x3_ l18 x22 l72 x76 t199 l210 x211 ((nth Ar3_i64.z l18 x76).f0) (nth 0 t199 x211) ((nth Ar3_i64.z l18 x76).f2)) else (if (w64 ((nth qH.z x1_ x22).f1 - 1)) = 2 then (qE.j247 k x0_ x1_ x2_ x3_ l18 x22 l72 x76 t199 l210 x211 ((nth Ar3_i64.z l18 x76).f0) ((nth Ar3_i64.z l18 x76).f1) (nth 0 t199 x211)) else (none)))) else (none)) else (qE.l78 k x0_ x1_ x2_ x3_ l18 x22 l72 l210 (w64 (x76 + 1)))
def qE.j247 : Nat → List qA → List qH → Int → Int → List Ar3_i64 → Int → List Int → Int → List Int → List Ar3_i64 → Int → Int → Int → Int → Option (List Int)
  | 0, _, _, _, _, _, _, _, _, _, _, _, _, _, _ => none
  | k + 1, x0_, x1_, x2_, x3_, l18, x22, l72, x76, t199, l210, x211, x244, x245, x246 => if ((l210.length : Int) + ((1 : Nat) : Int)) * 24 ≤ 140737488355328 then (qE.l212 k x0_ x1_ x2_ x3_ l18 x22 l72 x76 t199 (l210 ++ [(⟨x244, x245, x246⟩ : Ar3_i64)]) (w64 (x211 + 1))) else (none)
end
theorem qE.l24_s (k : Nat) (x0_ : List qA) (x1_ : List qH) (x2_ : Int) (x3_ : Int) (l18 : List Ar3_i64) (l21 : List Int) (x22 : Int) : qE.l24 (k + 1) x0_ x1_ x2_ x3_ l18 l21 x22 = (if x22 < (x1_.length : Int) then (if 0 ≤ x22 ∧ x22 < (x1_.length : Int) then (if (nth qH.z x1_ x22).f0 = 1 then (if ((([] : List Ar3_i64).length : Int) + ((1 : Nat) : Int)) * 24 ≤ 140737488355328 then (qE.j61 k x0_ x1_ x2_ x3_ l18 l21 x22 (([] : List Ar3_i64) ++ [(⟨0, 0, 0⟩ : Ar3_i64)])) else (none)) else (qE.j61 k x0_ x1_ x2_ x3_ l18 l21 x22 ([] : List Ar3_i64))) else (none)) else (some l21)) := by kernel_rfl
theorem qE.j61_s (k : Nat) (x0_ : List qA) (x1_ : List qH) (x2_ : Int) (x3_ : Int) (l18 : List Ar3_i64) (l21 : List Int) (x22 : Int) (l60 : List Ar3_i64) : qE.j61 (k + 1) x0_ x1_ x2_ x3_ l18 l21 x22 l60 = (qE.l78 k x0_ x1_ x2_ x3_ l18 x22 l21 l60 0) := by kernel_rfl
theorem qE.l78_s (k : Nat) (x0_ : List qA) (x1_ : List qH) (x2_ : Int) (x3_ : Int) (l18 : List Ar3_i64) (x22 : Int) (l72 : List Int) (l75 : List Ar3_i64) (x76 : Int) : qE.l78 (k + 1) x0_ x1_ x2_ x3_ l18 x22 l72 l75 x76 = (if x76 < (l18.length : Int) then (if 0 ≤ x76 ∧ x76 < (l18.length : Int) then (if (nth qH.z x1_ x22).f0 = 3 then (qE.l104 k x0_ x1_ x2_ x3_ l18 x22 l72 l75 x76 false 0) else ((qi.f k x0_ ((nth Ar3_i64.z l18 x76).f0) ((nth Ar3_i64.z l18 x76).f1)).bind fun t139 => (if (nth qH.z x1_ x22).f1 = 1 then ((qAQ.f k x0_).bind fun t150 => (qE.j162 k x0_ x1_ x2_ x3_ l18 x22 l72 l75 x76 t150)) else (qE.j162 k x0_ x1_ x2_ x3_ l18 x22 l72 l75 x76 t139)))) else (none)) else (qE.l24 k x0_ x1_ x2_ x3_ l75 l72 (w64 (x22 + 1)))) := by kernel_rfl
theorem qE.l104_s (k : Nat) (x0_ : List qA) (x1_ : List qH) (x2_ : Int) (x3_ : Int) (l18 : List Ar3_i64) (x22 : Int) (l72 : List Int) (l75 : List Ar3_i64) (x76 : Int) (y102 : Bool) (x103 : Int) : qE.l104 (k + 1) x0_ x1_ x2_ x3_ l18 x22 l72 l75 x76 y102 x103 = (if x103 < (l72.length : Int) then (if y102 = true then (qE.l104 k x0_ x1_ x2_ x3_ l18 x22 l72 l75 x76 true (w64 (x103 + 1))) else (if 0 ≤ x103 ∧ x103 < (l72.length : Int) then (qE.l104 k x0_ x1_ x2_ x3_ l18 x22 l72 l75 x76 ((nth 0 l72 x103) == (nth Ar3_i64.z l18 x76).f2) (w64 (x103 + 1))) else (none))) else (if y102 = true then (qE.j123 k x0_ x1_ x2_ x3_ l18 x22 l72 l75 x76 false) else (qE.j123 k x0_ x1_ x2_ x3_ l18 x22 l72 l75 x76 (decide ((l72.length : Int) < x3_))))) := by kernel_rfl
theorem qE.j123_s (k : Nat) (x0_ : List qA) (x1_ : List qH) (x2_ : Int) (x3_ : Int) (l18 : List Ar3_i64) (x22 : Int) (l72 : List Int) (l75 : List Ar3_i64) (x76 : Int) (y122 : Bool) : qE.j123 (k + 1) x0_ x1_ x2_ x3_ l18 x22 l72 l75 x76 y122 = (if y122 = true then (if ((l72.length : Int) + ((1 : Nat) : Int)) * 8 ≤ 140737488355328 then (qE.l78 k x0_ x1_ x2_ x3_ l18 x22 (l72 ++ [(nth Ar3_i64.z l18 x76).f2]) l75 (w64 (x76 + 1))) else (none)) else (qE.l78 k x0_ x1_ x2_ x3_ l18 x22 l72 l75 (w64 (x76 + 1)))) := by kernel_rfl
theorem qE.j162_s (k : Nat) (x0_ : List qA) (x1_ : List qH) (x2_ : Int) (x3_ : Int) (l18 : List Ar3_i64) (x22 : Int) (l72 : List Int) (l75 : List Ar3_i64) (x76 : Int) (l160 : List qB) : qE.j162 (k + 1) x0_ x1_ x2_ x3_ l18 x22 l72 l75 x76 l160 = (if (nth qH.z x1_ x22).f1 = 2 then ((qAI.f k x0_ ((nth Ar3_i64.z l18 x76).f0)).bind fun t171 => (qE.j183 k x0_ x1_ x2_ x3_ l18 x22 l72 l75 x76 t171)) else (qE.j183 k x0_ x1_ x2_ x3_ l18 x22 l72 l75 x76 l160)) := by kernel_rfl
theorem qE.j183_s (k : Nat) (x0_ : List qA) (x1_ : List qH) (x2_ : Int) (x3_ : Int) (l18 : List Ar3_i64) (x22 : Int) (l72 : List Int) (l75 : List Ar3_i64) (x76 : Int) (l181 : List qB) : qE.j183 (k + 1) x0_ x1_ x2_ x3_ l18 x22 l72 l75 x76 l181 = ((qAM.f k (IntKind.u64.wrap x2_) [(IntKind.u64.wrap (nth qH.z x1_ x22).f1), (IntKind.u64.wrap (nth Ar3_i64.z l18 x76).f0), (IntKind.u64.wrap (nth Ar3_i64.z l18 x76).f1)]).bind fun t194 => ((qAU.f k t194 l181).bind fun t199 => (qE.l212 k x0_ x1_ x2_ x3_ l18 x22 l72 x76 t199 l75 0))) := by kernel_rfl
theorem qE.l212_s (k : Nat) (x0_ : List qA) (x1_ : List qH) (x2_ : Int) (x3_ : Int) (l18 : List Ar3_i64) (x22 : Int) (l72 : List Int) (x76 : Int) (t199 : List Int) (l210 : List Ar3_i64) (x211 : Int) : qE.l212 (k + 1) x0_ x1_ x2_ x3_ l18 x22 l72 x76 t199 l210 x211 = (if x211 < (t199.length : Int) then (qE.j220 k x0_ x1_ x2_ x3_ l18 x22 l72 x76 t199 l210 x211 (decide (x211 < (nth qH.z x1_ x22).f2))) else (qE.j220 k x0_ x1_ x2_ x3_ l18 x22 l72 x76 t199 l210 x211 false)) := by kernel_rfl
theorem qE.j220_s (k : Nat) (x0_ : List qA) (x1_ : List qH) (x2_ : Int) (x3_ : Int) (l18 : List Ar3_i64) (x22 : Int) (l72 : List Int) (x76 : Int) (t199 : List Int) (l210 : List Ar3_i64) (x211 : Int) (y219 : Bool) : qE.j220 (k + 1) x0_ x1_ x2_ x3_ l18 x22 l72 x76 t199 l210 x211 y219 = (if y219 = true then (if 0 ≤ x211 ∧ x211 < (t199.length : Int) then (if (w64 ((nth qH.z x1_ x22).f1 - 1)) = 0 then (qE.j247 k x0_ x1_ x2_ x3_ l18 x22 l72 x76 t199 l210 x211 (nth 0 t199 x211) ((nth Ar3_i64.z l18 x76).f1) ((nth Ar3_i64.z l18 x76).f2)) else (if (w64 ((nth qH.z x1_ x22).f1 - 1)) = 1 then (qE.j247 k x0_ x1_ x2_ x3_ l18 x22 l72 x76 t199 l210 x211 ((nth Ar3_i64.z l18 x76).f0) (nth 0 t199 x211) ((nth Ar3_i64.z l18 x76).f2)) else (if (w64 ((nth qH.z x1_ x22).f1 - 1)) = 2 then (qE.j247 k x0_ x1_ x2_ x3_ l18 x22 l72 x76 t199 l210 x211 ((nth Ar3_i64.z l18 x76).f0) ((nth Ar3_i64.z l18 x76).f1) (nth 0 t199 x211)) else (none)))) else (none)) else (qE.l78 k x0_ x1_ x2_ x3_ l18 x22 l72 l210 (w64 (x76 + 1)))) := by kernel_rfl
theorem qE.j247_s (k : Nat) (x0_ : List qA) (x1_ : List qH) (x2_ : Int) (x3_ : Int) (l18 : List Ar3_i64) (x22 : Int) (l72 : List Int) (x76 : Int) (t199 : List Int) (l210 : List Ar3_i64) (x211 : Int) (x244 : Int) (x245 : Int) (x246 : Int) : qE.j247 (k + 1) x0_ x1_ x2_ x3_ l18 x22 l72 x76 t199 l210 x211 x244 x245 x246 = (if ((l210.length : Int) + ((1 : Nat) : Int)) * 24 ≤ 140737488355328 then (qE.l212 k x0_ x1_ x2_ x3_ l18 x22 l72 x76 t199 (l210 ++ [(⟨x244, x245, x246⟩ : Ar3_i64)]) (w64 (x211 + 1))) else (none)) := by kernel_rfl
def qE.f (k : Nat) (x0_ : List qA) (x1_ : List qH) (x2_ : Int) (x3_ : Int) : Option (List Int) := qE.l24 k x0_ x1_ x2_ x3_ ([] : List Ar3_i64) ([] : List Int) 0
def qE.Post (W F : World) (r : List Int) (v : Value) (w' : World) : Prop := ∃ (F' : World) (RA0_0 : Option Addr) (rc0_0 : Nat), v = .slice RA0_0 r.length rc0_0 ∧ St W (mine W []) F w' F' [row (Kn.int .i64) 3 (.slice RA0_0 r.length rc0_0) r]
theorem qE.calls (k : Nat) (x0_ : List qA) (x1_ : List qH) (x2_ : Int) (x3_ : Int) (A0_0 : Option Addr) (c0_0 : Nat) (A1_0 : Option Addr) (c1_0 : Nat) (r : List Int) (W F : World) (hown : Sub F W) (g0_0 : Rd qA.k F A0_0 c0_0 x0_) (g1_0 : Rd qH.k F A1_0 c1_0 x1_) (H : qE.f k x0_ x1_ x2_ x3_ = some r) :
    Calls Tryz.prog 123 #[.slice A0_0 x0_.length c0_0, .slice A1_0 x1_.length c1_0, .int .i64 x2_, .int .i64 x3_] W fun e w' => ∃ v, e = .returned v ∧ qE.Post W F r v w' := by
 have hS := St.start (Own.nil hown)
 unfold qE.f at H
 refine enter (n := 144) rfl rfl rfl (Nat.le_of_ble_eq_true rfl) (fun a hE => ?_)
 refine sq fun K1 hK1 => pl0 (plc hE (.r 0 1 .nil) (fun a hE => pld (hK1 _ _ (sq fun K2 hK2 => pl0 (ple hE (.lit (d := Ar3_i64.k) (e := 176) hS ([] : List Ar3_i64) (.nil)) ?_)))))
 rintro _ u3 a ⟨A4, c5, rfl, hS, hg⟩ hE
 refine plc hE (.r 1 1 .nil) (fun a hE => pld (hK2 _ _ (sq fun K7 hK7 => pl0 (ple hE (.lit (d := (Kn.int .i64)) (e := 3) hS ([] : List Int) (.nil)) ?_))))
 rintro _ u8 a ⟨A9, c10, rfl, hS, hg⟩ hE
 refine plc hE (.r 1 1 .nil) (fun a hE => pld (hK7 _ _ (sq fun K12 hK12 => sq fun K13 hK13 => pl0 (plc hE (.r 0 1 .nil) (fun a hE => pld (hK13 _ _ (wp_block ?_)))))))
 replace hS := hS.front 1 rfl
 refine wp_loop_ghost (fun kq25 a w' => ∃ (G : Nat → Value) (A16 : Option Addr) (c17 : Nat) (l18 : List Ar3_i64) (A19 : Option Addr) (c20 : Nat) (l21 : List Int) (x22 : Int) (F23 : World), kq25 ≤ k ∧ Env 144 G a ∧ At G [(0, .slice A0_0 x0_.length c0_0), (1, .slice A1_0 x1_.length c1_0), (2, .int .i64 x2_), (3, .int .i64 x3_), (9, .slice A16 l18.length c17), (10, .slice A19 l21.length c20), (11, .int .i64 x22)] ∧ St W (mine W []) F w' F23 [row Ar3_i64.k 176 (.slice A16 l18.length c17) l18, row (Kn.int .i64) 3 (.slice A19 l21.length c20) l21] ∧ Rd qA.k F23 A0_0 c0_0 x0_ ∧ Rd qH.k F23 A1_0 c1_0 x1_ ∧  qE.l24 kq25 x0_ x1_ x2_ x3_ l18 l21 x22 = some r) k ⟨_, A4, c5, ([] : List Ar3_i64), A9, c10, ([] : List Int), 0, F, Nat.le_refl _, hE, .of, hS, g0_0, g1_0, H⟩ ?_
 rintro kq25 a u27 ⟨G, A16, c17, l18, A19, c20, l21, x22, F23, hkq, hE, hA, hS, g0_0, g1_0, H⟩
 cases kq25 with
 | zero => cases (show none = some r from H)
 | succ k26 =>
  rw [qE.l24_s] at H
  obtain ⟨J, hE⟩ := hE.at hA
  refine sq fun K28 hK28 => sq fun K29 hK29 => pl0 (plc hE (.r 0 4 .nil) (fun a hE => pld (hK29 _ _ ?_)))
  rcases sp H with ⟨c30, H⟩ | ⟨c30, H⟩
  ·
   replace hE := hE.kt 27 c30
   refine ct hE (wp_skip (hK28 _ _ (sq fun K31 hK31 => wp_block (sq fun K32 hK32 => pl0 ?_))))
   obtain ⟨c33, H⟩ := gd H
   have hE_ := hE
   obtain ⟨ad34, rfl⟩ := g1_0.addr c33.1 c33.2
   replace hE := hE_
   obtain ⟨cs36, rfl, hc37⟩ := g1_0.el qH.z x22 c33.1 c33.2
   refine plc hE (.r 0 2 <| .x 2 c33 <| .cs 3 (hS.fcs hc37) <| .nil) (fun a hE => ple hE (.al (t := 175) hS [.int .i64 0, .int .i64 0, .int .i64 0]) ?_)
   rintro _ u39 a ⟨b38, rfl, hb38, hS, hg⟩ hE
   refine ple hE (.sto hS [.int .i64 ((nth qH.z x1_ x22).f0), .int .i64 ((nth qH.z x1_ x22).f1), .int .i64 ((nth qH.z x1_ x22).f2)]) ?_
   rintro _ u40 a ⟨rfl, hb38, hS, hz⟩ hE
   refine pld (hK32 _ _ (sq fun K41 hK41 => pl0 (ple hE (.lit (d := Ar3_i64.k) (e := 176) hS ([] : List Ar3_i64) (.nil)) ?_)))
   rintro _ u42 a ⟨A43, c44, rfl, hS, hg⟩ hE
   refine plc hE (.r 1 1 .nil) (fun a hE => pld (hK41 _ _ (sq fun K46 hK46 => ?_)))
   have J64 : ∀ kq62, kq62 ≤ k26 → ∀ (G : Nat → Value) (A58 : Option Addr) (c59 : Nat) (l60 : List Ar3_i64) (a : Act) (w' : World), Env 144 G a → At G [(0, .slice A0_0 x0_.length c0_0), (1, .slice (some ad34) x1_.length c1_0), (2, .int .i64 x2_), (3, .int .i64 x3_), (9, .slice A16 l18.length c17), (10, .slice A19 l21.length c20), (11, .int .i64 x22), (12, .pointer (some ⟨b38, 0, none⟩)), (13, .slice A58 l60.length c59)] → St W (mine W []) F w' F23 [box b38 #[.int .i64 ((nth qH.z x1_ x22).f0), .int .i64 ((nth qH.z x1_ x22).f1), .int .i64 ((nth qH.z x1_ x22).f2)] 175, row Ar3_i64.k 176 (.slice A16 l18.length c17) l18, row (Kn.int .i64) 3 (.slice A19 l21.length c20) l21, row Ar3_i64.k 176 (.slice A58 l60.length c59) l60] → qE.j61 kq62 x0_ x1_ x2_ x3_ l18 l21 x22 l60 = some r → K46 a w' := by
    intro kq62 hkq G A58 c59 l60 a u65 hE hA hS H
    cases kq62 with
    | zero => cases (show none = some r from H)
    | succ k63 =>
     rw [qE.j61_s] at H
     obtain ⟨J, hE⟩ := hE.at hA
     refine hK46 _ _ (sq fun K66 hK66 => sq fun K67 hK67 => pl0 (plc hE (.r 0 1 .nil) (fun a hE => pld (hK67 _ _ (wp_block ?_)))))
     refine wp_loop_ghost (fun kq79 a w' => ∃ (G : Nat → Value) (A70 : Option Addr) (c71 : Nat) (l72 : List Int) (A73 : Option Addr) (c74 : Nat) (l75 : List Ar3_i64) (x76 : Int) (F77 : World), kq79 ≤ k63 ∧ Env 144 G a ∧ At G [(0, .slice A0_0 x0_.length c0_0), (1, .slice (some ad34) x1_.length c1_0), (2, .int .i64 x2_), (3, .int .i64 x3_), (9, .slice A16 l18.length c17), (10, .slice A70 l72.length c71), (11, .int .i64 x22), (12, .pointer (some ⟨b38, 0, none⟩)), (13, .slice A73 l75.length c74), (14, .int .i64 x76)] ∧ St W (mine W []) F w' F77 [box b38 #[.int .i64 ((nth qH.z x1_ x22).f0), .int .i64 ((nth qH.z x1_ x22).f1), .int .i64 ((nth qH.z x1_ x22).f2)] 175, row Ar3_i64.k 176 (.slice A16 l18.length c17) l18, row (Kn.int .i64) 3 (.slice A70 l72.length c71) l72, row Ar3_i64.k 176 (.slice A73 l75.length c74) l75] ∧ Rd qA.k F77 A0_0 c0_0 x0_ ∧ Rd qH.k F77 (some ad34) c1_0 x1_ ∧  qE.l78 kq79 x0_ x1_ x2_ x3_ l18 x22 l72 l75 x76 = some r) k63 ⟨_, A19, c20, l21, A58, c59, l60, 0, F23, Nat.le_refl _, hE, .of, hS, g0_0, g1_0, H⟩ ?_
     rintro kq79 a u81 ⟨G, A70, c71, l72, A73, c74, l75, x76, F77, hkq, hE, hA, hS, g0_0, g1_0, H⟩
     cases kq79 with
     | zero => cases (show none = some r from H)
     | succ k80 =>
      rw [qE.l78_s] at H
      obtain ⟨J, hE⟩ := hE.at hA
      refine sq fun K82 hK82 => sq fun K83 hK83 => pl0 (plc hE (.r 0 4 .nil) (fun a hE => pld (hK83 _ _ ?_)))
      rcases sp H with ⟨c84, H⟩ | ⟨c84, H⟩
      ·
       replace hE := hE.kt 45 c84
       refine ct hE (wp_skip (hK82 _ _ (sq fun K85 hK85 => wp_block (sq fun K86 hK86 => pl0 ?_))))
       obtain ⟨c87, H⟩ := gd H
       have hr88 := hS.row_at (i := 1) rfl
       have hE_ := hE
       obtain ⟨b89, rfl⟩ := qCI hr88 c87.1 c87.2
       replace hE := hE_
       have hr_ := hS.row_at (i := 1) rfl
       obtain ⟨cs91, rfl, hc92⟩ := qCG hr_ Ar3_i64.z x76 c87.1 c87.2
       refine plc hE (.r 0 2 <| .x 2 c87 <| .cs 3 hc92 <| .nil) (fun a hE => ple hE (.al (t := 176) hS [.int .i64 0, .int .i64 0, .int .i64 0]) ?_)
       rintro _ u94 a ⟨b93, rfl, hb93, hS, hg⟩ hE
       refine ple hE (.sto hS [.int .i64 ((nth Ar3_i64.z l18 x76).f0), .int .i64 ((nth Ar3_i64.z l18 x76).f1), .int .i64 ((nth Ar3_i64.z l18 x76).f2)]) ?_
       rintro _ u95 a ⟨rfl, hb93, hS, hz⟩ hE
       refine pld (hK86 _ _ (sq fun K96 hK96 => sq fun K97 hK97 => pl0 ?_))
       have hb38 := hS.blk_at (i := 1) rfl
       refine plc hE (.r 0 1 <| .b 1 0 hb38 <| .r 2 1 <| .nil) (fun a hE => pld (hK97 _ _ ?_))
       rcases sp H with ⟨c98, H⟩ | ⟨c98, H⟩
       ·
        replace hE := hE.kt 54 c98
        refine ct hE (sq fun K99 hK99 => pl0 (plc hE (.r 0 1 .nil) (fun a hE => pld (hK99 _ _ (sq fun K100 hK100 => sq fun K101 hK101 => pl0 (plc hE (.r 0 1 .nil) (fun a hE => pld (hK101 _ _ (wp_block ?_)))))))))
        refine wp_loop_ghost (fun kq105 a w' => ∃ (G : Nat → Value) (y102 : Bool) (x103 : Int), kq105 ≤ k80 ∧ Env 144 G a ∧ At G [(0, .slice A0_0 x0_.length c0_0), (1, .slice (some ad34) x1_.length c1_0), (2, .int .i64 x2_), (3, .int .i64 x3_), (9, .slice (some ⟨b89, 0, none⟩) l18.length c17), (10, .slice A70 l72.length c71), (11, .int .i64 x22), (12, .pointer (some ⟨b38, 0, none⟩)), (13, .slice A73 l75.length c74), (14, .int .i64 x76), (15, .pointer (some ⟨b93, 0, none⟩)), (16, .bool y102), (17, .int .i64 x103)] ∧ St W (mine W []) F w' F77 [box b93 #[.int .i64 ((nth Ar3_i64.z l18 x76).f0), .int .i64 ((nth Ar3_i64.z l18 x76).f1), .int .i64 ((nth Ar3_i64.z l18 x76).f2)] 176, box b38 #[.int .i64 ((nth qH.z x1_ x22).f0), .int .i64 ((nth qH.z x1_ x22).f1), .int .i64 ((nth qH.z x1_ x22).f2)] 175, row Ar3_i64.k 176 (.slice (some ⟨b89, 0, none⟩) l18.length c17) l18, row (Kn.int .i64) 3 (.slice A70 l72.length c71) l72, row Ar3_i64.k 176 (.slice A73 l75.length c74) l75] ∧  qE.l104 kq105 x0_ x1_ x2_ x3_ l18 x22 l72 l75 x76 y102 x103 = some r) k80 ⟨_, false, 0, Nat.le_refl _, hE, .of, hS, H⟩ ?_
        rintro kq105 a u107 ⟨G, y102, x103, hkq, hE, hA, hS, H⟩
        cases kq105 with
        | zero => cases (show none = some r from H)
        | succ k106 =>
         rw [qE.l104_s] at H
         obtain ⟨J, hE⟩ := hE.at hA
         refine sq fun K108 hK108 => sq fun K109 hK109 => pl0 (plc hE (.r 0 4 .nil) (fun a hE => pld (hK109 _ _ ?_)))
         rcases sp H with ⟨c110, H⟩ | ⟨c110, H⟩
         ·
          replace hE := hE.kt 58 c110
          refine ct hE (wp_skip (hK108 _ _ (sq fun K111 hK111 => wp_block ?_)))
          refine drawn 11 ⟨[], [], fun q => False⟩ mixed rfl (by kernel_rfl) (fun hst => ?_)
          replace hS := hS.drew
          refine mny 9 hst hE (.r 0 2 .nil) (fun a hE => ?_)
          rcases sp H with ⟨c112, H⟩ | ⟨c112, H⟩
          ·
           replace hE := hE.bt 16 c112
           replace hE := hE.bt 62 c112
           refine mny 0 hst hE (.r 2 9 .nil) (fun a hE => ?_)
           refine dn ?_
           refine qCD ?_
           refine hK111 _ _ (pl0 (plc hE (.r 0 3 .nil) (fun a hE => pld ?_)))
           exact qCE ⟨k106, by omega, _, true, (w64 (x103 + 1)), by omega, hE, .of, hS, H⟩
          ·
           replace hE := hE.bf 16 c112
           replace hE := hE.bf 62 c112
           obtain ⟨c113, H⟩ := gd H
           have hr114 := hS.row_at (i := 3) rfl
           have hE_ := hE
           obtain ⟨b115, rfl⟩ := qCI hr114 c113.1 c113.2
           replace hE := hE_
           have hr_ := hS.row_at (i := 3) rfl
           obtain ⟨cs117, rfl, hc118⟩ := qCG hr_ 0 x103 c113.1 c113.2
           have hb93 := hS.blk_at (i := 0) rfl
           refine mny 0 hst hE (.r 2 2 <| .x 4 c113 <| .c 5 (hc118 0 _ rfl) <| .r 6 1 <| .b 7 2 hb93 <| .r 8 3 <| .nil) (fun a hE => ?_)
           refine dn ?_
           refine qCD ?_
           refine hK111 _ _ (pl0 (plc hE (.r 0 3 .nil) (fun a hE => pld ?_)))
           exact qCE ⟨k106, by omega, _, ((nth 0 l72 x103) == (nth Ar3_i64.z l18 x76).f2), (w64 (x103 + 1)), by omega, hE, .of, hS, H⟩
         ·
          replace hE := hE.kf 58 c110
          refine cf hE ?_
          refine wp_exit ?_
          refine hK100 _ _ (sq fun K119 hK119 => sq fun K120 hK120 => ?_)
          have J126 : ∀ kq124, kq124 ≤ k106 → ∀ (G : Nat → Value) (y122 : Bool) (a : Act) (w' : World), Env 144 G a → At G [(0, .slice A0_0 x0_.length c0_0), (1, .slice (some ad34) x1_.length c1_0), (2, .int .i64 x2_), (3, .int .i64 x3_), (9, .slice (some ⟨b89, 0, none⟩) l18.length c17), (10, .slice A70 l72.length c71), (11, .int .i64 x22), (12, .pointer (some ⟨b38, 0, none⟩)), (13, .slice A73 l75.length c74), (14, .int .i64 x76), (15, .pointer (some ⟨b93, 0, none⟩)), (78, .bool y122)] → St W (mine W []) F w' F77 [box b93 #[.int .i64 ((nth Ar3_i64.z l18 x76).f0), .int .i64 ((nth Ar3_i64.z l18 x76).f1), .int .i64 ((nth Ar3_i64.z l18 x76).f2)] 176, box b38 #[.int .i64 ((nth qH.z x1_ x22).f0), .int .i64 ((nth qH.z x1_ x22).f1), .int .i64 ((nth qH.z x1_ x22).f2)] 175, row Ar3_i64.k 176 (.slice (some ⟨b89, 0, none⟩) l18.length c17) l18, row (Kn.int .i64) 3 (.slice A70 l72.length c71) l72, row Ar3_i64.k 176 (.slice A73 l75.length c74) l75] → qE.j123 kq124 x0_ x1_ x2_ x3_ l18 x22 l72 l75 x76 y122 = some r → K120 a w' := by
           intro kq124 hkq G y122 a u127 hE hA hS H
           cases kq124 with
           | zero => cases (show none = some r from H)
           | succ k125 =>
            rw [qE.j123_s] at H
            obtain ⟨J, hE⟩ := hE.at hA
            refine hK120 _ _ ?_
            rcases sp H with ⟨c128, H⟩ | ⟨c128, H⟩
            ·
             replace hE := hE.bt 78 c128
             refine ct hE (pl0 ?_)
             have hb93 := hS.blk_at (i := 0) rfl
             refine plc hE (.r 0 2 <| .b 2 2 hb93 <| .nil) (fun a hE => ple hE (.lit (d := (Kn.int .i64)) (e := 3) hS [(nth Ar3_i64.z l18 x76).f2] (.cons rfl .nil)) ?_)
             rintro _ u129 a ⟨A130, c131, rfl, hS, hg⟩ hE
             obtain ⟨c133, H⟩ := gd H
             replace hS := hS.front 4 rfl
             refine ple hE (.ap (d := (Kn.int .i64)) 8 hS (qCM (hS.row_at (i := 1) rfl)) c133 c131) ?_
             rintro _ u136 a ⟨A134, c135, rfl, hS, hz⟩ hE
             refine plc hE (.r 5 1 .nil) (fun a hE => pld (hK119 _ _ ?_))
             refine wp_exit ?_
             refine hK85 _ _ (pl0 (plc hE (.r 0 3 .nil) (fun a hE => pld ?_)))
             replace hS := hS.front 1 rfl
             replace hS := hS.tail
             replace hS := hS.front 1 rfl
             replace hS := hS.tail
             replace hS := hS.front 3 rfl
             replace hS := hS.front 1 rfl
             replace hS := hS.front 3 rfl
             replace hS := hS.front 3 rfl
             exact qCE ⟨k125, by omega, _, A134, c135, (l72 ++ [(nth Ar3_i64.z l18 x76).f2]), A73, c74, l75, (w64 (x76 + 1)), F77, by omega, hE, .of, hS, g0_0, g1_0, H⟩
            ·
             replace hE := hE.bf 78 c128
             refine cf hE (wp_skip (hK119 _ _ ?_))
             refine wp_exit ?_
             refine hK85 _ _ (pl0 (plc hE (.r 0 3 .nil) (fun a hE => pld ?_)))
             replace hS := hS.tail
             exact qCE ⟨k125, by omega, _, A70, c71, l72, A73, c74, l75, (w64 (x76 + 1)), F77, by omega, hE, .of, hS, g0_0, g1_0, H⟩
          refine pl0 (plc hE (.r 0 3 .nil) (fun a hE => ?_))
          rcases sp H with ⟨c121, H⟩ | ⟨c121, H⟩
          ·
           replace hE := hE.btn 73 c121
           refine plc hE (.r 3 5 .nil) (fun a hE => pld ?_)
           exact J126 _ (by omega) _ false _ _ hE .of hS H
          ·
           replace hE := hE.bfn 73 c121
           refine plc hE (.r 3 5 .nil) (fun a hE => pld ?_)
           exact J126 _ (by omega) _ (decide ((l72.length : Int) < x3_)) _ _ hE .of hS H
       ·
        replace hE := hE.kf 54 c98
        refine cf hE (wp_skip (hK96 _ _ (sq fun K137 hK137 => pl0 (plc hE (.r 0 2 <| .b 2 0 hb93 <| .r 3 1 <| .b 4 1 hb93 <| .nil) (fun a hE => ?_)))))
        obtain ⟨t139, h140, H⟩ := bd H
        refine ple hE (.cl en168 (qi.calls k80 x0_ ((nth Ar3_i64.z l18 x76).f0) ((nth Ar3_i64.z l18 x76).f1) _ _ _ _ _ hS.own.sub g0_0 h140)) ?_
        rintro _ u138 a ⟨F141, A142, c143, rfl, hC⟩ hE
        have hs := hC.sub
        replace hS := hS.called (X := []) hC
        replace g0_0 := g0_0.mono hs
        replace g1_0 := g1_0.mono hs
        refine plc hE (.r 6 1 .nil) (fun a hE => pld (hK137 _ _ (sq fun K146 hK146 => ?_)))
        have J165 : ∀ kq163, kq163 ≤ k80 → ∀ (G : Nat → Value) (A158 : Option Addr) (c159 : Nat) (l160 : List qB) (F161 : World) (a : Act) (w' : World), Env 144 G a → At G [(0, .slice A0_0 x0_.length c0_0), (1, .slice (some ad34) x1_.length c1_0), (2, .int .i64 x2_), (3, .int .i64 x3_), (9, .slice (some ⟨b89, 0, none⟩) l18.length c17), (10, .slice A70 l72.length c71), (11, .int .i64 x22), (12, .pointer (some ⟨b38, 0, none⟩)), (13, .slice A73 l75.length c74), (14, .int .i64 x76), (15, .pointer (some ⟨b93, 0, none⟩)), (18, .slice A158 l160.length c159)] → St W (mine W []) F w' F161 [box b93 #[.int .i64 ((nth Ar3_i64.z l18 x76).f0), .int .i64 ((nth Ar3_i64.z l18 x76).f1), .int .i64 ((nth Ar3_i64.z l18 x76).f2)] 176, box b38 #[.int .i64 ((nth qH.z x1_ x22).f0), .int .i64 ((nth qH.z x1_ x22).f1), .int .i64 ((nth qH.z x1_ x22).f2)] 175, row Ar3_i64.k 176 (.slice (some ⟨b89, 0, none⟩) l18.length c17) l18, row (Kn.int .i64) 3 (.slice A70 l72.length c71) l72, row Ar3_i64.k 176 (.slice A73 l75.length c74) l75, row qB.k 216 (.slice A158 l160.length c159) l160] → Rd qA.k F161 A0_0 c0_0 x0_ → Rd qH.k F161 (some ad34) c1_0 x1_ → qE.j162 kq163 x0_ x1_ x2_ x3_ l18 x22 l72 l75 x76 l160 = some r → K146 a w' := by
         intro kq163 hkq G A158 c159 l160 F161 a u166 hE hA hS g0_0 g1_0 H
         cases kq163 with
         | zero => cases (show none = some r from H)
         | succ k164 =>
          rw [qE.j162_s] at H
          obtain ⟨J, hE⟩ := hE.at hA
          refine hK146 _ _ (sq fun K167 hK167 => ?_)
          have J186 : ∀ kq184, kq184 ≤ k164 → ∀ (G : Nat → Value) (A179 : Option Addr) (c180 : Nat) (l181 : List qB) (F182 : World) (a : Act) (w' : World), Env 144 G a → At G [(0, .slice A0_0 x0_.length c0_0), (1, .slice (some ad34) x1_.length c1_0), (2, .int .i64 x2_), (3, .int .i64 x3_), (9, .slice (some ⟨b89, 0, none⟩) l18.length c17), (10, .slice A70 l72.length c71), (11, .int .i64 x22), (12, .pointer (some ⟨b38, 0, none⟩)), (13, .slice A73 l75.length c74), (14, .int .i64 x76), (15, .pointer (some ⟨b93, 0, none⟩)), (18, .slice A179 l181.length c180)] → St W (mine W []) F w' F182 [box b93 #[.int .i64 ((nth Ar3_i64.z l18 x76).f0), .int .i64 ((nth Ar3_i64.z l18 x76).f1), .int .i64 ((nth Ar3_i64.z l18 x76).f2)] 176, box b38 #[.int .i64 ((nth qH.z x1_ x22).f0), .int .i64 ((nth qH.z x1_ x22).f1), .int .i64 ((nth qH.z x1_ x22).f2)] 175, row Ar3_i64.k 176 (.slice (some ⟨b89, 0, none⟩) l18.length c17) l18, row (Kn.int .i64) 3 (.slice A70 l72.length c71) l72, row Ar3_i64.k 176 (.slice A73 l75.length c74) l75, row qB.k 216 (.slice A179 l181.length c180) l181] → Rd qA.k F182 A0_0 c0_0 x0_ → Rd qH.k F182 (some ad34) c1_0 x1_ → qE.j183 kq184 x0_ x1_ x2_ x3_ l18 x22 l72 l75 x76 l181 = some r → K167 a w' := by
           intro kq184 hkq G A179 c180 l181 F182 a u187 hE hA hS g0_0 g1_0 H
           cases kq184 with
           | zero => cases (show none = some r from H)
           | succ k185 =>
            rw [qE.j183_s] at H
            obtain ⟨J, hE⟩ := hE.at hA
            refine hK167 _ _ (sq fun K188 hK188 => pl0 ?_)
            have hb38 := hS.blk_at (i := 1) rfl
            have hb93 := hS.blk_at (i := 0) rfl
            refine plc hE (.r 0 3 <| .b 3 1 hb38 <| .r 4 2 <| .b 6 0 hb93 <| .r 7 2 <| .b 9 1 hb93 <| .r 10 1 <| .nil) (fun a hE => ple hE (.lit (d := (Kn.int .u64)) (e := 182) hS [(IntKind.u64.wrap (nth qH.z x1_ x22).f1), (IntKind.u64.wrap (nth Ar3_i64.z l18 x76).f0), (IntKind.u64.wrap (nth Ar3_i64.z l18 x76).f1)] (.cons rfl <| .cons rfl <| .cons rfl .nil)) ?_)
            rintro _ u189 a ⟨A190, c191, rfl, hS, hg⟩ hE
            obtain ⟨t194, h195, H⟩ := bd H
            refine ple hE (.cl en172 (qAM.calls k185 (IntKind.u64.wrap x2_) [(IntKind.u64.wrap (nth qH.z x1_ x22).f1), (IntKind.u64.wrap (nth Ar3_i64.z l18 x76).f0), (IntKind.u64.wrap (nth Ar3_i64.z l18 x76).f1)] _ _ _ _ _ (Sub.refl _) (hS.rd_at (i := 0) rfl) h195)) ?_
            rintro _ u193 a ⟨_, rfl, hC⟩ hE
            replace hS := hS.lent hC
            refine plc hE (.r 13 1 .nil) (fun a hE => ?_)
            replace hS := hS.front 6 rfl
            obtain ⟨F196, hs, g197, hS⟩ := hS.give
            replace g0_0 := g0_0.mono hs
            replace g1_0 := g1_0.mono hs
            obtain ⟨t199, h200, H⟩ := bd H
            refine ple hE (.cl en171 (qAU.calls k185 t194 l181 _ _ _ _ _ hS.own.sub g197 h200)) ?_
            rintro _ u198 a ⟨F201, A202, c203, rfl, hC⟩ hE
            have hs := hC.sub
            replace hS := hS.called (X := []) hC
            replace g0_0 := g0_0.mono hs
            replace g1_0 := g1_0.mono hs
            replace g197 := g197.mono hs
            refine plc hE (.r 15 1 .nil) (fun a hE => pld (hK188 _ _ (sq fun K206 hK206 => pl0 (plc hE (.r 0 1 .nil) (fun a hE => pld (hK206 _ _ (wp_block ?_)))))))
            replace hS := hS.front 1 rfl
            replace hS := hS.tail
            replace hS := hS.front 5 rfl
            replace hS := hS.front 5 rfl
            replace hS := hS.front 5 rfl
            replace hS := hS.front 3 rfl
            replace hS := hS.front 5 rfl
            replace hS := hS.front 5 rfl
            refine wp_loop_ghost (fun kq213 a w' => ∃ (G : Nat → Value) (A208 : Option Addr) (c209 : Nat) (l210 : List Ar3_i64) (x211 : Int), kq213 ≤ k185 ∧ Env 144 G a ∧ At G [(0, .slice A0_0 x0_.length c0_0), (1, .slice (some ad34) x1_.length c1_0), (2, .int .i64 x2_), (3, .int .i64 x3_), (9, .slice (some ⟨b89, 0, none⟩) l18.length c17), (10, .slice A70 l72.length c71), (11, .int .i64 x22), (12, .pointer (some ⟨b38, 0, none⟩)), (13, .slice A208 l210.length c209), (14, .int .i64 x76), (15, .pointer (some ⟨b93, 0, none⟩)), (19, .slice A202 t199.length c203), (20, .int .i64 x211)] ∧ St W (mine W []) F w' F201 [box b93 #[.int .i64 ((nth Ar3_i64.z l18 x76).f0), .int .i64 ((nth Ar3_i64.z l18 x76).f1), .int .i64 ((nth Ar3_i64.z l18 x76).f2)] 176, box b38 #[.int .i64 ((nth qH.z x1_ x22).f0), .int .i64 ((nth qH.z x1_ x22).f1), .int .i64 ((nth qH.z x1_ x22).f2)] 175, row (Kn.int .i64) 3 (.slice A202 t199.length c203) t199, row Ar3_i64.k 176 (.slice (some ⟨b89, 0, none⟩) l18.length c17) l18, row (Kn.int .i64) 3 (.slice A70 l72.length c71) l72, row Ar3_i64.k 176 (.slice A208 l210.length c209) l210] ∧  qE.l212 kq213 x0_ x1_ x2_ x3_ l18 x22 l72 x76 t199 l210 x211 = some r) k185 ⟨_, A73, c74, l75, 0, Nat.le_refl _, hE, .of, hS, H⟩ ?_
            rintro kq213 a u215 ⟨G, A208, c209, l210, x211, hkq, hE, hA, hS, H⟩
            cases kq213 with
            | zero => cases (show none = some r from H)
            | succ k214 =>
             rw [qE.l212_s] at H
             obtain ⟨J, hE⟩ := hE.at hA
             refine sq fun K216 hK216 => sq fun K217 hK217 => ?_
             have J223 : ∀ kq221, kq221 ≤ k214 → ∀ (G : Nat → Value) (y219 : Bool) (a : Act) (w' : World), Env 144 G a → At G [(0, .slice A0_0 x0_.length c0_0), (1, .slice (some ad34) x1_.length c1_0), (2, .int .i64 x2_), (3, .int .i64 x3_), (9, .slice (some ⟨b89, 0, none⟩) l18.length c17), (10, .slice A70 l72.length c71), (11, .int .i64 x22), (12, .pointer (some ⟨b38, 0, none⟩)), (13, .slice A208 l210.length c209), (14, .int .i64 x76), (15, .pointer (some ⟨b93, 0, none⟩)), (19, .slice A202 t199.length c203), (20, .int .i64 x211), (126, .bool y219)] → St W (mine W []) F w' F201 [box b93 #[.int .i64 ((nth Ar3_i64.z l18 x76).f0), .int .i64 ((nth Ar3_i64.z l18 x76).f1), .int .i64 ((nth Ar3_i64.z l18 x76).f2)] 176, box b38 #[.int .i64 ((nth qH.z x1_ x22).f0), .int .i64 ((nth qH.z x1_ x22).f1), .int .i64 ((nth qH.z x1_ x22).f2)] 175, row (Kn.int .i64) 3 (.slice A202 t199.length c203) t199, row Ar3_i64.k 176 (.slice (some ⟨b89, 0, none⟩) l18.length c17) l18, row (Kn.int .i64) 3 (.slice A70 l72.length c71) l72, row Ar3_i64.k 176 (.slice A208 l210.length c209) l210] → qE.j220 kq221 x0_ x1_ x2_ x3_ l18 x22 l72 x76 t199 l210 x211 y219 = some r → K217 a w' := by
              intro kq221 hkq G y219 a u224 hE hA hS H
              cases kq221 with
              | zero => cases (show none = some r from H)
              | succ k222 =>
               rw [qE.j220_s] at H
               obtain ⟨J, hE⟩ := hE.at hA
               refine hK217 _ _ ?_
               rcases sp H with ⟨c225, H⟩ | ⟨c225, H⟩
               ·
                replace hE := hE.bt 126 c225
                refine ct hE (wp_skip (hK216 _ _ (sq fun K226 hK226 => wp_block (sq fun K227 hK227 => pl0 ?_))))
                have hb93 := hS.blk_at (i := 0) rfl
                refine plc hE (.bn 0 0 3 hb93 .nil) (fun a hE => ple hE (.al (t := 176) hS [.int .i64 0, .int .i64 0, .int .i64 0]) ?_)
                rintro _ u229 a ⟨b228, rfl, hb228, hS, hg⟩ hE
                refine ple hE (.sto hS [.int .i64 ((nth Ar3_i64.z l18 x76).f0), .int .i64 ((nth Ar3_i64.z l18 x76).f1), .int .i64 ((nth Ar3_i64.z l18 x76).f2)]) ?_
                rintro _ u230 a ⟨rfl, hb228, hS, hz⟩ hE
                refine pld (hK227 _ _ (sq fun K231 hK231 => ?_))
                have J250 : ∀ kq248, kq248 ≤ k222 → ∀ (G : Nat → Value) (x244 : Int) (x245 : Int) (x246 : Int) (a : Act) (w' : World), Env 144 G a → At G [(0, .slice A0_0 x0_.length c0_0), (1, .slice (some ad34) x1_.length c1_0), (2, .int .i64 x2_), (3, .int .i64 x3_), (9, .slice (some ⟨b89, 0, none⟩) l18.length c17), (10, .slice A70 l72.length c71), (11, .int .i64 x22), (12, .pointer (some ⟨b38, 0, none⟩)), (13, .slice A208 l210.length c209), (14, .int .i64 x76), (15, .pointer (some ⟨b93, 0, none⟩)), (19, .slice A202 t199.length c203), (20, .int .i64 x211), (21, .pointer (some ⟨b228, 0, none⟩))] → St W (mine W []) F w' F201 [box b228 #[.int .i64 x244, .int .i64 x245, .int .i64 x246] 176, box b93 #[.int .i64 ((nth Ar3_i64.z l18 x76).f0), .int .i64 ((nth Ar3_i64.z l18 x76).f1), .int .i64 ((nth Ar3_i64.z l18 x76).f2)] 176, box b38 #[.int .i64 ((nth qH.z x1_ x22).f0), .int .i64 ((nth qH.z x1_ x22).f1), .int .i64 ((nth qH.z x1_ x22).f2)] 175, row (Kn.int .i64) 3 (.slice A202 t199.length c203) t199, row Ar3_i64.k 176 (.slice (some ⟨b89, 0, none⟩) l18.length c17) l18, row (Kn.int .i64) 3 (.slice A70 l72.length c71) l72, row Ar3_i64.k 176 (.slice A208 l210.length c209) l210] → qE.j247 kq248 x0_ x1_ x2_ x3_ l18 x22 l72 x76 t199 l210 x211 x244 x245 x246 = some r → K231 a w' := by
                 intro kq248 hkq G x244 x245 x246 a u251 hE hA hS H
                 cases kq248 with
                 | zero => cases (show none = some r from H)
                 | succ k249 =>
                  rw [qE.j247_s] at H
                  obtain ⟨J, hE⟩ := hE.at hA
                  refine hK231 _ _ (pl0 ?_)
                  have hb228 := hS.blk_at (i := 0) rfl
                  refine plc hE (.r 0 1 <| .bn 1 0 3 hb228 <| .nil) (fun a hE => ple hE (.lit (d := Ar3_i64.k) (e := 176) hS [(⟨x244, x245, x246⟩ : Ar3_i64)] (.cons rfl .nil)) ?_)
                  rintro _ u252 a ⟨A253, c254, rfl, hS, hg⟩ hE
                  obtain ⟨c256, H⟩ := gd H
                  replace hS := hS.front 7 rfl
                  refine ple hE (.ap (d := Ar3_i64.k) 24 hS (qCM (hS.row_at (i := 1) rfl)) c256 c254) ?_
                  rintro _ u259 a ⟨A257, c258, rfl, hS, hz⟩ hE
                  refine plc hE (.r 4 1 .nil) (fun a hE => pld ?_)
                  refine qCD ?_
                  refine hK226 _ _ (pl0 (plc hE (.r 0 3 .nil) (fun a hE => pld ?_)))
                  replace hS := hS.front 1 rfl
                  replace hS := hS.tail
                  replace hS := hS.front 1 rfl
                  replace hS := hS.tail
                  replace hS := hS.front 5 rfl
                  replace hS := hS.front 5 rfl
                  replace hS := hS.front 5 rfl
                  replace hS := hS.front 5 rfl
                  replace hS := hS.front 5 rfl
                  exact qCE ⟨k249, by omega, _, A257, c258, (l210 ++ [(⟨x244, x245, x246⟩ : Ar3_i64)]), (w64 (x211 + 1)), by omega, hE, .of, hS, H⟩
                refine drawn 9 ⟨[8], [], fun q => False⟩ mixed rfl (by kernel_rfl) (fun hst => ?_)
                replace hS := hS.drew
                have hb38 := hS.blk_at (i := 2) rfl
                obtain ⟨c232, H⟩ := gd H
                have hr233 := hS.row_at (i := 3) rfl
                have hE_ := hE
                obtain ⟨b234, rfl⟩ := qCI hr233 c232.1 c232.2
                replace hE := hE_
                have hr_ := hS.row_at (i := 3) rfl
                obtain ⟨cs236, rfl, hc237⟩ := qCG hr_ 0 x211 c232.1 c232.2
                refine mny 2 hst hE (.r 0 1 <| .b 1 1 hb38 <| .r 2 3 <| .x 5 c232 <| .c 6 (hc237 0 _ rfl) <| .nil) (fun a hE => ?_)
                rcases sp H with ⟨c238, H⟩ | ⟨c238, H⟩
                ·
                 replace hE := hE.set (d := 132) (v := .int .i64 0) (Eq.trans (b := .int .i64 (w64 ((nth qH.z x1_ x22).f1 - 1))) (by kernel_rfl) (congrArg _ c238))
                 refine mny 1 hst hE (.r 7 1 .nil) (fun a hE => ?_)
                 refine on1 8 hE (.sto hS [.int .i64 (nth 0 t199 x211), .int .i64 ((nth Ar3_i64.z l18 x76).f1), .int .i64 ((nth Ar3_i64.z l18 x76).f2)]) ?_
                 rintro _ u239 a ⟨rfl, hb228, hS, hz⟩ hE
                 refine ⟨.d, ?_⟩
                 refine dn ?_
                 exact J250 _ (by omega) _ (nth 0 t199 x211) ((nth Ar3_i64.z l18 x76).f1) ((nth Ar3_i64.z l18 x76).f2) _ _ hE .of hS H
                ·
                 rcases sp H with ⟨c240, H⟩ | ⟨c240, H⟩
                 ·
                  replace hE := hE.set (d := 132) (v := .int .i64 1) (Eq.trans (b := .int .i64 (w64 ((nth qH.z x1_ x22).f1 - 1))) (by kernel_rfl) (congrArg _ c240))
                  refine mny 1 hst hE (.r 7 1 .nil) (fun a hE => ?_)
                  refine on1 8 hE (.sto hS [.int .i64 ((nth Ar3_i64.z l18 x76).f0), .int .i64 (nth 0 t199 x211), .int .i64 ((nth Ar3_i64.z l18 x76).f2)]) ?_
                  rintro _ u241 a ⟨rfl, hb228, hS, hz⟩ hE
                  refine ⟨.d, ?_⟩
                  refine dn ?_
                  exact J250 _ (by omega) _ ((nth Ar3_i64.z l18 x76).f0) (nth 0 t199 x211) ((nth Ar3_i64.z l18 x76).f2) _ _ hE .of hS H
                 ·
                  rcases sp H with ⟨c242, H⟩ | ⟨c242, H⟩
                  ·
                   replace hE := hE.set (d := 132) (v := .int .i64 2) (Eq.trans (b := .int .i64 (w64 ((nth qH.z x1_ x22).f1 - 1))) (by kernel_rfl) (congrArg _ c242))
                   refine mny 1 hst hE (.r 7 1 .nil) (fun a hE => ?_)
                   refine on1 8 hE (.sto hS [.int .i64 ((nth Ar3_i64.z l18 x76).f0), .int .i64 ((nth Ar3_i64.z l18 x76).f1), .int .i64 (nth 0 t199 x211)]) ?_
                   rintro _ u243 a ⟨rfl, hb228, hS, hz⟩ hE
                   refine ⟨.d, ?_⟩
                   refine dn ?_
                   exact J250 _ (by omega) _ ((nth Ar3_i64.z l18 x76).f0) ((nth Ar3_i64.z l18 x76).f1) (nth 0 t199 x211) _ _ hE .of hS H
                  ·
                   cases (show none = some r from H)
               ·
                replace hE := hE.bf 126 c225
                refine cf hE ?_
                refine wp_exit ?_
                refine hK85 _ _ (pl0 (plc hE (.r 0 3 .nil) (fun a hE => pld ?_)))
                replace hS := hS.tail
                replace hS := hS.front 1 rfl
                replace hS := hS.tail
                exact qCE ⟨k222, by omega, _, A70, c71, l72, A208, c209, l210, (w64 (x76 + 1)), F201, by omega, hE, .of, hS, g0_0, g1_0, H⟩
             refine pl0 (plc hE (.r 0 5 .nil) (fun a hE => ?_))
             rcases sp H with ⟨c218, H⟩ | ⟨c218, H⟩
             ·
              replace hE := hE.kt 121 c218
              have hb38 := hS.blk_at (i := 1) rfl
              refine plc hE (.r 5 2 <| .b 7 2 hb38 <| .r 8 2 <| .nil) (fun a hE => pld ?_)
              exact J223 _ (by omega) _ (decide (x211 < (nth qH.z x1_ x22).f2)) _ _ hE .of hS H
             ·
              replace hE := hE.kf 121 c218
              refine plc hE (.r 5 5 .nil) (fun a hE => pld ?_)
              exact J223 _ (by omega) _ false _ _ hE .of hS H
          refine sq fun K168 hK168 => pl0 ?_
          have hb38 := hS.blk_at (i := 1) rfl
          refine plc hE (.r 0 1 <| .b 1 1 hb38 <| .r 2 1 <| .nil) (fun a hE => pld (hK168 _ _ ?_))
          rcases sp H with ⟨c169, H⟩ | ⟨c169, H⟩
          ·
           replace hE := hE.kt 97 c169
           refine ct hE (pl0 ?_)
           have hb93 := hS.blk_at (i := 0) rfl
           refine plc hE (.r 0 2 <| .b 2 0 hb93 <| .nil) (fun a hE => ?_)
           obtain ⟨t171, h172, H⟩ := bd H
           refine ple hE (.cl en170 (qAI.calls k164 x0_ ((nth Ar3_i64.z l18 x76).f0) _ _ _ _ _ hS.own.sub g0_0 h172)) ?_
           rintro _ u170 a ⟨F173, A174, c175, rfl, hC⟩ hE
           have hs := hC.sub
           replace hS := hS.called (X := []) hC
           replace g0_0 := g0_0.mono hs
           replace g1_0 := g1_0.mono hs
           refine plc hE (.r 4 1 .nil) (fun a hE => pld ?_)
           replace hS := hS.front 6 rfl
           replace hS := hS.tail
           replace hS := hS.front 5 rfl
           replace hS := hS.front 5 rfl
           replace hS := hS.front 5 rfl
           replace hS := hS.front 5 rfl
           replace hS := hS.front 5 rfl
           exact J186 _ (by omega) _ A174 c175 t171 F173 _ _ hE .of hS g0_0 g1_0 H
          ·
           replace hE := hE.kf 97 c169
           refine cf hE (wp_skip ?_)
           exact J186 _ (by omega) _ A158 c159 l160 F161 _ _ hE .of hS g0_0 g1_0 H
        refine sq fun K147 hK147 => pl0 ?_
        have hb38 := hS.blk_at (i := 2) rfl
        refine plc hE (.r 0 1 <| .b 1 1 hb38 <| .r 2 1 <| .nil) (fun a hE => pld (hK147 _ _ ?_))
        rcases sp H with ⟨c148, H⟩ | ⟨c148, H⟩
        ·
         replace hE := hE.kt 92 c148
         refine ct hE (pl0 (plc hE (.r 0 1 .nil) (fun a hE => ?_)))
         obtain ⟨t150, h151, H⟩ := bd H
         refine ple hE (.cl en169 (qAQ.calls k80 x0_ _ _ _ _ _ hS.own.sub g0_0 h151)) ?_
         rintro _ u149 a ⟨F152, A153, c154, rfl, hC⟩ hE
         have hs := hC.sub
         replace hS := hS.called (X := []) hC
         replace g0_0 := g0_0.mono hs
         replace g1_0 := g1_0.mono hs
         refine plc hE (.r 2 1 .nil) (fun a hE => pld ?_)
         replace hS := hS.front 1 rfl
         replace hS := hS.tail
         replace hS := hS.front 5 rfl
         replace hS := hS.front 5 rfl
         replace hS := hS.front 5 rfl
         replace hS := hS.front 5 rfl
         replace hS := hS.front 5 rfl
         exact J165 _ (by omega) _ A153 c154 t150 F152 _ _ hE .of hS g0_0 g1_0 H
        ·
         replace hE := hE.kf 92 c148
         refine cf hE (wp_skip ?_)
         replace hS := hS.front 5 rfl
         replace hS := hS.front 5 rfl
         replace hS := hS.front 5 rfl
         replace hS := hS.front 5 rfl
         replace hS := hS.front 5 rfl
         exact J165 _ (by omega) _ A142 c143 t139 F141 _ _ hE .of hS g0_0 g1_0 H
      ·
       replace hE := hE.kf 45 c84
       refine cf hE ?_
       refine wp_exit ?_
       refine hK66 _ _ (pl0 (plc hE (.r 0 2 .nil) (fun a hE => pld ?_)))
       refine qCD ?_
       refine hK31 _ _ (pl0 (plc hE (.r 0 3 .nil) (fun a hE => pld ?_)))
       replace hS := hS.tail
       replace hS := hS.tail
       replace hS := hS.front 1 rfl
       exact qCE ⟨k80, by omega, _, A73, c74, l75, A70, c71, l72, (w64 (x22 + 1)), F77, by omega, hE, .of, hS, g0_0, g1_0, H⟩
   refine sq fun K47 hK47 => pl0 ?_
   have hb38 := hS.blk_at (i := 1) rfl
   refine plc hE (.r 0 1 <| .b 1 0 hb38 <| .r 2 1 <| .nil) (fun a hE => pld (hK47 _ _ ?_))
   rcases sp H with ⟨c48, H⟩ | ⟨c48, H⟩
   ·
    replace hE := hE.kt 37 c48
    refine ct hE (pl0 (plc hE (.r 0 2 .nil) (fun a hE => ple hE (.lit (d := Ar3_i64.k) (e := 176) hS [(⟨0, 0, 0⟩ : Ar3_i64)] (.cons rfl .nil)) ?_)))
    rintro _ u49 a ⟨A50, c51, rfl, hS, hg⟩ hE
    obtain ⟨c53, H⟩ := gd H
    replace hS := hS.front 1 rfl
    refine ple hE (.ap (d := Ar3_i64.k) 24 hS (qCM (hS.row_at (i := 1) rfl)) c53 c51) ?_
    rintro _ u56 a ⟨A54, c55, rfl, hS, hz⟩ hE
    refine plc hE (.r 4 1 .nil) (fun a hE => pld ?_)
    replace hS := hS.front 1 rfl
    replace hS := hS.tail
    replace hS := hS.front 3 rfl
    replace hS := hS.front 3 rfl
    replace hS := hS.front 3 rfl
    exact J64 _ (by omega) _ A54 c55 (([] : List Ar3_i64) ++ [(⟨0, 0, 0⟩ : Ar3_i64)]) _ _ hE .of hS H
   ·
    replace hE := hE.kf 37 c48
    refine cf hE (wp_skip ?_)
    replace hS := hS.front 3 rfl
    replace hS := hS.front 3 rfl
    replace hS := hS.front 3 rfl
    exact J64 _ (by omega) _ A43 c44 ([] : List Ar3_i64) _ _ hE .of hS H
  ·
   replace hE := hE.kf 27 c30
   refine cf hE ?_
   refine wp_exit ?_
   refine hK12 _ _ (sq fun K260 hK260 => pl0 (plc hE (.r 0 2 .nil) (fun a hE => pld (hK260 _ _ (wp_ret ?_)))))
   replace hS := hS.tail
   obtain rfl := si H
   exact rt1 hE ⟨_, rfl, _, _, _, rfl, hS⟩
def qAX.j12 : Nat → List qA → Int → Int → Bool → Option (List Int)
  | 0, _, _, _, _ => none
  | k + 1, x0_, x1_, x2_, y11 => if y11 = true then (some []) else ((qAt.f x2_).bind fun t22 => ((qE.f k x0_ t22 x1_ x2_).bind fun t32 => (some t32)))
theorem qAX.j12_s (k : Nat) (x0_ : List qA) (x1_ : Int) (x2_ : Int) (y11 : Bool) : qAX.j12 (k + 1) x0_ x1_ x2_ y11 = (if y11 = true then (some []) else ((qAt.f x2_).bind fun t22 => ((qE.f k x0_ t22 x1_ x2_).bind fun t32 => (some t32)))) := by kernel_rfl
def qAX.f (k : Nat) (x0_ : List qA) (x1_ : Int) (x2_ : Int) : Option (List Int) := (qg.f k x0_).bind fun t5 => (if t5 = true then (if x1_ < 0 then (qAX.j12 k x0_ x1_ x2_ true) else (if x1_ > 7 then (qAX.j12 k x0_ x1_ x2_ true) else (if x2_ < 1 then (qAX.j12 k x0_ x1_ x2_ true) else (qAX.j12 k x0_ x1_ x2_ (decide (x2_ > 3)))))) else (qAX.j12 k x0_ x1_ x2_ true))
def qAX.Post (W F : World) (r : List Int) (v : Value) (w' : World) : Prop := ∃ (F' : World) (RA0_0 : Option Addr) (rc0_0 : Nat), v = .slice RA0_0 r.length rc0_0 ∧ St W (mine W []) F w' F' [row (Kn.int .i64) 3 (.slice RA0_0 r.length rc0_0) r]
theorem qAX.calls (k : Nat) (x0_ : List qA) (x1_ : Int) (x2_ : Int) (A0_0 : Option Addr) (c0_0 : Nat) (r : List Int) (W F : World) (hown : Sub F W) (g0_0 : Rd qA.k F A0_0 c0_0 x0_) (H : qAX.f k x0_ x1_ x2_ = some r) :
    Calls Tryz.prog 73 #[.slice A0_0 x0_.length c0_0, .int .i64 x1_, .int .i64 x2_] W fun e w' => ∃ v, e = .returned v ∧ qAX.Post W F r v w' := by
 have hS := St.start (Own.nil hown)
 unfold qAX.f at H
 refine enter (n := 32) rfl rfl rfl (Nat.le_of_ble_eq_true rfl) (fun a hE => ?_)
 refine sq fun K1 hK1 => pl0 (plc hE (.r 0 1 .nil) (fun a hE => pld (hK1 _ _ (sq fun K2 hK2 => sq fun K3 hK3 => ?_))))
 have J15 : ∀ kq13, kq13 ≤ k → ∀ (G : Nat → Value) (y11 : Bool) (a : Act) (w' : World), Env 32 G a → At G [(0, .slice A0_0 x0_.length c0_0), (1, .int .i64 x1_), (2, .int .i64 x2_), (25, .bool y11)] → St W (mine W []) F w' F [] → qAX.j12 kq13 x0_ x1_ x2_ y11 = some r → K3 a w' := by
  intro kq13 hkq G y11 a u16 hE hA hS H
  cases kq13 with
  | zero => cases (show none = some r from H)
  | succ k14 =>
   rw [qAX.j12_s] at H
   obtain ⟨J, hE⟩ := hE.at hA
   refine hK3 _ _ ?_
   rcases sp H with ⟨c17, H⟩ | ⟨c17, H⟩
   ·
    replace hE := hE.bt 25 c17
    refine ct hE (sq fun K18 hK18 => pl0 (plc hE (.r 0 1 .nil) (fun a hE => pld (hK18 _ _ (wp_ret (qCB ?_))))))
    replace hS := hS.nilrow (Kn.int .i64) 3
    obtain rfl := si H
    exact rt1 hE ⟨_, rfl, _, _, _, rfl, hS⟩
   ·
    replace hE := hE.bf 25 c17
    refine cf hE (wp_skip (hK2 _ _ (sq fun K20 hK20 => pl0 (plc hE (.r 0 2 .nil) (fun a hE => ?_)))))
    obtain ⟨t22, h23, H⟩ := bd H
    refine ple hE (.cl en124 (qAt.calls x2_ _ _ _ hS.own.sub h23)) ?_
    rintro _ u21 a ⟨F24, A25, c26, rfl, hC⟩ hE
    have hs := hC.sub
    replace hS := hS.called (X := []) hC
    replace g0_0 := g0_0.mono hs
    refine plc hE (.r 3 2 .nil) (fun a hE => ?_)
    obtain ⟨F29, hs, g30, hS⟩ := hS.give
    replace g0_0 := g0_0.mono hs
    obtain ⟨t32, h33, H⟩ := bd H
    refine ple hE (.cl en123 (qE.calls k14 x0_ t22 x1_ x2_ _ _ _ _ _ _ _ hS.own.sub g0_0 g30 h33)) ?_
    rintro _ u31 a ⟨F34, A35, c36, rfl, hC⟩ hE
    have hs := hC.sub
    replace hS := hS.called (X := []) hC
    replace g0_0 := g0_0.mono hs
    replace g30 := g30.mono hs
    refine plc hE (.r 6 1 .nil) (fun a hE => pld (hK20 _ _ (wp_ret ?_)))
    obtain rfl := si H
    exact rt1 hE ⟨_, rfl, _, _, _, rfl, hS⟩
 refine pl0 (plc hE (.r 0 1 .nil) (fun a hE => ?_))
 obtain ⟨t5, h6, H⟩ := bd H
 refine ple hE (.cl en67 (qg.calls k x0_ _ _ _ _ _ hS.own.sub g0_0 h6)) ?_
 rintro _ u4 a ⟨_, rfl, hC⟩ hE
 replace hS := hS.lent hC
 refine plc hE (.r 2 2 .nil) (fun a hE => ?_)
 rcases sp H with ⟨c7, H⟩ | ⟨c7, H⟩
 ·
  replace hE := hE.btn 10 c7
  refine plc hE (.r 4 4 .nil) (fun a hE => ?_)
  rcases sp H with ⟨c8, H⟩ | ⟨c8, H⟩
  ·
   replace hE := hE.kt 14 c8
   refine plc hE (.r 8 11 .nil) (fun a hE => pld ?_)
   exact J15 _ (by omega) _ true _ _ hE .of hS H
  ·
   replace hE := hE.kf 14 c8
   refine plc hE (.r 8 4 .nil) (fun a hE => ?_)
   rcases sp H with ⟨c9, H⟩ | ⟨c9, H⟩
   ·
    replace hE := hE.kt 18 c9
    refine plc hE (.r 12 7 .nil) (fun a hE => pld ?_)
    exact J15 _ (by omega) _ true _ _ hE .of hS H
   ·
    replace hE := hE.kf 18 c9
    refine plc hE (.r 12 4 .nil) (fun a hE => ?_)
    rcases sp H with ⟨c10, H⟩ | ⟨c10, H⟩
    ·
     replace hE := hE.kt 22 c10
     refine plc hE (.r 16 3 .nil) (fun a hE => pld ?_)
     exact J15 _ (by omega) _ true _ _ hE .of hS H
    ·
     replace hE := hE.kf 22 c10
     refine plc hE (.r 16 3 .nil) (fun a hE => pld ?_)
     exact J15 _ (by omega) _ (decide (x2_ > 3)) _ _ hE .of hS H
 ·
  replace hE := hE.bfn 10 c7
  refine plc hE (.r 4 15 .nil) (fun a hE => pld ?_)
  exact J15 _ (by omega) _ true _ _ hE .of hS H
def qAY.j12 : Nat → qJ → Int → Bool → Option (List Int)
  | 0, _, _, _ => none
  | k + 1, x0_, x1_, y11 => if y11 = true then (some []) else ((qAW.f k x0_ x1_).bind fun t22 => (if (t22.length : Int) > 0 then (some t22) else ((qAX.f k x0_.f4 x1_ x0_.f1).bind fun t33 => (some t33))))
theorem qAY.j12_s (k : Nat) (x0_ : qJ) (x1_ : Int) (y11 : Bool) : qAY.j12 (k + 1) x0_ x1_ y11 = (if y11 = true then (some []) else ((qAW.f k x0_ x1_).bind fun t22 => (if (t22.length : Int) > 0 then (some t22) else ((qAX.f k x0_.f4 x1_ x0_.f1).bind fun t33 => (some t33))))) := by kernel_rfl
def qAY.f (k : Nat) (x0_ : qJ) (x1_ : Int) : Option (List Int) := (qW.f k x0_).bind fun t7 => (if t7 = true then (if x1_ < 0 then (qAY.j12 k x0_ x1_ true) else (qAY.j12 k x0_ x1_ (decide (x1_ ≥ x0_.f3)))) else (qAY.j12 k x0_ x1_ true))
def qAY.Post (W F : World) (r : List Int) (v : Value) (w' : World) : Prop := ∃ (F' : World) (RA0_0 : Option Addr) (rc0_0 : Nat), v = .slice RA0_0 r.length rc0_0 ∧ St W (mine W []) F w' F' [] ∧ Rd (Kn.int .i64) F' RA0_0 rc0_0 r
theorem qAY.calls (k : Nat) (x0_ : qJ) (x1_ : Int) (A0_4 : Option Addr) (c0_4 : Nat) (A0_5 : Option Addr) (c0_5 : Nat) (A0_6 : Option Addr) (c0_6 : Nat) (r : List Int) (W F : World) (hown : Sub F W) (g0_4 : Rd qA.k F A0_4 c0_4 x0_.f4) (g0_5 : Rd qK.k F A0_5 c0_5 x0_.f5) (g0_6 : Rd qC.k F A0_6 c0_6 x0_.f6) (H : qAY.f k x0_ x1_ = some r) :
    Calls Tryz.prog 23 #[.agg #[.int .i64 x0_.f0, .int .i64 x0_.f1, .int .i64 x0_.f2, .int .i64 x0_.f3, .slice A0_4 x0_.f4.length c0_4, .slice A0_5 x0_.f5.length c0_5, .slice A0_6 x0_.f6.length c0_6], .int .i64 x1_] W fun e w' => ∃ v, e = .returned v ∧ qAY.Post W F r v w' := by
 have hS := St.start (Own.nil hown)
 unfold qAY.f at H
 refine enter (n := 32) rfl rfl rfl (Nat.le_of_ble_eq_true rfl) (fun a hE => ?_)
 refine sq fun K1 hK1 => pl0 (ple hE (.bx (t := 26) hS [.int .i64 x0_.f0, .int .i64 x0_.f1, .int .i64 x0_.f2, .int .i64 x0_.f3, .slice A0_4 x0_.f4.length c0_4, .slice A0_5 x0_.f5.length c0_5, .slice A0_6 x0_.f6.length c0_6]) ?_)
 rintro _ u3 a ⟨b2, rfl, hb2, hS, hg⟩ hE
 refine plc hE (.r 1 1 .nil) (fun a hE => pld (hK1 _ _ (sq fun K4 hK4 => sq fun K5 hK5 => ?_)))
 have J15 : ∀ kq13, kq13 ≤ k → ∀ (G : Nat → Value) (y11 : Bool) (a : Act) (w' : World), Env 32 G a → At G [(1, .int .i64 x1_), (2, .pointer (some ⟨b2, 0, none⟩)), (18, .bool y11)] → St W (mine W []) F w' F [box b2 #[.int .i64 x0_.f0, .int .i64 x0_.f1, .int .i64 x0_.f2, .int .i64 x0_.f3, .slice A0_4 x0_.f4.length c0_4, .slice A0_5 x0_.f5.length c0_5, .slice A0_6 x0_.f6.length c0_6] 26] → qAY.j12 kq13 x0_ x1_ y11 = some r → K5 a w' := by
  intro kq13 hkq G y11 a u16 hE hA hS H
  cases kq13 with
  | zero => cases (show none = some r from H)
  | succ k14 =>
   rw [qAY.j12_s] at H
   obtain ⟨J, hE⟩ := hE.at hA
   refine hK5 _ _ ?_
   rcases sp H with ⟨c17, H⟩ | ⟨c17, H⟩
   ·
    replace hE := hE.bt 18 c17
    refine ct hE (sq fun K18 hK18 => pl0 (plc hE (.r 0 1 .nil) (fun a hE => pld (hK18 _ _ (wp_ret (qCB ?_))))))
    replace hS := hS.tail
    obtain rfl := si H
    exact rt1 hE ⟨_, rfl, _, _, _, rfl, hS, (Rd.nil _ _)⟩
   ·
    replace hE := hE.bf 18 c17
    refine cf hE (wp_skip (hK4 _ _ (sq fun K19 hK19 => sq fun K20 hK20 => pl0 ?_)))
    have hb2 := hS.blk_at (i := 0) rfl
    refine plc hE (.bn 0 0 7 hb2 <| .r 1 1 <| .nil) (fun a hE => ?_)
    obtain ⟨t22, h23, H⟩ := bd H
    refine ple hE (.cl en72 (qAW.calls k14 x0_ x1_ _ _ _ _ _ _ _ _ _ hS.own.sub g0_4 g0_5 g0_6 h23)) ?_
    rintro _ u21 a ⟨F24, A25, c26, rfl, hC, g27⟩ hE
    have hs := hC.sub
    replace hS := hS.called (X := []) hC
    replace g0_4 := g0_4.mono hs
    replace g0_5 := g0_5.mono hs
    replace g0_6 := g0_6.mono hs
    refine plc hE (.r 3 1 .nil) (fun a hE => pld (hK20 _ _ (sq fun K28 hK28 => pl0 (plc hE (.r 0 3 .nil) (fun a hE => pld (hK28 _ _ ?_))))))
    rcases sp H with ⟨c29, H⟩ | ⟨c29, H⟩
    ·
     replace hE := hE.kt 24 c29
     refine ct hE (sq fun K30 hK30 => pl0 (plc hE (.r 0 2 .nil) (fun a hE => pld (hK30 _ _ (wp_ret (qCB ?_))))))
     replace hS := hS.tail
     obtain rfl := si H
     exact rt1 hE ⟨_, rfl, _, _, _, rfl, hS, g27⟩
    ·
     replace hE := hE.kf 24 c29
     refine cf hE (wp_skip (hK19 _ _ (sq fun K31 hK31 => pl0 ?_)))
     have hb2 := hS.blk_at (i := 0) rfl
     refine plc hE (.r 0 1 <| .b 1 4 hb2 <| .r 2 2 <| .b 4 1 hb2 <| .nil) (fun a hE => ?_)
     obtain ⟨t33, h34, H⟩ := bd H
     refine ple hE (.cl en73 (qAX.calls k14 x0_.f4 x1_ x0_.f1 _ _ _ _ _ hS.own.sub g0_4 h34)) ?_
     rintro _ u32 a ⟨F35, A36, c37, rfl, hC⟩ hE
     have hs := hC.sub
     replace hS := hS.called (X := []) hC
     replace g27 := g27.mono hs
     replace g0_4 := g0_4.mono hs
     replace g0_5 := g0_5.mono hs
     replace g0_6 := g0_6.mono hs
     refine plc hE (.r 6 1 .nil) (fun a hE => pld (hK31 _ _ (wp_ret ?_)))
     obtain ⟨F40, hs, g41, hS⟩ := hS.give
     replace g27 := g27.mono hs
     replace g0_4 := g0_4.mono hs
     replace g0_5 := g0_5.mono hs
     replace g0_6 := g0_6.mono hs
     replace hS := hS.tail
     obtain rfl := si H
     exact rt1 hE ⟨_, rfl, _, _, _, rfl, hS, g41⟩
 refine pl0 (plc hE (.bn 0 0 7 hb2 .nil) (fun a hE => ?_))
 obtain ⟨t7, h8, H⟩ := bd H
 refine ple hE (.cl en19 (qW.calls k x0_ _ _ _ _ _ _ _ _ _ hS.own.sub g0_4 g0_5 g0_6 h8)) ?_
 rintro _ u6 a ⟨_, rfl, hC⟩ hE
 replace hS := hS.lent hC
 refine plc hE (.r 2 2 .nil) (fun a hE => ?_)
 rcases sp H with ⟨c9, H⟩ | ⟨c9, H⟩
 ·
  replace hE := hE.btn 9 c9
  refine plc hE (.r 4 4 .nil) (fun a hE => ?_)
  rcases sp H with ⟨c10, H⟩ | ⟨c10, H⟩
  ·
   replace hE := hE.kt 13 c10
   refine plc hE (.r 8 5 .nil) (fun a hE => pld ?_)
   exact J15 _ (by omega) _ true _ _ hE .of hS H
  ·
   replace hE := hE.kf 13 c10
   have hb2 := hS.blk_at (i := 0) rfl
   refine plc hE (.r 8 2 <| .b 10 3 hb2 <| .r 11 2 <| .nil) (fun a hE => pld ?_)
   exact J15 _ (by omega) _ (decide (x1_ ≥ x0_.f3)) _ _ hE .of hS H
 ·
  replace hE := hE.bfn 9 c9
  refine plc hE (.r 4 9 .nil) (fun a hE => pld ?_)
  exact J15 _ (by omega) _ true _ _ hE .of hS H
def qAD.l24 : Nat → qJ → List Int → List Int → Int → Option (List Int)
  | 0, _, _, _, _ => none
  | k + 1, x0_, t6, l22, x23 => if x23 < (t6.length : Int) then (if 0 ≤ x23 ∧ x23 < (t6.length : Int) then ((qy.f k x0_.f4 (nth 0 t6 x23)).bind fun t38 => (if t38.1.f4 = true then (if ((l22.length : Int) + ((1 : Nat) : Int)) * 8 ≤ 140737488355328 then (qAD.l24 k x0_ t6 (l22 ++ [(nth 0 t6 x23)]) (w64 (x23 + 1))) else (none)) else (qAD.l24 k x0_ t6 l22 (w64 (x23 + 1))))) else (none)) else (some l22)
theorem qAD.l24_s (k : Nat) (x0_ : qJ) (t6 : List Int) (l22 : List Int) (x23 : Int) : qAD.l24 (k + 1) x0_ t6 l22 x23 = (if x23 < (t6.length : Int) then (if 0 ≤ x23 ∧ x23 < (t6.length : Int) then ((qy.f k x0_.f4 (nth 0 t6 x23)).bind fun t38 => (if t38.1.f4 = true then (if ((l22.length : Int) + ((1 : Nat) : Int)) * 8 ≤ 140737488355328 then (qAD.l24 k x0_ t6 (l22 ++ [(nth 0 t6 x23)]) (w64 (x23 + 1))) else (none)) else (qAD.l24 k x0_ t6 l22 (w64 (x23 + 1))))) else (none)) else (some l22)) := by kernel_rfl
def qAD.f (k : Nat) (x0_ : qJ) (x1_ : Int) : Option (List Int) := (qAY.f k x0_ x1_).bind fun t6 => (qAD.l24 k x0_ t6 ([] : List Int) 0)
def qAD.Post (W F : World) (r : List Int) (v : Value) (w' : World) : Prop := ∃ (F' : World) (RA0_0 : Option Addr) (rc0_0 : Nat), v = .slice RA0_0 r.length rc0_0 ∧ St W (mine W []) F w' F' [row (Kn.int .i64) 3 (.slice RA0_0 r.length rc0_0) r]
theorem qAD.calls (k : Nat) (x0_ : qJ) (x1_ : Int) (A0_4 : Option Addr) (c0_4 : Nat) (A0_5 : Option Addr) (c0_5 : Nat) (A0_6 : Option Addr) (c0_6 : Nat) (r : List Int) (W F : World) (hown : Sub F W) (g0_4 : Rd qA.k F A0_4 c0_4 x0_.f4) (g0_5 : Rd qK.k F A0_5 c0_5 x0_.f5) (g0_6 : Rd qC.k F A0_6 c0_6 x0_.f6) (H : qAD.f k x0_ x1_ = some r) :
    Calls Tryz.prog 25 #[.agg #[.int .i64 x0_.f0, .int .i64 x0_.f1, .int .i64 x0_.f2, .int .i64 x0_.f3, .slice A0_4 x0_.f4.length c0_4, .slice A0_5 x0_.f5.length c0_5, .slice A0_6 x0_.f6.length c0_6], .int .i64 x1_] W fun e w' => ∃ v, e = .returned v ∧ qAD.Post W F r v w' := by
 have hS := St.start (Own.nil hown)
 unfold qAD.f at H
 refine enter (n := 40) rfl rfl rfl (Nat.le_of_ble_eq_true rfl) (fun a hE => ?_)
 refine sq fun K1 hK1 => pl0 (ple hE (.bx (t := 26) hS [.int .i64 x0_.f0, .int .i64 x0_.f1, .int .i64 x0_.f2, .int .i64 x0_.f3, .slice A0_4 x0_.f4.length c0_4, .slice A0_5 x0_.f5.length c0_5, .slice A0_6 x0_.f6.length c0_6]) ?_)
 rintro _ u3 a ⟨b2, rfl, hb2, hS, hg⟩ hE
 refine plc hE (.r 1 1 .nil) (fun a hE => pld (hK1 _ _ (sq fun K4 hK4 => pl0 (plc hE (.bn 0 0 7 hb2 <| .r 1 1 <| .nil) (fun a hE => ?_)))))
 obtain ⟨t6, h7, H⟩ := bd H
 refine ple hE (.cl en23 (qAY.calls k x0_ x1_ _ _ _ _ _ _ _ _ _ hS.own.sub g0_4 g0_5 g0_6 h7)) ?_
 rintro _ u5 a ⟨F8, A9, c10, rfl, hC, g11⟩ hE
 have hs := hC.sub
 replace hS := hS.called (X := []) hC
 replace g0_4 := g0_4.mono hs
 replace g0_5 := g0_5.mono hs
 replace g0_6 := g0_6.mono hs
 refine plc hE (.r 3 1 .nil) (fun a hE => pld (hK4 _ _ (sq fun K12 hK12 => pl0 (ple hE (.lit (d := (Kn.int .i64)) (e := 3) hS ([] : List Int) (.nil)) ?_))))
 rintro _ u13 a ⟨A14, c15, rfl, hS, hg⟩ hE
 refine plc hE (.r 1 1 .nil) (fun a hE => pld (hK12 _ _ (sq fun K17 hK17 => sq fun K18 hK18 => pl0 (plc hE (.r 0 1 .nil) (fun a hE => pld (hK18 _ _ (wp_block ?_)))))))
 replace hS := hS.front 1 rfl
 refine wp_loop_ghost (fun kq25 a w' => ∃ (G : Nat → Value) (A20 : Option Addr) (c21 : Nat) (l22 : List Int) (x23 : Int), kq25 ≤ k ∧ Env 40 G a ∧ At G [(2, .pointer (some ⟨b2, 0, none⟩)), (5, .slice A9 t6.length c10), (6, .slice A20 l22.length c21), (7, .int .i64 x23)] ∧ St W (mine W []) F w' F8 [box b2 #[.int .i64 x0_.f0, .int .i64 x0_.f1, .int .i64 x0_.f2, .int .i64 x0_.f3, .slice A0_4 x0_.f4.length c0_4, .slice A0_5 x0_.f5.length c0_5, .slice A0_6 x0_.f6.length c0_6] 26, row (Kn.int .i64) 3 (.slice A20 l22.length c21) l22] ∧  qAD.l24 kq25 x0_ t6 l22 x23 = some r) k ⟨_, A14, c15, ([] : List Int), 0, Nat.le_refl _, hE, .of, hS, H⟩ ?_
 rintro kq25 a u27 ⟨G, A20, c21, l22, x23, hkq, hE, hA, hS, H⟩
 cases kq25 with
 | zero => cases (show none = some r from H)
 | succ k26 =>
  rw [qAD.l24_s] at H
  obtain ⟨J, hE⟩ := hE.at hA
  refine sq fun K28 hK28 => sq fun K29 hK29 => pl0 (plc hE (.r 0 4 .nil) (fun a hE => pld (hK29 _ _ ?_)))
  rcases sp H with ⟨c30, H⟩ | ⟨c30, H⟩
  ·
   replace hE := hE.kt 17 c30
   refine ct hE (wp_skip (hK28 _ _ (sq fun K31 hK31 => wp_block (sq fun K32 hK32 => ?_))))
   refine drawn 13 ⟨[11], [], fun q => False⟩ mixed rfl (by kernel_rfl) (fun hst => ?_)
   replace hS := hS.drew
   have hb2 := hS.blk_at (i := 0) rfl
   obtain ⟨c33, H⟩ := gd H
   have hE_ := hE
   obtain ⟨ad34, rfl⟩ := g11.addr c33.1 c33.2
   replace hE := hE_
   obtain ⟨cs36, rfl, hc37⟩ := g11.el 0 x23 c33.1 c33.2
   refine mny 7 hst hE (.r 0 1 <| .b 1 4 hb2 <| .r 2 2 <| .x 4 c33 <| .c 5 (hS.fc hc37 0) <| .nil) (fun a hE => ?_)
   obtain ⟨t38, h39, H⟩ := bd H
   refine meet2 (fun a w' => ∃ (G : Nat → Value) (b41 : Nat), Env 40 G a ∧ At G [(2, .pointer (some ⟨b2, 0, none⟩)), (5, .slice (some ad34) t6.length c10), (6, .slice A20 l22.length c21), (7, .int .i64 x23), (8, .pointer (some ⟨b41, 0, none⟩)), (28, .agg #[.int .i64 t38.1.f0, .int .i64 t38.1.f1, .int .i64 t38.1.f2, .int .i64 t38.1.f3, .bool t38.1.f4, .bool t38.1.f5]), (29, .bool t38.2)] ∧ St W (mine W []) F w' F8 [box b41 #[.int .i64 0, .int .i64 0, .int .i64 0, .int .i64 0, .bool false, .bool false] 104, box b2 #[.int .i64 x0_.f0, .int .i64 x0_.f1, .int .i64 x0_.f2, .int .i64 x0_.f3, .slice A0_4 x0_.f4.length c0_4, .slice A0_5 x0_.f5.length c0_5, .slice A0_6 x0_.f6.length c0_6] 26, row (Kn.int .i64) 3 (.slice A20 l22.length c21) l22]) 2 2047 ?_ (fun hJ => ?_)
   ·
    rintro a u44 ⟨G, b41, hE, hA, hS⟩
    obtain ⟨J, hE⟩ := hE.at hA
    refine on1 11 hE (.sto hS [.int .i64 t38.1.f0, .int .i64 t38.1.f1, .int .i64 t38.1.f2, .int .i64 t38.1.f3, .bool t38.1.f4, .bool t38.1.f5]) ?_
    rintro _ u45 a ⟨rfl, hb41, hS, hz⟩ hE
    refine ⟨.d, ?_⟩
    refine mny 0 hst hE (.r 12 1 .nil) (fun a hE => ?_)
    refine dn ?_
    refine hK32 _ _ (sq fun K46 hK46 => pl0 (plc hE (.r 0 1 <| .b 1 4 hb41 <| .nil) (fun a hE => pld (hK46 _ _ ?_))))
    rcases sp H with ⟨c47, H⟩ | ⟨c47, H⟩
    ·
     replace hE := hE.bt 31 c47
     refine ct hE (pl0 ?_)
     obtain ⟨cs49, rfl, hc50⟩ := g11.el 0 x23 c33.1 c33.2
     refine plc hE (.r 0 3 <| .x 3 c33 <| .c 4 (hS.fc hc50 0) <| .nil) (fun a hE => ple hE (.lit (d := (Kn.int .i64)) (e := 3) hS [(nth 0 t6 x23)] (.cons rfl .nil)) ?_)
     rintro _ u51 a ⟨A52, c53, rfl, hS, hg⟩ hE
     obtain ⟨c55, H⟩ := gd H
     replace hS := hS.front 3 rfl
     refine ple hE (.ap (d := (Kn.int .i64)) 8 hS (qCM (hS.row_at (i := 1) rfl)) c55 c53) ?_
     rintro _ u58 a ⟨A56, c57, rfl, hS, hz⟩ hE
     refine plc hE (.r 7 1 .nil) (fun a hE => pld ?_)
     refine qCD ?_
     refine hK31 _ _ (pl0 (plc hE (.r 0 3 .nil) (fun a hE => pld ?_)))
     replace hS := hS.front 1 rfl
     replace hS := hS.tail
     replace hS := hS.front 1 rfl
     replace hS := hS.tail
     replace hS := hS.front 1 rfl
     exact qCE ⟨k26, by omega, _, A56, c57, (l22 ++ [(nth 0 t6 x23)]), (w64 (x23 + 1)), by omega, hE, .of, hS, H⟩
    ·
     replace hE := hE.bf 31 c47
     refine cf hE (wp_skip ?_)
     refine qCD ?_
     refine hK31 _ _ (pl0 (plc hE (.r 0 3 .nil) (fun a hE => pld ?_)))
     replace hS := hS.tail
     exact qCE ⟨k26, by omega, _, A20, c21, l22, (w64 (x23 + 1)), by omega, hE, .of, hS, H⟩
   ·
    refine pk2 6 10 ?_ ?_
    ·
     refine pk1 6 hE (.cl en75 (qy.calls k26 x0_.f4 (nth 0 t6 x23) _ _ _ _ _ hS.own.sub g0_4 h39)) ?_
     rintro _ u40 a ⟨_, rfl, hC⟩ hE
     refine ⟨.of hC.agr, ?_⟩
     replace hS := hS.lent hC
     refine mny 3 hst hE (.r 7 3 .nil) (fun a hE => ?_)
     refine on1 10 hE (.al (t := 104) hS [.int .i64 0, .int .i64 0, .int .i64 0, .int .i64 0, .bool false, .bool false]) ?_
     rintro _ u42 a ⟨b41, rfl, hb41, hS, hg⟩ hE
     refine ⟨.of hg, ?_⟩
     exact hJ _ _ ⟨_, b41, hE, .of, hS⟩
    ·
     refine pk1 10 hE (.al (t := 104) hS [.int .i64 0, .int .i64 0, .int .i64 0, .int .i64 0, .bool false, .bool false]) ?_
     rintro _ u42 a ⟨b41, rfl, hb41, hS, hg⟩ hE
     refine ⟨.of hg, ?_⟩
     refine on1 6 hE (.cl en75 (qy.calls k26 x0_.f4 (nth 0 t6 x23) _ _ _ _ _ hS.own.sub g0_4 h39)) ?_
     rintro _ u40 a ⟨_, rfl, hC⟩ hE
     refine ⟨.of hC.agr, ?_⟩
     replace hS := hS.lent hC
     refine mny 2 hst hE (.r 7 3 .nil) (fun a hE => ?_)
     exact hJ _ _ ⟨_, b41, hE, .of, hS⟩
  ·
   replace hE := hE.kf 17 c30
   refine cf hE ?_
   refine wp_exit ?_
   refine hK17 _ _ (sq fun K59 hK59 => pl0 (plc hE (.r 0 2 .nil) (fun a hE => pld (hK59 _ _ (wp_ret ?_)))))
   replace hS := hS.tail
   obtain rfl := si H
   exact rt1 hE ⟨_, rfl, _, _, _, rfl, hS⟩
mutual
def qS.l25 : Nat → qJ → Int → List Int → List (List Int) → Int → Option Bool
  | 0, _, _, _, _, _ => none
  | k + 1, x0_, x1_, x2_, l23, x24 => if x24 < (((nth qC.z x0_.f6 x1_).f1).length : Int) then (if 0 ≤ x24 ∧ x24 < (((nth qC.z x0_.f6 x1_).f1).length : Int) then (if ((l23.length : Int) + ((1 : Nat) : Int)) * 24 ≤ 140737488355328 then (qS.l25 k x0_ x1_ x2_ (l23 ++ [(nth qD.z ((nth qC.z x0_.f6 x1_).f1) x24).f1]) (w64 (x24 + 1))) else (none)) else (none)) else ((qAD.f k x0_ x1_).bind fun t52 => (if (t52.length : Int) ≥ x0_.f2 then (if ((l23.length : Int) + ((1 : Nat) : Int)) * 24 ≤ 140737488355328 then (qS.j76 k x2_ (l23 ++ [t52])) else (none)) else (qS.j76 k x2_ l23)))
def qS.j76 : Nat → List Int → List (List Int) → Option Bool
  | 0, _, _ => none
  | k + 1, x2_, l74 => qS.l84 k x2_ l74 0
def qS.l84 : Nat → List Int → List (List Int) → Int → Option Bool
  | 0, _, _, _ => none
  | k + 1, x2_, l74, x83 => if x83 < (l74.length : Int) then (qS.l97 k x2_ l74 x83 false 0) else (some true)
def qS.l97 : Nat → List Int → List (List Int) → Int → Bool → Int → Option Bool
  | 0, _, _, _, _, _ => none
  | k + 1, x2_, l74, x83, y95, x96 => if 0 ≤ x83 ∧ x83 < (l74.length : Int) then (if x96 < ((nth [] l74 x83).length : Int) then (qS.l119 k x2_ l74 x83 y95 x96 false 0) else (if y95 = true then (qS.l84 k x2_ l74 (w64 (x83 + 1))) else (some false))) else (none)
def qS.l119 : Nat → List Int → List (List Int) → Int → Bool → Int → Bool → Int → Option Bool
  | 0, _, _, _, _, _, _, _ => none
  | k + 1, x2_, l74, x83, y95, x96, y117, x118 => if x118 < (x2_.length : Int) then (if y117 = true then (qS.l119 k x2_ l74 x83 y95 x96 true (w64 (x118 + 1))) else (if 0 ≤ x118 ∧ x118 < (x2_.length : Int) then (if 0 ≤ x96 ∧ x96 < ((nth [] l74 x83).length : Int) then (qS.l119 k x2_ l74 x83 y95 x96 ((nth 0 x2_ x118) == (nth 0 (nth [] l74 x83) x96)) (w64 (x118 + 1))) else (none)) else (none))) else (if y95 = true then (qS.l97 k x2_ l74 x83 true (w64 (x96 + 1))) else (qS.l97 k x2_ l74 x83 (!y117) (w64 (x96 + 1))))
end
theorem qS.l25_s (k : Nat) (x0_ : qJ) (x1_ : Int) (x2_ : List Int) (l23 : List (List Int)) (x24 : Int) : qS.l25 (k + 1) x0_ x1_ x2_ l23 x24 = (if x24 < (((nth qC.z x0_.f6 x1_).f1).length : Int) then (if 0 ≤ x24 ∧ x24 < (((nth qC.z x0_.f6 x1_).f1).length : Int) then (if ((l23.length : Int) + ((1 : Nat) : Int)) * 24 ≤ 140737488355328 then (qS.l25 k x0_ x1_ x2_ (l23 ++ [(nth qD.z ((nth qC.z x0_.f6 x1_).f1) x24).f1]) (w64 (x24 + 1))) else (none)) else (none)) else ((qAD.f k x0_ x1_).bind fun t52 => (if (t52.length : Int) ≥ x0_.f2 then (if ((l23.length : Int) + ((1 : Nat) : Int)) * 24 ≤ 140737488355328 then (qS.j76 k x2_ (l23 ++ [t52])) else (none)) else (qS.j76 k x2_ l23)))) := by kernel_rfl
theorem qS.j76_s (k : Nat) (x2_ : List Int) (l74 : List (List Int)) : qS.j76 (k + 1) x2_ l74 = (qS.l84 k x2_ l74 0) := by kernel_rfl
theorem qS.l84_s (k : Nat) (x2_ : List Int) (l74 : List (List Int)) (x83 : Int) : qS.l84 (k + 1) x2_ l74 x83 = (if x83 < (l74.length : Int) then (qS.l97 k x2_ l74 x83 false 0) else (some true)) := by kernel_rfl
theorem qS.l97_s (k : Nat) (x2_ : List Int) (l74 : List (List Int)) (x83 : Int) (y95 : Bool) (x96 : Int) : qS.l97 (k + 1) x2_ l74 x83 y95 x96 = (if 0 ≤ x83 ∧ x83 < (l74.length : Int) then (if x96 < ((nth [] l74 x83).length : Int) then (qS.l119 k x2_ l74 x83 y95 x96 false 0) else (if y95 = true then (qS.l84 k x2_ l74 (w64 (x83 + 1))) else (some false))) else (none)) := by kernel_rfl
theorem qS.l119_s (k : Nat) (x2_ : List Int) (l74 : List (List Int)) (x83 : Int) (y95 : Bool) (x96 : Int) (y117 : Bool) (x118 : Int) : qS.l119 (k + 1) x2_ l74 x83 y95 x96 y117 x118 = (if x118 < (x2_.length : Int) then (if y117 = true then (qS.l119 k x2_ l74 x83 y95 x96 true (w64 (x118 + 1))) else (if 0 ≤ x118 ∧ x118 < (x2_.length : Int) then (if 0 ≤ x96 ∧ x96 < ((nth [] l74 x83).length : Int) then (qS.l119 k x2_ l74 x83 y95 x96 ((nth 0 x2_ x118) == (nth 0 (nth [] l74 x83) x96)) (w64 (x118 + 1))) else (none)) else (none))) else (if y95 = true then (qS.l97 k x2_ l74 x83 true (w64 (x96 + 1))) else (qS.l97 k x2_ l74 x83 (!y117) (w64 (x96 + 1))))) := by kernel_rfl
def qS.f (k : Nat) (x0_ : qJ) (x1_ : Int) (x2_ : List Int) : Option Bool := if 0 ≤ x1_ ∧ x1_ < (x0_.f6.length : Int) then (qS.l25 k x0_ x1_ x2_ ([] : List (List Int)) 0) else (none)
def qS.Post (W F : World) (r : Bool) (v : Value) (w' : World) : Prop := ∃ (F' : World), v = .bool r ∧ St W (mine W []) F w' F' []
theorem qS.calls (k : Nat) (x0_ : qJ) (x1_ : Int) (x2_ : List Int) (A0_4 : Option Addr) (c0_4 : Nat) (A0_5 : Option Addr) (c0_5 : Nat) (A0_6 : Option Addr) (c0_6 : Nat) (A2_0 : Option Addr) (c2_0 : Nat) (r : Bool) (W F : World) (hown : Sub F W) (g0_4 : Rd qA.k F A0_4 c0_4 x0_.f4) (g0_5 : Rd qK.k F A0_5 c0_5 x0_.f5) (g0_6 : Rd qC.k F A0_6 c0_6 x0_.f6) (g2_0 : Rd (Kn.int .i64) F A2_0 c2_0 x2_) (H : qS.f k x0_ x1_ x2_ = some r) :
    Calls Tryz.prog 63 #[.agg #[.int .i64 x0_.f0, .int .i64 x0_.f1, .int .i64 x0_.f2, .int .i64 x0_.f3, .slice A0_4 x0_.f4.length c0_4, .slice A0_5 x0_.f5.length c0_5, .slice A0_6 x0_.f6.length c0_6], .int .i64 x1_, .slice A2_0 x2_.length c2_0] W fun e w' => ∃ v, e = .returned v ∧ qS.Post W F r v w' := by
 have hS := St.start (Own.nil hown)
 unfold qS.f at H
 refine enter (n := 92) rfl rfl rfl (Nat.le_of_ble_eq_true rfl) (fun a hE => ?_)
 refine sq fun K1 hK1 => pl0 (ple hE (.bx (t := 26) hS [.int .i64 x0_.f0, .int .i64 x0_.f1, .int .i64 x0_.f2, .int .i64 x0_.f3, .slice A0_4 x0_.f4.length c0_4, .slice A0_5 x0_.f5.length c0_5, .slice A0_6 x0_.f6.length c0_6]) ?_)
 rintro _ u3 a ⟨b2, rfl, hb2, hS, hg⟩ hE
 refine plc hE (.r 1 1 .nil) (fun a hE => pld (hK1 _ _ (sq fun K4 hK4 => pl0 (ple hE (.lit (d := (Kn.slice (Kn.int .i64))) (e := 36) hS ([] : List (List Int)) (.nil)) ?_))))
 rintro _ u5 a ⟨A6, c7, rfl, hS, hg⟩ hE
 refine plc hE (.r 1 1 .nil) (fun a hE => pld (hK4 _ _ (sq fun K9 hK9 => pl0 ?_)))
 have hb2 := hS.blk_at (i := 1) rfl
 obtain ⟨c10, H⟩ := gd H
 have hE_ := hE
 obtain ⟨ad11, rfl⟩ := g0_6.addr c10.1 c10.2
 replace hE := hE_
 obtain ⟨cs13, ⟨A15, c16, rfl, g17⟩, hc14⟩ := g0_6.el qC.z x1_ c10.1 c10.2
 refine plc hE (.r 0 1 <| .b 1 6 hb2 <| .r 2 1 <| .x 3 c10 <| .r 4 1 <| .c 5 (hS.fc hc14 1) <| .r 6 1 <| .nil) (fun a hE => pld (hK9 _ _ (sq fun K18 hK18 => sq fun K19 hK19 => pl0 (plc hE (.r 0 1 .nil) (fun a hE => pld (hK19 _ _ (wp_block ?_)))))))
 replace hS := hS.front 1 rfl
 refine wp_loop_ghost (fun kq26 a w' => ∃ (G : Nat → Value) (A21 : Option Addr) (c22 : Nat) (l23 : List (List Int)) (x24 : Int), kq26 ≤ k ∧ Env 92 G a ∧ At G [(1, .int .i64 x1_), (2, .slice A2_0 x2_.length c2_0), (3, .pointer (some ⟨b2, 0, none⟩)), (7, .slice A21 l23.length c22), (8, .slice A15 (((nth qC.z x0_.f6 x1_).f1).length) c16), (9, .int .i64 x24)] ∧ St W (mine W []) F w' F [box b2 #[.int .i64 x0_.f0, .int .i64 x0_.f1, .int .i64 x0_.f2, .int .i64 x0_.f3, .slice A0_4 x0_.f4.length c0_4, .slice A0_5 x0_.f5.length c0_5, .slice (some ad11) x0_.f6.length c0_6] 26, row (Kn.slice (Kn.int .i64)) 36 (.slice A21 l23.length c22) l23] ∧  qS.l25 kq26 x0_ x1_ x2_ l23 x24 = some r) k ⟨_, A6, c7, ([] : List (List Int)), 0, Nat.le_refl _, hE, .of, hS, H⟩ ?_
 rintro kq26 a u28 ⟨G, A21, c22, l23, x24, hkq, hE, hA, hS, H⟩
 cases kq26 with
 | zero => cases (show none = some r from H)
 | succ k27 =>
  rw [qS.l25_s] at H
  obtain ⟨J, hE⟩ := hE.at hA
  refine sq fun K29 hK29 => sq fun K30 hK30 => pl0 (plc hE (.r 0 4 .nil) (fun a hE => pld (hK30 _ _ ?_)))
  rcases sp H with ⟨c31, H⟩ | ⟨c31, H⟩
  ·
   replace hE := hE.kt 26 c31
   refine ct hE (wp_skip (hK29 _ _ (sq fun K32 hK32 => wp_block (pl0 ?_))))
   obtain ⟨c33, H⟩ := gd H
   have hE_ := hE
   obtain ⟨ad34, rfl⟩ := g17.addr c33.1 c33.2
   replace hE := hE_
   obtain ⟨cs36, ⟨A38, c39, rfl, g40⟩, hc37⟩ := g17.el qD.z x24 c33.1 c33.2
   refine plc hE (.r 0 3 <| .x 3 c33 <| .r 4 1 <| .c 5 (hS.fc hc37 1) <| .nil) (fun a hE => ple hE (.lit (d := (Kn.slice (Kn.int .i64))) (e := 36) hS [(nth qD.z ((nth qC.z x0_.f6 x1_).f1) x24).f1] (.cons ⟨_, _, rfl, g40⟩ .nil)) ?_)
   rintro _ u41 a ⟨A42, c43, rfl, hS, hg⟩ hE
   obtain ⟨c45, H⟩ := gd H
   replace hS := hS.front 2 rfl
   refine ple hE (.ap (d := (Kn.slice (Kn.int .i64))) 24 hS (qCM (hS.row_at (i := 1) rfl)) c45 c43) ?_
   rintro _ u48 a ⟨A46, c47, rfl, hS, hz⟩ hE
   refine plc hE (.r 8 1 .nil) (fun a hE => pld ?_)
   refine qCD ?_
   refine hK32 _ _ (pl0 (plc hE (.r 0 3 .nil) (fun a hE => pld ?_)))
   replace hS := hS.front 1 rfl
   replace hS := hS.tail
   replace hS := hS.front 1 rfl
   exact qCE ⟨k27, by omega, _, A46, c47, (l23 ++ [(nth qD.z ((nth qC.z x0_.f6 x1_).f1) x24).f1]), (w64 (x24 + 1)), by omega, hE, .of, hS, H⟩
  ·
   replace hE := hE.kf 26 c31
   refine cf hE ?_
   refine wp_exit ?_
   refine hK18 _ _ (sq fun K49 hK49 => ?_)
   have J79 : ∀ kq77, kq77 ≤ k27 → ∀ (G : Nat → Value) (A72 : Option Addr) (c73 : Nat) (l74 : List (List Int)) (F75 : World) (a : Act) (w' : World), Env 92 G a → At G [(2, .slice A2_0 x2_.length c2_0), (7, .slice A72 l74.length c73)] → St W (mine W []) F w' F75 [box b2 #[.int .i64 x0_.f0, .int .i64 x0_.f1, .int .i64 x0_.f2, .int .i64 x0_.f3, .slice A0_4 x0_.f4.length c0_4, .slice A0_5 x0_.f5.length c0_5, .slice (some ad11) x0_.f6.length c0_6] 26, row (Kn.slice (Kn.int .i64)) 36 (.slice A72 l74.length c73) l74] → Rd (Kn.int .i64) F75 A2_0 c2_0 x2_ → Rd qA.k F75 A0_4 c0_4 x0_.f4 → Rd qK.k F75 A0_5 c0_5 x0_.f5 → Rd qC.k F75 (some ad11) c0_6 x0_.f6 → qS.j76 kq77 x2_ l74 = some r → K49 a w' := by
    intro kq77 hkq G A72 c73 l74 F75 a u80 hE hA hS g2_0 g0_4 g0_5 g0_6 H
    cases kq77 with
    | zero => cases (show none = some r from H)
    | succ k78 =>
     rw [qS.j76_s] at H
     obtain ⟨J, hE⟩ := hE.at hA
     refine hK49 _ _ (sq fun K81 hK81 => sq fun K82 hK82 => pl0 (plc hE (.r 0 1 .nil) (fun a hE => pld (hK82 _ _ (wp_block ?_)))))
     refine wp_loop_ghost (fun kq85 a w' => ∃ (G : Nat → Value) (x83 : Int), kq85 ≤ k78 ∧ Env 92 G a ∧ At G [(2, .slice A2_0 x2_.length c2_0), (7, .slice A72 l74.length c73), (11, .int .i64 x83)] ∧ St W (mine W []) F w' F75 [box b2 #[.int .i64 x0_.f0, .int .i64 x0_.f1, .int .i64 x0_.f2, .int .i64 x0_.f3, .slice A0_4 x0_.f4.length c0_4, .slice A0_5 x0_.f5.length c0_5, .slice (some ad11) x0_.f6.length c0_6] 26, row (Kn.slice (Kn.int .i64)) 36 (.slice A72 l74.length c73) l74] ∧  qS.l84 kq85 x2_ l74 x83 = some r) k78 ⟨_, 0, Nat.le_refl _, hE, .of, hS, H⟩ ?_
     rintro kq85 a u87 ⟨G, x83, hkq, hE, hA, hS, H⟩
     cases kq85 with
     | zero => cases (show none = some r from H)
     | succ k86 =>
      rw [qS.l84_s] at H
      obtain ⟨J, hE⟩ := hE.at hA
      refine sq fun K88 hK88 => sq fun K89 hK89 => pl0 (plc hE (.r 0 4 .nil) (fun a hE => pld (hK89 _ _ ?_)))
      rcases sp H with ⟨c90, H⟩ | ⟨c90, H⟩
      ·
       replace hE := hE.kt 52 c90
       refine ct hE (wp_skip (hK88 _ _ (sq fun K91 hK91 => wp_block (sq fun K92 hK92 => pl0 (plc hE (.r 0 1 .nil) (fun a hE => pld (hK92 _ _ (sq fun K93 hK93 => sq fun K94 hK94 => pl0 (plc hE (.r 0 1 .nil) (fun a hE => pld (hK94 _ _ (wp_block ?_))))))))))))
       refine wp_loop_ghost (fun kq98 a w' => ∃ (G : Nat → Value) (y95 : Bool) (x96 : Int), kq98 ≤ k86 ∧ Env 92 G a ∧ At G [(2, .slice A2_0 x2_.length c2_0), (7, .slice A72 l74.length c73), (11, .int .i64 x83), (12, .bool y95), (13, .int .i64 x96)] ∧ St W (mine W []) F w' F75 [box b2 #[.int .i64 x0_.f0, .int .i64 x0_.f1, .int .i64 x0_.f2, .int .i64 x0_.f3, .slice A0_4 x0_.f4.length c0_4, .slice A0_5 x0_.f5.length c0_5, .slice (some ad11) x0_.f6.length c0_6] 26, row (Kn.slice (Kn.int .i64)) 36 (.slice A72 l74.length c73) l74] ∧  qS.l97 kq98 x2_ l74 x83 y95 x96 = some r) k86 ⟨_, false, 0, Nat.le_refl _, hE, .of, hS, H⟩ ?_
       rintro kq98 a u100 ⟨G, y95, x96, hkq, hE, hA, hS, H⟩
       cases kq98 with
       | zero => cases (show none = some r from H)
       | succ k99 =>
        rw [qS.l97_s] at H
        obtain ⟨J, hE⟩ := hE.at hA
        refine sq fun K101 hK101 => sq fun K102 hK102 => pl0 ?_
        obtain ⟨c103, H⟩ := gd H
        have hr104 := hS.row_at (i := 1) rfl
        have hE_ := hE
        obtain ⟨b105, rfl⟩ := qCI hr104 c103.1 c103.2
        replace hE := hE_
        have hr_ := hS.row_at (i := 1) rfl
        obtain ⟨cs107, ⟨A109, c110, rfl, g111⟩, hc108⟩ := qCG hr_ [] x83 c103.1 c103.2
        refine plc hE (.r 0 3 <| .x 3 c103 <| .c 4 (hc108 0 _ rfl) <| .r 5 2 <| .nil) (fun a hE => pld (hK102 _ _ ?_))
        rcases sp H with ⟨c112, H⟩ | ⟨c112, H⟩
        ·
         replace hE := hE.kt 61 c112
         refine ct hE (wp_skip (hK101 _ _ (sq fun K113 hK113 => wp_block (sq fun K114 hK114 => pl0 (plc hE (.r 0 1 .nil) (fun a hE => pld (hK114 _ _ (sq fun K115 hK115 => sq fun K116 hK116 => pl0 (plc hE (.r 0 1 .nil) (fun a hE => pld (hK116 _ _ (wp_block ?_))))))))))))
         refine wp_loop_ghost (fun kq120 a w' => ∃ (G : Nat → Value) (y117 : Bool) (x118 : Int), kq120 ≤ k99 ∧ Env 92 G a ∧ At G [(2, .slice A2_0 x2_.length c2_0), (7, .slice (some ⟨b105, 0, none⟩) l74.length c73), (11, .int .i64 x83), (12, .bool y95), (13, .int .i64 x96), (14, .bool y117), (15, .int .i64 x118)] ∧ St W (mine W []) F w' F75 [box b2 #[.int .i64 x0_.f0, .int .i64 x0_.f1, .int .i64 x0_.f2, .int .i64 x0_.f3, .slice A0_4 x0_.f4.length c0_4, .slice A0_5 x0_.f5.length c0_5, .slice (some ad11) x0_.f6.length c0_6] 26, row (Kn.slice (Kn.int .i64)) 36 (.slice (some ⟨b105, 0, none⟩) l74.length c73) l74] ∧  qS.l119 kq120 x2_ l74 x83 y95 x96 y117 x118 = some r) k99 ⟨_, false, 0, Nat.le_refl _, hE, .of, hS, H⟩ ?_
         rintro kq120 a u122 ⟨G, y117, x118, hkq, hE, hA, hS, H⟩
         cases kq120 with
         | zero => cases (show none = some r from H)
         | succ k121 =>
          rw [qS.l119_s] at H
          obtain ⟨J, hE⟩ := hE.at hA
          refine sq fun K123 hK123 => sq fun K124 hK124 => pl0 (plc hE (.r 0 4 .nil) (fun a hE => pld (hK124 _ _ ?_)))
          rcases sp H with ⟨c125, H⟩ | ⟨c125, H⟩
          ·
           replace hE := hE.kt 67 c125
           refine ct hE (wp_skip (hK123 _ _ (sq fun K126 hK126 => wp_block ?_)))
           refine drawn 16 ⟨[], [], fun q => False⟩ mixed rfl (by kernel_rfl) (fun hst => ?_)
           replace hS := hS.drew
           refine mny 14 hst hE (.r 0 2 .nil) (fun a hE => ?_)
           rcases sp H with ⟨c127, H⟩ | ⟨c127, H⟩
           ·
            replace hE := hE.bt 14 c127
            replace hE := hE.bt 71 c127
            refine mny 0 hst hE (.r 2 14 .nil) (fun a hE => ?_)
            refine dn ?_
            refine qCD ?_
            refine hK126 _ _ (pl0 (plc hE (.r 0 3 .nil) (fun a hE => pld ?_)))
            exact qCE ⟨k121, by omega, _, true, (w64 (x118 + 1)), by omega, hE, .of, hS, H⟩
           ·
            replace hE := hE.bf 14 c127
            replace hE := hE.bf 71 c127
            obtain ⟨c128, H⟩ := gd H
            have hE_ := hE
            obtain ⟨ad129, rfl⟩ := g2_0.addr c128.1 c128.2
            replace hE := hE_
            obtain ⟨cs131, rfl, hc132⟩ := g2_0.el 0 x118 c128.1 c128.2
            have hr133 := hS.row_at (i := 1) rfl
            have hr_ := hS.row_at (i := 1) rfl
            obtain ⟨cs135, ⟨A137, c138, rfl, g139⟩, hc136⟩ := qCG hr_ [] x83 c103.1 c103.2
            obtain ⟨c140, H⟩ := gd H
            have hE_ := hE
            obtain ⟨ad141, rfl⟩ := g139.addr c140.1 c140.2
            replace hE := hE_
            obtain ⟨cs143, rfl, hc144⟩ := g139.el 0 x96 c140.1 c140.2
            refine mny 0 hst hE (.r 2 2 <| .x 4 c128 <| .c 5 (hS.fc hc132 0) <| .r 6 2 <| .x 8 c103 <| .c 9 (hc136 0 _ rfl) <| .r 10 1 <| .x 11 c140 <| .c 12 (hS.fc hc144 0) <| .r 13 3 <| .nil) (fun a hE => ?_)
            refine dn ?_
            refine qCD ?_
            refine hK126 _ _ (pl0 (plc hE (.r 0 3 .nil) (fun a hE => pld ?_)))
            exact qCE ⟨k121, by omega, _, ((nth 0 x2_ x118) == (nth 0 (nth [] l74 x83) x96)), (w64 (x118 + 1)), by omega, hE, .of, hS, H⟩
          ·
           replace hE := hE.kf 67 c125
           refine cf hE ?_
           refine wp_exit ?_
           refine hK115 _ _ (pl0 (plc hE (.r 0 2 .nil) (fun a hE => ?_)))
           rcases sp H with ⟨c145, H⟩ | ⟨c145, H⟩
           ·
            replace hE := hE.bt 12 c145
            replace hE := hE.bt 86 c145
            refine plc hE (.r 2 4 .nil) (fun a hE => pld ?_)
            refine qCD ?_
            refine hK113 _ _ (pl0 (plc hE (.r 0 3 .nil) (fun a hE => pld ?_)))
            exact qCE ⟨k121, by omega, _, true, (w64 (x96 + 1)), by omega, hE, .of, hS, H⟩
           ·
            replace hE := hE.bf 12 c145
            replace hE := hE.bf 86 c145
            refine plc hE (.r 2 4 .nil) (fun a hE => pld ?_)
            refine qCD ?_
            refine hK113 _ _ (pl0 (plc hE (.r 0 3 .nil) (fun a hE => pld ?_)))
            exact qCE ⟨k121, by omega, _, (!y117), (w64 (x96 + 1)), by omega, hE, .of, hS, H⟩
        ·
         replace hE := hE.kf 61 c112
         refine cf hE ?_
         refine wp_exit ?_
         refine hK93 _ _ (sq fun K146 hK146 => pl0 (plc hE (.r 0 2 .nil) (fun a hE => pld (hK146 _ _ ?_))))
         rcases sp H with ⟨c147, H⟩ | ⟨c147, H⟩
         ·
          replace hE := hE.btn 91 c147
          refine cf hE (wp_skip ?_)
          refine qCD ?_
          refine hK91 _ _ (pl0 (plc hE (.r 0 3 .nil) (fun a hE => pld ?_)))
          exact qCE ⟨k99, by omega, _, (w64 (x83 + 1)), by omega, hE, .of, hS, H⟩
         ·
          replace hE := hE.bfn 91 c147
          refine ct hE (sq fun K148 hK148 => pl0 (plc hE (.r 0 1 .nil) (fun a hE => pld (hK148 _ _ (wp_ret (qCC (qCB (qCB (qCC (qCB ?_))))))))))
          replace hS := hS.tail
          replace hS := hS.tail
          obtain rfl := si H
          exact rt1 hE ⟨_, rfl, _, rfl, hS⟩
      ·
       replace hE := hE.kf 52 c90
       refine cf hE ?_
       refine wp_exit ?_
       refine hK81 _ _ (sq fun K149 hK149 => pl0 (plc hE (.r 0 1 .nil) (fun a hE => pld (hK149 _ _ (wp_ret ?_)))))
       replace hS := hS.tail
       replace hS := hS.tail
       obtain rfl := si H
       exact rt1 hE ⟨_, rfl, _, rfl, hS⟩
   refine sq fun K50 hK50 => pl0 ?_
   have hb2 := hS.blk_at (i := 0) rfl
   refine plc hE (.bn 0 0 7 hb2 <| .r 1 1 <| .nil) (fun a hE => ?_)
   obtain ⟨t52, h53, H⟩ := bd H
   refine ple hE (.cl en25 (qAD.calls k27 x0_ x1_ _ _ _ _ _ _ _ _ _ hS.own.sub g0_4 g0_5 g0_6 h53)) ?_
   rintro _ u51 a ⟨F54, A55, c56, rfl, hC⟩ hE
   have hs := hC.sub
   replace hS := hS.called (X := []) hC
   replace g2_0 := g2_0.mono hs
   replace g17 := g17.mono hs
   replace g0_4 := g0_4.mono hs
   replace g0_5 := g0_5.mono hs
   replace g0_6 := g0_6.mono hs
   refine plc hE (.r 3 1 .nil) (fun a hE => pld (hK50 _ _ (sq fun K59 hK59 => pl0 ?_)))
   have hb2 := hS.blk_at (i := 1) rfl
   refine plc hE (.r 0 3 <| .b 3 2 hb2 <| .r 4 1 <| .nil) (fun a hE => pld (hK59 _ _ ?_))
   rcases sp H with ⟨c60, H⟩ | ⟨c60, H⟩
   ·
    replace hE := hE.kt 44 c60
    refine ct hE (pl0 (plc hE (.r 0 2 .nil) (fun a hE => ?_)))
    obtain ⟨F64, hs, g65, hS⟩ := hS.give
    replace g2_0 := g2_0.mono hs
    replace g17 := g17.mono hs
    replace g0_4 := g0_4.mono hs
    replace g0_5 := g0_5.mono hs
    replace g0_6 := g0_6.mono hs
    refine ple hE (.lit (d := (Kn.slice (Kn.int .i64))) (e := 36) hS [t52] (.cons ⟨_, _, rfl, g65⟩ .nil)) ?_
    rintro _ u61 a ⟨A62, c63, rfl, hS, hg⟩ hE
    obtain ⟨c67, H⟩ := gd H
    replace hS := hS.front 2 rfl
    refine ple hE (.ap (d := (Kn.slice (Kn.int .i64))) 24 hS (qCM (hS.row_at (i := 1) rfl)) c67 c63) ?_
    rintro _ u70 a ⟨A68, c69, rfl, hS, hz⟩ hE
    refine plc hE (.r 4 1 .nil) (fun a hE => pld ?_)
    replace hS := hS.front 1 rfl
    replace hS := hS.tail
    replace hS := hS.front 1 rfl
    exact J79 _ (by omega) _ A68 c69 (l23 ++ [t52]) F64 _ _ hE .of hS g2_0 g0_4 g0_5 g0_6 H
   ·
    replace hE := hE.kf 44 c60
    refine cf hE (wp_skip ?_)
    replace hS := hS.tail
    exact J79 _ (by omega) _ A21 c22 l23 F54 _ _ hE .of hS g2_0 g0_4 g0_5 g0_6 H
def qBT.f (k : Nat) (x0_ : Int) (xf0_ : List Int) : Option Bool := (qAT.f k xf0_ x0_).bind fun t4 => (some (!t4))
def qBT.Post (W F : World) (r : Bool) (v : Value) (w' : World) : Prop := ∃ (F' : World), v = .bool r ∧ St W (mine W []) F w' F' []
theorem qBT.calls (k : Nat) (x0_ : Int) (xf0_ : List Int) (pf0_ : Nat) (Af0_0 : Option Addr) (cf0_0 : Nat) (r : Bool) (W F : World) (hown : Sub F W) (gf0_0 : Rd (Kn.int .i64) F Af0_0 cf0_0 xf0_) (hpf0_ : F.heap[pf0_]? = some (.cells #[.slice Af0_0 xf0_.length cf0_0] 36 (0, 0))) (H : qBT.f k x0_ xf0_ = some r) :
    Calls Tryz.prog 117 #[.int .i64 x0_, .pointer (some ⟨pf0_, 0, none⟩)] W fun e w' => ∃ v, e = .returned v ∧ qBT.Post W F r v w' := by
 have hS := St.start (Own.nil hown)
 unfold qBT.f at H
 refine enter (n := 8) rfl rfl rfl (Nat.le_of_ble_eq_true rfl) (fun a hE => ?_)
 refine sq fun K1 hK1 => pl0 (plc hE (.r 0 1 .nil) (fun a hE => pld (hK1 _ _ (sq fun K2 hK2 => pl0 (plc hE (.b 0 0 (hS.own.sub _ _ _ _ hpf0_) <| .r 1 1 <| .nil) (fun a hE => ?_))))))
 obtain ⟨t4, h5, H⟩ := bd H
 refine ple hE (.cl en118 (qAT.calls k xf0_ x0_ _ _ _ _ _ hS.own.sub gf0_0 h5)) ?_
 rintro _ u3 a ⟨_, rfl, hC⟩ hE
 replace hS := hS.lent hC
 refine plc hE (.r 3 2 .nil) (fun a hE => pld (hK2 _ _ (wp_ret ?_)))
 obtain rfl := si H
 exact rt1 hE ⟨_, rfl, _, rfl, hS⟩
def qd.l5 : Nat → List Int → List Int → Int → Option Int
  | 0, _, _, _ => none
  | k + 1, x0_, x1c0_, x4 => if x4 < (x0_.length : Int) then (if 0 ≤ x4 ∧ x4 < (x0_.length : Int) then ((qBT.f k (nth 0 x0_ x4) x1c0_).bind fun t21 => (if t21 = true then (some x4) else (qd.l5 k x0_ x1c0_ (w64 (x4 + 1))))) else (none)) else (some (-1))
theorem qd.l5_s (k : Nat) (x0_ : List Int) (x1c0_ : List Int) (x4 : Int) : qd.l5 (k + 1) x0_ x1c0_ x4 = (if x4 < (x0_.length : Int) then (if 0 ≤ x4 ∧ x4 < (x0_.length : Int) then ((qBT.f k (nth 0 x0_ x4) x1c0_).bind fun t21 => (if t21 = true then (some x4) else (qd.l5 k x0_ x1c0_ (w64 (x4 + 1))))) else (none)) else (some (-1))) := by kernel_rfl
def qd.f (k : Nat) (x0_ : List Int) (x1c0_ : List Int) : Option Int := qd.l5 k x0_ x1c0_ 0
def qd.Post (W F : World) (r : Int) (v : Value) (w' : World) : Prop := ∃ (F' : World), v = .int .i64 r ∧ St W (mine W []) F w' F' []
theorem qd.calls (k : Nat) (x0_ : List Int) (x1c0_ : List Int) (A0_0 : Option Addr) (c0_0 : Nat) (p1c0_ : Nat) (A1c0_0 : Option Addr) (c1c0_0 : Nat) (r : Int) (W F : World) (hown : Sub F W) (g0_0 : Rd (Kn.int .i64) F A0_0 c0_0 x0_) (g1c0_0 : Rd (Kn.int .i64) F A1c0_0 c1c0_0 x1c0_) (hp1c0_ : F.heap[p1c0_]? = some (.cells #[.slice A1c0_0 x1c0_.length c1c0_0] 36 (0, 0))) (H : qd.f k x0_ x1c0_ = some r) :
    Calls Tryz.prog 157 #[.slice A0_0 x0_.length c0_0, .func (.func 117) #[] #[.pointer (some ⟨p1c0_, 0, none⟩)]] W fun e w' => ∃ v, e = .returned v ∧ qd.Post W F r v w' := by
 have hS := St.start (Own.nil hown)
 unfold qd.f at H
 refine enter (n := 19) rfl rfl rfl (Nat.le_of_ble_eq_true rfl) (fun a hE => ?_)
 refine sq fun K1 hK1 => pl0 (plc hE (.r 0 1 .nil) (fun a hE => pld (hK1 _ _ (sq fun K2 hK2 => sq fun K3 hK3 => pl0 (plc hE (.r 0 3 .nil) (fun a hE => pld (hK3 _ _ (wp_block ?_))))))))
 refine wp_loop_ghost (fun kq6 a w' => ∃ (G : Nat → Value) (x4 : Int), kq6 ≤ k ∧ Env 19 G a ∧ At G [(0, .slice A0_0 x0_.length c0_0), (1, .func (.func 117) #[] #[.pointer (some ⟨p1c0_, 0, none⟩)]), (7, .int .i64 (x0_.length : Int)), (8, .int .i64 x4)] ∧ St W (mine W []) F w' F [] ∧  qd.l5 kq6 x0_ x1c0_ x4 = some r) k ⟨_, 0, Nat.le_refl _, hE, .of, hS, H⟩ ?_
 rintro kq6 a u8 ⟨G, x4, hkq, hE, hA, hS, H⟩
 cases kq6 with
 | zero => cases (show none = some r from H)
 | succ k7 =>
  rw [qd.l5_s] at H
  obtain ⟨J, hE⟩ := hE.at hA
  refine sq fun K9 hK9 => pl0 (plc hE (.r 0 1 .nil) (fun a hE => pld (hK9 _ _ (sq fun K10 hK10 => ?_))))
  rcases sp H with ⟨c11, H⟩ | ⟨c11, H⟩
  ·
   replace hE := hE.kt 9 c11
   refine ct hE (wp_skip (hK10 _ _ (sq fun K12 hK12 => wp_block (sq fun K13 hK13 => pl0 (plc hE (.r 0 2 .nil) (fun a hE => pld (hK13 _ _ (sq fun K14 hK14 => pl0 ?_))))))))
   obtain ⟨c15, H⟩ := gd H
   have hE_ := hE
   obtain ⟨ad16, rfl⟩ := g0_0.addr c15.1 c15.2
   replace hE := hE_
   obtain ⟨cs18, rfl, hc19⟩ := g0_0.el 0 x4 c15.1 c15.2
   refine plc hE (.r 0 3 <| .x 3 c15 <| .c 4 (hS.fc hc19 0) <| .nil) (fun a hE => ?_)
   obtain ⟨t21, h22, H⟩ := bd H
   refine ple hE (.cl en117 (qBT.calls k7 (nth 0 x0_ x4) x1c0_ _ _ _ _ _ _ hS.own.sub g1c0_0 hp1c0_ h22)) ?_
   rintro _ u20 a ⟨_, rfl, hC⟩ hE
   replace hS := hS.lent hC
   refine pld (hK14 _ _ ?_)
   rcases sp H with ⟨c23, H⟩ | ⟨c23, H⟩
   ·
    replace hE := hE.bt 16 c23
    refine ct hE (sq fun K24 hK24 => pl0 (plc hE (.r 0 2 .nil) (fun a hE => pld (hK24 _ _ (wp_ret (qCC (qCB (qCB (qCC (qCB ?_))))))))))
    obtain rfl := si H
    exact rt1 hE ⟨_, rfl, _, rfl, hS⟩
   ·
    replace hE := hE.bf 16 c23
    refine cf hE (wp_skip ?_)
    refine qCD ?_
    refine hK12 _ _ (pl0 (plc hE (.r 0 2 .nil) (fun a hE => pld ?_)))
    exact qCE ⟨k7, by omega, _, (w64 (x4 + 1)), by omega, hE, .of, hS, H⟩
  ·
   replace hE := hE.kf 9 c11
   refine cf hE ?_
   refine wp_exit ?_
   refine hK2 _ _ (sq fun K25 hK25 => pl0 (plc hE (.r 0 1 .nil) (fun a hE => pld (hK25 _ _ (wp_ret ?_)))))
   obtain rfl := si H
   exact rt1 hE ⟨_, rfl, _, rfl, hS⟩
def qv.f (k : Nat) (x0_ : List Int) (x1c0_ : List Int) : Option Bool := (qd.f k x0_ x1c0_).bind fun t4 => (some (decide (t4 ≥ 0)))
def qv.Post (W F : World) (r : Bool) (v : Value) (w' : World) : Prop := ∃ (F' : World), v = .bool r ∧ St W (mine W []) F w' F' []
theorem qv.calls (k : Nat) (x0_ : List Int) (x1c0_ : List Int) (A0_0 : Option Addr) (c0_0 : Nat) (p1c0_ : Nat) (A1c0_0 : Option Addr) (c1c0_0 : Nat) (r : Bool) (W F : World) (hown : Sub F W) (g0_0 : Rd (Kn.int .i64) F A0_0 c0_0 x0_) (g1c0_0 : Rd (Kn.int .i64) F A1c0_0 c1c0_0 x1c0_) (hp1c0_ : F.heap[p1c0_]? = some (.cells #[.slice A1c0_0 x1c0_.length c1c0_0] 36 (0, 0))) (H : qv.f k x0_ x1c0_ = some r) :
    Calls Tryz.prog 107 #[.slice A0_0 x0_.length c0_0, .func (.func 117) #[] #[.pointer (some ⟨p1c0_, 0, none⟩)]] W fun e w' => ∃ v, e = .returned v ∧ qv.Post W F r v w' := by
 have hS := St.start (Own.nil hown)
 unfold qv.f at H
 refine enter (n := 9) rfl rfl rfl (Nat.le_of_ble_eq_true rfl) (fun a hE => ?_)
 refine sq fun K1 hK1 => pl0 (plc hE (.r 0 1 .nil) (fun a hE => pld (hK1 _ _ (sq fun K2 hK2 => pl0 (plc hE (.r 0 2 .nil) (fun a hE => ?_))))))
 obtain ⟨t4, h5, H⟩ := bd H
 refine ple hE (.cl en157 (qd.calls k x0_ x1c0_ _ _ _ _ _ _ _ _ hS.own.sub g0_0 g1c0_0 hp1c0_ h5)) ?_
 rintro _ u3 a ⟨_, rfl, hC⟩ hE
 replace hS := hS.lent hC
 refine plc hE (.r 3 2 .nil) (fun a hE => pld (hK2 _ _ (wp_ret ?_)))
 obtain rfl := si H
 exact rt1 hE ⟨_, rfl, _, rfl, hS⟩
def qBU.f (k : Nat) (x0_ : qD) (xf0n0_ : List Int) : Option Bool := (qv.f k x0_.f1 xf0n0_).bind fun t6 => (some (!t6))
def qBU.Post (W F : World) (r : Bool) (v : Value) (w' : World) : Prop := ∃ (F' : World), v = .bool r ∧ St W (mine W []) F w' F' []
theorem qBU.calls (k : Nat) (x0_ : qD) (xf0n0_ : List Int) (A0_1 : Option Addr) (c0_1 : Nat) (pf0_ : Nat) (pf0n0_ : Nat) (Af0n0_0 : Option Addr) (cf0n0_0 : Nat) (r : Bool) (W F : World) (hown : Sub F W) (g0_1 : Rd (Kn.int .i64) F A0_1 c0_1 x0_.f1) (gf0n0_0 : Rd (Kn.int .i64) F Af0n0_0 cf0n0_0 xf0n0_) (hpf0n0_ : F.heap[pf0n0_]? = some (.cells #[.slice Af0n0_0 xf0n0_.length cf0n0_0] 36 (0, 0))) (hpf0_ : F.heap[pf0_]? = some (.cells #[.func (.func 117) #[] #[.pointer (some ⟨pf0n0_, 0, none⟩)]] 129 (0, 0))) (H : qBU.f k x0_ xf0n0_ = some r) :
    Calls Tryz.prog 120 #[.agg #[.int .i64 x0_.f0, .slice A0_1 x0_.f1.length c0_1], .pointer (some ⟨pf0_, 0, none⟩)] W fun e w' => ∃ v, e = .returned v ∧ qBU.Post W F r v w' := by
 have hS := St.start (Own.nil hown)
 unfold qBU.f at H
 refine enter (n := 9) rfl rfl rfl (Nat.le_of_ble_eq_true rfl) (fun a hE => ?_)
 refine sq fun K1 hK1 => pl0 (ple hE (.bx (t := 51) hS [.int .i64 x0_.f0, .slice A0_1 x0_.f1.length c0_1]) ?_)
 rintro _ u3 a ⟨b2, rfl, hb2, hS, hg⟩ hE
 refine plc hE (.r 1 1 .nil) (fun a hE => pld (hK1 _ _ (sq fun K4 hK4 => pl0 (plc hE (.r 0 1 <| .b 1 1 hb2 <| .b 2 0 (hS.own.sub _ _ _ _ hpf0_) <| .nil) (fun a hE => ?_)))))
 obtain ⟨t6, h7, H⟩ := bd H
 refine ple hE (.cl en107 (qv.calls k x0_.f1 xf0n0_ _ _ _ _ _ _ _ _ hS.own.sub g0_1 gf0n0_0 hpf0n0_ h7)) ?_
 rintro _ u5 a ⟨_, rfl, hC⟩ hE
 replace hS := hS.lent hC
 refine plc hE (.r 4 2 .nil) (fun a hE => pld (hK4 _ _ (wp_ret ?_)))
 replace hS := hS.tail
 obtain rfl := si H
 exact rt1 hE ⟨_, rfl, _, rfl, hS⟩
def qY.l5 : Nat → List qD → List Int → Int → Option Int
  | 0, _, _, _ => none
  | k + 1, x0_, x1c0n0_, x4 => if x4 < (x0_.length : Int) then (if 0 ≤ x4 ∧ x4 < (x0_.length : Int) then ((qBU.f k (⟨(nth qD.z x0_ x4).f0, (nth qD.z x0_ x4).f1⟩ : qD) x1c0n0_).bind fun t24 => (if t24 = true then (some x4) else (qY.l5 k x0_ x1c0n0_ (w64 (x4 + 1))))) else (none)) else (some (-1))
theorem qY.l5_s (k : Nat) (x0_ : List qD) (x1c0n0_ : List Int) (x4 : Int) : qY.l5 (k + 1) x0_ x1c0n0_ x4 = (if x4 < (x0_.length : Int) then (if 0 ≤ x4 ∧ x4 < (x0_.length : Int) then ((qBU.f k (⟨(nth qD.z x0_ x4).f0, (nth qD.z x0_ x4).f1⟩ : qD) x1c0n0_).bind fun t24 => (if t24 = true then (some x4) else (qY.l5 k x0_ x1c0n0_ (w64 (x4 + 1))))) else (none)) else (some (-1))) := by kernel_rfl
def qY.f (k : Nat) (x0_ : List qD) (x1c0n0_ : List Int) : Option Int := qY.l5 k x0_ x1c0n0_ 0
def qY.Post (W F : World) (r : Int) (v : Value) (w' : World) : Prop := ∃ (F' : World), v = .int .i64 r ∧ St W (mine W []) F w' F' []
theorem qY.calls (k : Nat) (x0_ : List qD) (x1c0n0_ : List Int) (A0_0 : Option Addr) (c0_0 : Nat) (p1c0_ : Nat) (p1c0n0_ : Nat) (A1c0n0_0 : Option Addr) (c1c0n0_0 : Nat) (r : Int) (W F : World) (hown : Sub F W) (g0_0 : Rd qD.k F A0_0 c0_0 x0_) (g1c0n0_0 : Rd (Kn.int .i64) F A1c0n0_0 c1c0n0_0 x1c0n0_) (hp1c0n0_ : F.heap[p1c0n0_]? = some (.cells #[.slice A1c0n0_0 x1c0n0_.length c1c0n0_0] 36 (0, 0))) (hp1c0_ : F.heap[p1c0_]? = some (.cells #[.func (.func 117) #[] #[.pointer (some ⟨p1c0n0_, 0, none⟩)]] 129 (0, 0))) (H : qY.f k x0_ x1c0n0_ = some r) :
    Calls Tryz.prog 163 #[.slice A0_0 x0_.length c0_0, .func (.func 120) #[] #[.pointer (some ⟨p1c0_, 0, none⟩)]] W fun e w' => ∃ v, e = .returned v ∧ qY.Post W F r v w' := by
 have hS := St.start (Own.nil hown)
 unfold qY.f at H
 refine enter (n := 19) rfl rfl rfl (Nat.le_of_ble_eq_true rfl) (fun a hE => ?_)
 refine sq fun K1 hK1 => pl0 (plc hE (.r 0 1 .nil) (fun a hE => pld (hK1 _ _ (sq fun K2 hK2 => sq fun K3 hK3 => pl0 (plc hE (.r 0 3 .nil) (fun a hE => pld (hK3 _ _ (wp_block ?_))))))))
 refine wp_loop_ghost (fun kq6 a w' => ∃ (G : Nat → Value) (x4 : Int), kq6 ≤ k ∧ Env 19 G a ∧ At G [(0, .slice A0_0 x0_.length c0_0), (1, .func (.func 120) #[] #[.pointer (some ⟨p1c0_, 0, none⟩)]), (7, .int .i64 (x0_.length : Int)), (8, .int .i64 x4)] ∧ St W (mine W []) F w' F [] ∧  qY.l5 kq6 x0_ x1c0n0_ x4 = some r) k ⟨_, 0, Nat.le_refl _, hE, .of, hS, H⟩ ?_
 rintro kq6 a u8 ⟨G, x4, hkq, hE, hA, hS, H⟩
 cases kq6 with
 | zero => cases (show none = some r from H)
 | succ k7 =>
  rw [qY.l5_s] at H
  obtain ⟨J, hE⟩ := hE.at hA
  refine sq fun K9 hK9 => pl0 (plc hE (.r 0 1 .nil) (fun a hE => pld (hK9 _ _ (sq fun K10 hK10 => ?_))))
  rcases sp H with ⟨c11, H⟩ | ⟨c11, H⟩
  ·
   replace hE := hE.kt 9 c11
   refine ct hE (wp_skip (hK10 _ _ (sq fun K12 hK12 => wp_block (sq fun K13 hK13 => pl0 (plc hE (.r 0 2 .nil) (fun a hE => pld (hK13 _ _ (sq fun K14 hK14 => pl0 ?_))))))))
   obtain ⟨c15, H⟩ := gd H
   have hE_ := hE
   obtain ⟨ad16, rfl⟩ := g0_0.addr c15.1 c15.2
   replace hE := hE_
   obtain ⟨cs18, ⟨A20, c21, rfl, g22⟩, hc19⟩ := g0_0.el qD.z x4 c15.1 c15.2
   refine plc hE (.r 0 3 <| .x 3 c15 <| .cs 4 (hS.fcs hc19) <| .nil) (fun a hE => ?_)
   obtain ⟨t24, h25, H⟩ := bd H
   refine ple hE (.cl en120 (qBU.calls k7 (⟨(nth qD.z x0_ x4).f0, (nth qD.z x0_ x4).f1⟩ : qD) x1c0n0_ _ _ _ _ _ _ _ _ _ hS.own.sub g22 g1c0n0_0 hp1c0n0_ hp1c0_ h25)) ?_
   rintro _ u23 a ⟨_, rfl, hC⟩ hE
   replace hS := hS.lent hC
   refine pld (hK14 _ _ ?_)
   rcases sp H with ⟨c26, H⟩ | ⟨c26, H⟩
   ·
    replace hE := hE.bt 16 c26
    refine ct hE (sq fun K27 hK27 => pl0 (plc hE (.r 0 2 .nil) (fun a hE => pld (hK27 _ _ (wp_ret (qCC (qCB (qCB (qCC (qCB ?_))))))))))
    obtain rfl := si H
    exact rt1 hE ⟨_, rfl, _, rfl, hS⟩
   ·
    replace hE := hE.bf 16 c26
    refine cf hE (wp_skip ?_)
    refine qCD ?_
    refine hK12 _ _ (pl0 (plc hE (.r 0 2 .nil) (fun a hE => pld ?_)))
    exact qCE ⟨k7, by omega, _, (w64 (x4 + 1)), by omega, hE, .of, hS, H⟩
  ·
   replace hE := hE.kf 9 c11
   refine cf hE ?_
   refine wp_exit ?_
   refine hK2 _ _ (sq fun K28 hK28 => pl0 (plc hE (.r 0 1 .nil) (fun a hE => pld (hK28 _ _ (wp_ret ?_)))))
   obtain rfl := si H
   exact rt1 hE ⟨_, rfl, _, rfl, hS⟩
def qq.f (k : Nat) (x0_ : List qD) (x1c0n0_ : List Int) : Option Bool := (qY.f k x0_ x1c0n0_).bind fun t4 => (some (decide (t4 ≥ 0)))
def qq.Post (W F : World) (r : Bool) (v : Value) (w' : World) : Prop := ∃ (F' : World), v = .bool r ∧ St W (mine W []) F w' F' []
theorem qq.calls (k : Nat) (x0_ : List qD) (x1c0n0_ : List Int) (A0_0 : Option Addr) (c0_0 : Nat) (p1c0_ : Nat) (p1c0n0_ : Nat) (A1c0n0_0 : Option Addr) (c1c0n0_0 : Nat) (r : Bool) (W F : World) (hown : Sub F W) (g0_0 : Rd qD.k F A0_0 c0_0 x0_) (g1c0n0_0 : Rd (Kn.int .i64) F A1c0n0_0 c1c0n0_0 x1c0n0_) (hp1c0n0_ : F.heap[p1c0n0_]? = some (.cells #[.slice A1c0n0_0 x1c0n0_.length c1c0n0_0] 36 (0, 0))) (hp1c0_ : F.heap[p1c0_]? = some (.cells #[.func (.func 117) #[] #[.pointer (some ⟨p1c0n0_, 0, none⟩)]] 129 (0, 0))) (H : qq.f k x0_ x1c0n0_ = some r) :
    Calls Tryz.prog 119 #[.slice A0_0 x0_.length c0_0, .func (.func 120) #[] #[.pointer (some ⟨p1c0_, 0, none⟩)]] W fun e w' => ∃ v, e = .returned v ∧ qq.Post W F r v w' := by
 have hS := St.start (Own.nil hown)
 unfold qq.f at H
 refine enter (n := 9) rfl rfl rfl (Nat.le_of_ble_eq_true rfl) (fun a hE => ?_)
 refine sq fun K1 hK1 => pl0 (plc hE (.r 0 1 .nil) (fun a hE => pld (hK1 _ _ (sq fun K2 hK2 => pl0 (plc hE (.r 0 2 .nil) (fun a hE => ?_))))))
 obtain ⟨t4, h5, H⟩ := bd H
 refine ple hE (.cl en163 (qY.calls k x0_ x1c0n0_ _ _ _ _ _ _ _ _ _ hS.own.sub g0_0 g1c0n0_0 hp1c0n0_ hp1c0_ h5)) ?_
 rintro _ u3 a ⟨_, rfl, hC⟩ hE
 replace hS := hS.lent hC
 refine plc hE (.r 3 2 .nil) (fun a hE => pld (hK2 _ _ (wp_ret ?_)))
 obtain rfl := si H
 exact rt1 hE ⟨_, rfl, _, rfl, hS⟩
end Go.Proofs.YtpohepinmjmbkaaGreat.QS
