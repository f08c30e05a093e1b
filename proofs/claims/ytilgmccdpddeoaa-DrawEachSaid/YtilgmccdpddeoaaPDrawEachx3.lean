-- written by wip/pp.py
import Derived.Test.YtilgmccdpddeoaaPDrawEachx0
import Derived.Test.YtilgmccdpddeoaaPDrawEachx1
import Derived.Test.YtilgmccdpddeoaaPDrawEachx2
namespace Go.Proofs.Ytilgmccdpddeoaa.PDrawEach
open Go.RowKit Go.Proofs.YtilgmccdpddeoaaW.PrintWords Go.Proofs.YtilgmccdpddeoaaW.PrintLast Go.Proofs.YtilgmccdpddeoaaW.PrintMore
attribute [local go_sem] max2_int min2_int max_two min_two max_three min_three max_four min_four   -- for this text's walks alone
set_option linter.unusedVariables false
set_option linter.unusedSimpArgs false

/-! ### windroseref05_May: function 47 -/
def windroseref05_May.l0 : Nat → List (S85) → Int → Option (Bool)
  | 0, _, _ => none
  | k + 1, x0, x3 => if x3 < (x0.length : Int) then (if 0 ≤ x3 then (if ((rd_T85 x0 x3).f0) < 0 then (some false) else (if ((rd_T85 x0 x3).f0) ≥ 2147483648 then (some false) else (if ((rd_T85 x0 x3).f1) < 0 then (some false) else (if ((rd_T85 x0 x3).f1) > 65536 then (some false) else (if x3 > 0 then (if 0 ≤ (wrap64 (x3 - 1)) then (if (wrap64 (x3 - 1)) < (x0.length : Int) then (if ((rd_T85 x0 (wrap64 (x3 - 1))).f0) ≥ ((rd_T85 x0 x3).f0) then (some false) else (windroseref05_May.l0 k x0 (wrap64 (x3 + 1)))) else (none)) else (none)) else (windroseref05_May.l0 k x0 (wrap64 (x3 + 1)))))))) else (none)) else (some (decide ((x0.length : Int) ≤ 64)))
def windroseref05_May.f (k : Nat) (l0 : List (S85)) : Option (Bool) := windroseref05_May.l0 k l0 0
theorem windroseref05_May.mono_l : ∀ k, (∀ y0 y1, LeO (windroseref05_May.l0 k y0 y1) (windroseref05_May.l0 (k + 1) y0 y1))
  | 0 => fun _ _ r h => by simp [windroseref05_May.l0] at h
  | k + 1 => by
    have ih0 := windroseref05_May.mono_l k
    · intro y0 y1
      unfold windroseref05_May.l0
      repeat' first
      | (with_reducible exact ih0 _ _)
      | (with_reducible exact LeO.refl _)
      | (with_reducible exact LeO.none _)
      | (with_reducible refine LeO.ite ?_ ?_)
      | (with_reducible refine LeO.bind ?_ (fun _ => ?_))
      | exact ih0 _ _
      | exact LeO.none _
      | refine LeO.ite ?_ ?_
      | refine LeO.bind ?_ (fun _ => ?_)
theorem windroseref05_May.mono : ∀ a0 k, LeO (windroseref05_May.f k a0) (windroseref05_May.f (k + 1) a0) := by
  intro a0 k
  have ih0 := windroseref05_May.mono_l k
  unfold windroseref05_May.f
  repeat' first
      | (with_reducible exact ih0 _ _)
      | (with_reducible exact LeO.refl _)
      | (with_reducible exact LeO.none _)
      | (with_reducible refine LeO.ite ?_ ?_)
      | (with_reducible refine LeO.bind ?_ (fun _ => ?_))
      | exact ih0 _ _
      | exact LeO.none _
      | refine LeO.ite ?_ ?_
      | refine LeO.bind ?_ (fun _ => ?_)
set_option maxHeartbeats 8000000 in
set_option maxRecDepth 100000 in
theorem windroseref05_May.calls (k : Nat) (A0 : Option Addr) (c0 : Nat) (l0 : List (S85)) (r : Bool) (w : World) (hr0 : Kd.C k85 w A0 l0.length l0) (hc0 : l0.length ≤ c0) (h : windroseref05_May.f k l0 = some r) :
    Calls Try.prog 47 #[.slice A0 l0.length c0] w fun e w' => e = .returned (.bool r) ∧ Drawn0 w w' := by
  have HR0 := Aside0.mk hr0
  have HC0 := Aside0.mk hc0
  clear hr0 hc0
  have H : (windroseref05_May.l0 k l0 0) = some r := h
  clear h
  have H' := Aside0.mk H
  clear H
  go_enter Try.func47, Try.ntmps47
  go_wp2
  repeat (go_quiet (fail); try go_wp2)
  go_loopg [3] k (fun kq v3 w' => ∃ (x3_1 : Int), v3 = .int .i64 x3_1 ∧ Aside0 (windroseref05_May.l0 kq l0 x3_1 = some r) ∧ Aside0 (kq ≤ k) ∧ Drawn0 w w')
  case atStart => exact ⟨(0), (by first | rfl | (simp; done) | (simp [*]; done)), H', ⟨Nat.le_refl _⟩, by repeat (first | exact Drawn0.refl _ | apply Drawn0.step)⟩
  case round =>
    clear H'
    obtain ⟨x3_1, rfl, HA, HK1, ⟨m1, rfl⟩⟩ := hrel
    cases gk with
    | zero => exact absurd HA.out (by simp [windroseref05_May.l0])
    | succ k1 =>
      have H := HA.out
      clear HA
      simp only [windroseref05_May.l0] at H
      by_cases c2 : x3_1 < (l0.length : Int)
      · rw [if_pos c2] at H
        have c2b0 : decide (x3_1 < (l0.length : Int)) = true := decide_eq_true c2
        clear c2
        by_cases c3 : 0 ≤ x3_1
        · rw [if_pos c3] at H
          have c3b0 : decide (0 ≤ x3_1) = true := decide_eq_true c3
          clear c3
          by_cases c4 : ((rd_T85 l0 x3_1).f0) < 0
          · rw [if_pos c4] at H
            have c4b0 : decide (((rd_T85 l0 x3_1).f0) < 0) = true := decide_eq_true c4
            clear c4
            obtain rfl := Option.some.inj H
            have p131 : 0 ≤ (x3_1 : Int) := of_decide_eq_true (by first | (with_reducible assumption) | assumption)
            have q131 : x3_1 < (l0.length : Int) := of_decide_eq_true (by first | (with_reducible assumption) | assumption)
            obtain ⟨ad131, e131, hx131_0, hx131_1⟩ := at_T85 HR0.out x3_1 p131 q131
            cases e131
            replace p131 := eq_true p131
            replace q131 := eq_true q131
            go_wp2
            repeat (go_quiet (fail); try go_wp2)
            go_ret
            exact ⟨by first | rfl | (simp; done) | (simp [*]; done), by repeat (first | exact Drawn0.refl _ | apply Drawn0.step)⟩
          · rw [if_neg c4] at H
            have c4b0 : decide (((rd_T85 l0 x3_1).f0) < 0) = false := decide_eq_false c4
            clear c4
            by_cases c5 : ((rd_T85 l0 x3_1).f0) ≥ 2147483648
            · rw [if_pos c5] at H
              have c5b0 : decide (2147483648 ≤ ((rd_T85 l0 x3_1).f0)) = true := decide_eq_true c5
              clear c5
              obtain rfl := Option.some.inj H
              have p131 : 0 ≤ (x3_1 : Int) := of_decide_eq_true (by first | (with_reducible assumption) | assumption)
              have q131 : x3_1 < (l0.length : Int) := of_decide_eq_true (by first | (with_reducible assumption) | assumption)
              obtain ⟨ad131, e131, hx131_0, hx131_1⟩ := at_T85 HR0.out x3_1 p131 q131
              cases e131
              replace p131 := eq_true p131
              replace q131 := eq_true q131
              have p132 : 0 ≤ (x3_1 : Int) := of_decide_eq_true (by first | (with_reducible assumption) | assumption)
              have q132 : x3_1 < (l0.length : Int) := of_decide_eq_true (by first | (with_reducible assumption) | assumption)
              obtain ⟨ad132, e132, hx132_0, hx132_1⟩ := at_T85 HR0.out x3_1 p132 q132
              obtain rfl : ad131 = ad132 := (by injection e132)
              replace p132 := eq_true p132
              replace q132 := eq_true q132
              go_wp2
              repeat (go_quiet (fail); try go_wp2)
              go_ret
              exact ⟨by first | rfl | (simp; done) | (simp [*]; done), by repeat (first | exact Drawn0.refl _ | apply Drawn0.step)⟩
            · rw [if_neg c5] at H
              have c5b0 : decide (2147483648 ≤ ((rd_T85 l0 x3_1).f0)) = false := decide_eq_false c5
              clear c5
              by_cases c6 : ((rd_T85 l0 x3_1).f1) < 0
              · rw [if_pos c6] at H
                have c6b0 : decide (((rd_T85 l0 x3_1).f1) < 0) = true := decide_eq_true c6
                clear c6
                obtain rfl := Option.some.inj H
                have p131 : 0 ≤ (x3_1 : Int) := of_decide_eq_true (by first | (with_reducible assumption) | assumption)
                have q131 : x3_1 < (l0.length : Int) := of_decide_eq_true (by first | (with_reducible assumption) | assumption)
                obtain ⟨ad131, e131, hx131_0, hx131_1⟩ := at_T85 HR0.out x3_1 p131 q131
                cases e131
                replace p131 := eq_true p131
                replace q131 := eq_true q131
                have p132 : 0 ≤ (x3_1 : Int) := of_decide_eq_true (by first | (with_reducible assumption) | assumption)
                have q132 : x3_1 < (l0.length : Int) := of_decide_eq_true (by first | (with_reducible assumption) | assumption)
                obtain ⟨ad132, e132, hx132_0, hx132_1⟩ := at_T85 HR0.out x3_1 p132 q132
                obtain rfl : ad131 = ad132 := (by injection e132)
                replace p132 := eq_true p132
                replace q132 := eq_true q132
                have p133 : 0 ≤ (x3_1 : Int) := of_decide_eq_true (by first | (with_reducible assumption) | assumption)
                have q133 : x3_1 < (l0.length : Int) := of_decide_eq_true (by first | (with_reducible assumption) | assumption)
                obtain ⟨ad133, e133, hx133_0, hx133_1⟩ := at_T85 HR0.out x3_1 p133 q133
                obtain rfl : ad131 = ad133 := (by injection e133)
                replace p133 := eq_true p133
                replace q133 := eq_true q133
                go_wp2
                repeat (go_quiet (fail); try go_wp2)
                go_ret
                exact ⟨by first | rfl | (simp; done) | (simp [*]; done), by repeat (first | exact Drawn0.refl _ | apply Drawn0.step)⟩
              · rw [if_neg c6] at H
                have c6b0 : decide (((rd_T85 l0 x3_1).f1) < 0) = false := decide_eq_false c6
                clear c6
                by_cases c7 : ((rd_T85 l0 x3_1).f1) > 65536
                · rw [if_pos c7] at H
                  have c7b0 : decide (65536 < ((rd_T85 l0 x3_1).f1)) = true := decide_eq_true c7
                  clear c7
                  obtain rfl := Option.some.inj H
                  have p131 : 0 ≤ (x3_1 : Int) := of_decide_eq_true (by first | (with_reducible assumption) | assumption)
                  have q131 : x3_1 < (l0.length : Int) := of_decide_eq_true (by first | (with_reducible assumption) | assumption)
                  obtain ⟨ad131, e131, hx131_0, hx131_1⟩ := at_T85 HR0.out x3_1 p131 q131
                  cases e131
                  replace p131 := eq_true p131
                  replace q131 := eq_true q131
                  have p132 : 0 ≤ (x3_1 : Int) := of_decide_eq_true (by first | (with_reducible assumption) | assumption)
                  have q132 : x3_1 < (l0.length : Int) := of_decide_eq_true (by first | (with_reducible assumption) | assumption)
                  obtain ⟨ad132, e132, hx132_0, hx132_1⟩ := at_T85 HR0.out x3_1 p132 q132
                  obtain rfl : ad131 = ad132 := (by injection e132)
                  replace p132 := eq_true p132
                  replace q132 := eq_true q132
                  have p133 : 0 ≤ (x3_1 : Int) := of_decide_eq_true (by first | (with_reducible assumption) | assumption)
                  have q133 : x3_1 < (l0.length : Int) := of_decide_eq_true (by first | (with_reducible assumption) | assumption)
                  obtain ⟨ad133, e133, hx133_0, hx133_1⟩ := at_T85 HR0.out x3_1 p133 q133
                  obtain rfl : ad131 = ad133 := (by injection e133)
                  replace p133 := eq_true p133
                  replace q133 := eq_true q133
                  have p134 : 0 ≤ (x3_1 : Int) := of_decide_eq_true (by first | (with_reducible assumption) | assumption)
                  have q134 : x3_1 < (l0.length : Int) := of_decide_eq_true (by first | (with_reducible assumption) | assumption)
                  obtain ⟨ad134, e134, hx134_0, hx134_1⟩ := at_T85 HR0.out x3_1 p134 q134
                  obtain rfl : ad131 = ad134 := (by injection e134)
                  replace p134 := eq_true p134
                  replace q134 := eq_true q134
                  go_wp2
                  repeat (go_quiet (fail); try go_wp2)
                  go_ret
                  exact ⟨by first | rfl | (simp; done) | (simp [*]; done), by repeat (first | exact Drawn0.refl _ | apply Drawn0.step)⟩
                · rw [if_neg c7] at H
                  have c7b0 : decide (65536 < ((rd_T85 l0 x3_1).f1)) = false := decide_eq_false c7
                  clear c7
                  by_cases c8 : x3_1 > 0
                  · rw [if_pos c8] at H
                    have c8b0 : decide (0 < x3_1) = true := decide_eq_true c8
                    clear c8
                    obtain ⟨ji9, hji9⟩ : ∃ j_ : Int, (wrap64 (x3_1 - 1)) = j_ := ⟨_, rfl⟩
                    replace H : (if 0 ≤ (ji9) then (if (ji9) < (l0.length : Int) then (if ((rd_T85 l0 (ji9)).f0) ≥ ((rd_T85 l0 x3_1).f0) then (some false) else (windroseref05_May.l0 k1 l0 (wrap64 (x3_1 + 1)))) else (none)) else (none)) = some r := by first | (rw [hji9] at H; exact H) | (simp only [hji9] at H ⊢; exact H)
                    have hji9w : (IntKind.i64.wrap (x3_1 - 1)) = ji9 := (i64_w _).trans hji9
                    by_cases c10 : 0 ≤ (ji9)
                    · rw [if_pos c10] at H
                      have c10b0 : decide (0 ≤ (ji9)) = true := decide_eq_true c10
                      clear c10
                      by_cases c11 : (ji9) < (l0.length : Int)
                      · rw [if_pos c11] at H
                        have c11b0 : decide ((ji9) < (l0.length : Int)) = true := decide_eq_true c11
                        clear c11
                        by_cases c12 : ((rd_T85 l0 (ji9)).f0) ≥ ((rd_T85 l0 x3_1).f0)
                        · rw [if_pos c12] at H
                          have c12b0 : decide (((rd_T85 l0 x3_1).f0) ≤ ((rd_T85 l0 (ji9)).f0)) = true := decide_eq_true c12
                          clear c12
                          obtain rfl := Option.some.inj H
                          have p131 : 0 ≤ (x3_1 : Int) := of_decide_eq_true (by first | (with_reducible assumption) | assumption)
                          have q131 : x3_1 < (l0.length : Int) := of_decide_eq_true (by first | (with_reducible assumption) | assumption)
                          obtain ⟨ad131, e131, hx131_0, hx131_1⟩ := at_T85 HR0.out x3_1 p131 q131
                          cases e131
                          replace p131 := eq_true p131
                          replace q131 := eq_true q131
                          have p132 : 0 ≤ (x3_1 : Int) := of_decide_eq_true (by first | (with_reducible assumption) | assumption)
                          have q132 : x3_1 < (l0.length : Int) := of_decide_eq_true (by first | (with_reducible assumption) | assumption)
                          obtain ⟨ad132, e132, hx132_0, hx132_1⟩ := at_T85 HR0.out x3_1 p132 q132
                          obtain rfl : ad131 = ad132 := (by injection e132)
                          replace p132 := eq_true p132
                          replace q132 := eq_true q132
                          have p133 : 0 ≤ (x3_1 : Int) := of_decide_eq_true (by first | (with_reducible assumption) | assumption)
                          have q133 : x3_1 < (l0.length : Int) := of_decide_eq_true (by first | (with_reducible assumption) | assumption)
                          obtain ⟨ad133, e133, hx133_0, hx133_1⟩ := at_T85 HR0.out x3_1 p133 q133
                          obtain rfl : ad131 = ad133 := (by injection e133)
                          replace p133 := eq_true p133
                          replace q133 := eq_true q133
                          have p134 : 0 ≤ (x3_1 : Int) := of_decide_eq_true (by first | (with_reducible assumption) | assumption)
                          have q134 : x3_1 < (l0.length : Int) := of_decide_eq_true (by first | (with_reducible assumption) | assumption)
                          obtain ⟨ad134, e134, hx134_0, hx134_1⟩ := at_T85 HR0.out x3_1 p134 q134
                          obtain rfl : ad131 = ad134 := (by injection e134)
                          replace p134 := eq_true p134
                          replace q134 := eq_true q134
                          have p135 : 0 ≤ ((ji9) : Int) := of_decide_eq_true (by first | (with_reducible assumption) | assumption)
                          have q135 : (ji9) < (l0.length : Int) := of_decide_eq_true (by first | (with_reducible assumption) | assumption)
                          obtain ⟨ad135, e135, hx135_0, hx135_1⟩ := at_T85 HR0.out (ji9) p135 q135
                          obtain rfl : ad131 = ad135 := (by injection e135)
                          replace p135 := eq_true p135
                          replace q135 := eq_true q135
                          have p136 : 0 ≤ (x3_1 : Int) := of_decide_eq_true (by first | (with_reducible assumption) | assumption)
                          have q136 : x3_1 < (l0.length : Int) := of_decide_eq_true (by first | (with_reducible assumption) | assumption)
                          obtain ⟨ad136, e136, hx136_0, hx136_1⟩ := at_T85 HR0.out x3_1 p136 q136
                          obtain rfl : ad131 = ad136 := (by injection e136)
                          replace p136 := eq_true p136
                          replace q136 := eq_true q136
                          go_wp2
                          repeat (go_quiet (fail); try go_wp2)
                          go_ret
                          exact ⟨by first | rfl | (simp; done) | (simp only [← hji9] <;> (first | rfl | simp)) | (simp [*]; done), by repeat (first | exact Drawn0.refl _ | apply Drawn0.step)⟩
                        · rw [if_neg c12] at H
                          have c12b0 : decide (((rd_T85 l0 x3_1).f0) ≤ ((rd_T85 l0 (ji9)).f0)) = false := decide_eq_false c12
                          clear c12
                          have H' := Aside0.mk H
                          clear H
                          have p131 : 0 ≤ (x3_1 : Int) := of_decide_eq_true (by first | (with_reducible assumption) | assumption)
                          have q131 : x3_1 < (l0.length : Int) := of_decide_eq_true (by first | (with_reducible assumption) | assumption)
                          obtain ⟨ad131, e131, hx131_0, hx131_1⟩ := at_T85 HR0.out x3_1 p131 q131
                          cases e131
                          replace p131 := eq_true p131
                          replace q131 := eq_true q131
                          have p132 : 0 ≤ (x3_1 : Int) := of_decide_eq_true (by first | (with_reducible assumption) | assumption)
                          have q132 : x3_1 < (l0.length : Int) := of_decide_eq_true (by first | (with_reducible assumption) | assumption)
                          obtain ⟨ad132, e132, hx132_0, hx132_1⟩ := at_T85 HR0.out x3_1 p132 q132
                          obtain rfl : ad131 = ad132 := (by injection e132)
                          replace p132 := eq_true p132
                          replace q132 := eq_true q132
                          have p133 : 0 ≤ (x3_1 : Int) := of_decide_eq_true (by first | (with_reducible assumption) | assumption)
                          have q133 : x3_1 < (l0.length : Int) := of_decide_eq_true (by first | (with_reducible assumption) | assumption)
                          obtain ⟨ad133, e133, hx133_0, hx133_1⟩ := at_T85 HR0.out x3_1 p133 q133
                          obtain rfl : ad131 = ad133 := (by injection e133)
                          replace p133 := eq_true p133
                          replace q133 := eq_true q133
                          have p134 : 0 ≤ (x3_1 : Int) := of_decide_eq_true (by first | (with_reducible assumption) | assumption)
                          have q134 : x3_1 < (l0.length : Int) := of_decide_eq_true (by first | (with_reducible assumption) | assumption)
                          obtain ⟨ad134, e134, hx134_0, hx134_1⟩ := at_T85 HR0.out x3_1 p134 q134
                          obtain rfl : ad131 = ad134 := (by injection e134)
                          replace p134 := eq_true p134
                          replace q134 := eq_true q134
                          have p135 : 0 ≤ ((ji9) : Int) := of_decide_eq_true (by first | (with_reducible assumption) | assumption)
                          have q135 : (ji9) < (l0.length : Int) := of_decide_eq_true (by first | (with_reducible assumption) | assumption)
                          obtain ⟨ad135, e135, hx135_0, hx135_1⟩ := at_T85 HR0.out (ji9) p135 q135
                          obtain rfl : ad131 = ad135 := (by injection e135)
                          replace p135 := eq_true p135
                          replace q135 := eq_true q135
                          have p136 : 0 ≤ (x3_1 : Int) := of_decide_eq_true (by first | (with_reducible assumption) | assumption)
                          have q136 : x3_1 < (l0.length : Int) := of_decide_eq_true (by first | (with_reducible assumption) | assumption)
                          obtain ⟨ad136, e136, hx136_0, hx136_1⟩ := at_T85 HR0.out x3_1 p136 q136
                          obtain rfl : ad131 = ad136 := (by injection e136)
                          replace p136 := eq_true p136
                          replace q136 := eq_true q136
                          go_wp2
                          repeat (go_quiet (fail); try go_wp2)
                          go_roundg k1
                          case measure => have := HK1.out; omega
                          case rel => exact ⟨(wrap64 (x3_1 + 1)), (by first | rfl | (simp; done) | (simp [*]; done)), H', ⟨by have := HK1.out; omega⟩, by repeat (first | exact Drawn0.refl _ | apply Drawn0.step)⟩
                      · rw [if_neg c11] at H
                        exact absurd H (by simp)
                    · rw [if_neg c10] at H
                      exact absurd H (by simp)
                  · rw [if_neg c8] at H
                    have c8b0 : decide (0 < x3_1) = false := decide_eq_false c8
                    clear c8
                    have H' := Aside0.mk H
                    clear H
                    have p131 : 0 ≤ (x3_1 : Int) := of_decide_eq_true (by first | (with_reducible assumption) | assumption)
                    have q131 : x3_1 < (l0.length : Int) := of_decide_eq_true (by first | (with_reducible assumption) | assumption)
                    obtain ⟨ad131, e131, hx131_0, hx131_1⟩ := at_T85 HR0.out x3_1 p131 q131
                    cases e131
                    replace p131 := eq_true p131
                    replace q131 := eq_true q131
                    have p132 : 0 ≤ (x3_1 : Int) := of_decide_eq_true (by first | (with_reducible assumption) | assumption)
                    have q132 : x3_1 < (l0.length : Int) := of_decide_eq_true (by first | (with_reducible assumption) | assumption)
                    obtain ⟨ad132, e132, hx132_0, hx132_1⟩ := at_T85 HR0.out x3_1 p132 q132
                    obtain rfl : ad131 = ad132 := (by injection e132)
                    replace p132 := eq_true p132
                    replace q132 := eq_true q132
                    have p133 : 0 ≤ (x3_1 : Int) := of_decide_eq_true (by first | (with_reducible assumption) | assumption)
                    have q133 : x3_1 < (l0.length : Int) := of_decide_eq_true (by first | (with_reducible assumption) | assumption)
                    obtain ⟨ad133, e133, hx133_0, hx133_1⟩ := at_T85 HR0.out x3_1 p133 q133
                    obtain rfl : ad131 = ad133 := (by injection e133)
                    replace p133 := eq_true p133
                    replace q133 := eq_true q133
                    have p134 : 0 ≤ (x3_1 : Int) := of_decide_eq_true (by first | (with_reducible assumption) | assumption)
                    have q134 : x3_1 < (l0.length : Int) := of_decide_eq_true (by first | (with_reducible assumption) | assumption)
                    obtain ⟨ad134, e134, hx134_0, hx134_1⟩ := at_T85 HR0.out x3_1 p134 q134
                    obtain rfl : ad131 = ad134 := (by injection e134)
                    replace p134 := eq_true p134
                    replace q134 := eq_true q134
                    go_wp2
                    repeat (go_quiet (fail); try go_wp2)
                    go_roundg k1
                    case measure => have := HK1.out; omega
                    case rel => exact ⟨(wrap64 (x3_1 + 1)), (by first | rfl | (simp; done) | (simp [*]; done)), H', ⟨by have := HK1.out; omega⟩, by repeat (first | exact Drawn0.refl _ | apply Drawn0.step)⟩
        · rw [if_neg c3] at H
          exact absurd H (by simp)
      · rw [if_neg c2] at H
        have c2b0 : decide (x3_1 < (l0.length : Int)) = false := decide_eq_false c2
        clear c2
        obtain rfl := Option.some.inj H
        go_wp2
        repeat (go_quiet (fail); try go_wp2)
        go_ret
        exact ⟨by first | rfl | (simp; done) | (simp [*]; done), by repeat (first | exact Drawn0.refl _ | apply Drawn0.step)⟩

/-! ### windroselaw05_DrawEach: function 10 -/
/-- What the map tells of a number. -/
def windroselaw05_DrawEach.wt (l : List (S85)) : Int → Int := l.foldl (fun g x => fun a => if a = x.f0 then x.f1 else g a) (fun _ => 0)
def windroselaw05_DrawEach.cost (F : Nat) (key a : Int) : Int := (draw_Cost.f F key a).getD 0
def windroselaw05_DrawEach.okp (F : Nat) (key : Int) (g : Int → Int) (a b : Int) : Bool := (draw_Cost.f F key a).isSome && (draw_Cost.f F key b).isSome && decide (wrap64 (windroselaw05_DrawEach.cost F key a * g b) ≤ wrap64 (windroselaw05_DrawEach.cost F key b * g a)) && !(decide (wrap64 (windroselaw05_DrawEach.cost F key a * g b) = wrap64 (windroselaw05_DrawEach.cost F key b * g a)) && decide (a ≥ b)) && decide (g a ≠ 0) && decide (g b ≠ 0) && (Lit.int .i64 a).wf && (Lit.int .i64 b).wf
def windroselaw05_DrawEach.f (k : Nat) (a0 : Int) (l1 : List (S85)) : Option Bool :=
  if l1.length > 64 then windroselaw05_awake.f k else (windroseref05_May.f k l1).bind fun t => if t = true then ((draw_Order.f k a0 l1).bind fun o =>
    if o.length ≤ 999 then (if (l1.all fun x => (Lit.int .i64 x.f0).wf && (Lit.int .i64 x.f1).wf) = true then (if ((List.range (o.length - 1)).all fun i => windroselaw05_DrawEach.okp 1000 a0 (windroselaw05_DrawEach.wt l1) (rd o (i : Int)) (rd o ((i + 1 : Nat) : Int))) = true then windroselaw05_awake.f k else none) else none) else none) else windroselaw05_awake.f k
theorem windroselaw05_DrawEach.mono : ∀ a0 a1 k, LeO (windroselaw05_DrawEach.f k a0 a1) (windroselaw05_DrawEach.f (k + 1) a0 a1) := by
  intro a0 a1 k r h
  unfold windroselaw05_DrawEach.f at h ⊢
  by_cases c : a1.length > 64
  · rw [if_pos c] at h ⊢
    exact windroselaw05_awake.mono _ _ h
  · rw [if_neg c] at h ⊢
    obtain ⟨t, h1, h2⟩ := Option.bind_eq_some_iff.mp h
    rw [windroseref05_May.mono _ _ _ h1, Option.bind_some]
    by_cases ct : t = true
    · rw [if_pos ct] at h2 ⊢
      obtain ⟨o, h3, h4⟩ := Option.bind_eq_some_iff.mp h2
      rw [draw_Order.mono _ _ _ _ h3, Option.bind_some]
      split at h4
      · rename_i e1
        split at h4
        · rename_i e2
          split at h4
          · rename_i e3
            rw [if_pos e1, if_pos e2, if_pos e3]
            exact windroselaw05_awake.mono _ _ h4
          · cases h4
        · cases h4
      · cases h4
    · rw [if_neg ct] at h2 ⊢
      exact windroselaw05_awake.mono _ _ h2
set_option maxHeartbeats 2000000 in
set_option maxRecDepth 100000 in
theorem windroselaw05_DrawEach.calls (k : Nat) (a0 : Int) (A1 : Option Addr) (c1 : Nat) (l1 : List (S85)) (r : Bool) (w : World) (hr1 : Kd.C k85 w A1 l1.length l1) (hc1 : l1.length ≤ c1) (h : windroselaw05_DrawEach.f k a0 l1 = some r) :
    Calls Try.prog 10 #[.int .u64 a0, .slice A1 l1.length c1] w fun e w' => e = .returned (.bool r) ∧ Below w.heap.size w w' := by
  unfold windroselaw05_DrawEach.f at h
  obtain ⟨F, hF⟩ : ∃ F : Nat, F = 1000 := ⟨_, rfl⟩
  rw [← hF] at h
  clear hF
  have HR1 := Lib.hid hr1
  clear hr1
  have mixed : Try.prog.follows .mixedOrders = true := by kernel_rfl
  by_cases c : l1.length > 64
  · rw [if_pos c] at h
    have HA := Lib.hid (fun W => windroselaw05_awake.calls k r W h)
    have cz : (l1.length : Int) > 64 := by omega
    clear h
    go_enter Try.func10, Try.ntmps10
    go_wp2_with (go_at_call 43; refine (HA.out _).mono ?_; rintro e w2 ⟨rfl, hb⟩; have HB2 := Lib.hid hb; clear hb)
    go_ret
    exact ⟨rfl, HB2.out⟩
  rw [if_neg c] at h
  have cz : ¬ (l1.length : Int) > 64 := by omega
  obtain ⟨t, h1, h⟩ := Option.bind_eq_some_iff.mp h
  have HM := Lib.hid (windroseref05_May.calls k A1 c1 l1 t w HR1.out hc1 h1)
  clear h1
  by_cases ct : t = true
  rotate_left
  · rw [if_neg ct] at h
    obtain rfl : t = false := by simpa using ct
    have HA := Lib.hid (fun W => windroselaw05_awake.calls k r W h)
    clear h ct
    go_enter Try.func10, Try.ntmps10
    go_wp2_with (first | (go_at_call 47; refine HM.out.mono ?_; rintro e w2 ⟨rfl, hb⟩; have HB2 := Lib.hid hb.below; clear hb) | (go_at_call 43; refine (HA.out _).mono ?_; rintro e w3 ⟨rfl, hb⟩; have HB3 := Lib.hid hb; clear hb))
    go_ret
    exact ⟨rfl, HB2.out.trans (HB3.out.mono HB2.out.size)⟩
  rw [if_pos ct] at h
  subst ct
  obtain ⟨o, h2, h⟩ := Option.bind_eq_some_iff.mp h
  by_cases ho : o.length ≤ 999
  rotate_left
  · rw [if_neg ho] at h; cases h
  rw [if_pos ho] at h
  by_cases hwf : (l1.all fun x => (Lit.int .i64 x.f0).wf && (Lit.int .i64 x.f1).wf) = true
  rotate_left
  · rw [if_neg hwf] at h; cases h
  rw [if_pos hwf] at h
  by_cases hok : ((List.range (o.length - 1)).all fun i => windroselaw05_DrawEach.okp F a0 (windroselaw05_DrawEach.wt l1) (rd o (i : Int)) (rd o ((i + 1 : Nat) : Int))) = true
  rotate_left
  · rw [if_neg hok] at h; cases h
  rw [if_pos hok] at h
  have HA := Lib.hid (fun W => windroselaw05_awake.calls k r W h)
  have HOK := Lib.hid hok
  have HWF := Lib.hid hwf
  have HO := Lib.hid (fun W hb => draw_Order.calls k a0 A1 c1 l1 o W (Kd.C_below HR1.out hb) hc1 h2)
  have hmm := @run_makeMap Try.prog
  clear h hok hwf h2
  go_enter Try.func10, Try.ntmps10
  go_wp2_with (first | (go_at_call 47; refine HM.out.mono ?_; rintro e w2 ⟨rfl, hb⟩; have HB2 := Lib.hid hb.below; clear hb) | (go_at_call 44; refine (HO.out _ HB2.out).mono ?_; rintro e w3 ⟨v3, rfl, hr, hb⟩; obtain ⟨A3, c3, rfl, _, hc3⟩ := Kd.R_reads hr; have HC3 := Lib.hid hc3; have HB3 := Lib.hid (HB2.out.trans (hb.mono HB2.out.size)); clear hr hb hc3))
  have hu3 : Try.prog.underlying 3 = some (.int .i64) := Try.underlying3
  have hum : Try.prog.underlying 87 = some (.map 3 3) := Try.underlying87
  have HZ := Lib.hid (fun W => Try.zeroValue3 W)
  clear hmm HM HO
  go_loopg [7] l1.length (fun gg v7 wr => ∃ i : Nat, v7 = .int .i64 i ∧ i ≤ l1.length ∧ l1.length - i ≤ gg ∧ Hid (Hand.MapIs Try.prog 3 wr w3.heap.size i (windroselaw05_DrawEach.wt (l1.take i))) ∧ Hid (Below w3.heap.size w3 wr))
  case atStart => exact ⟨0, by go_num, Nat.zero_le _, by omega, Lib.hid (by rw [List.take_zero]; exact Hand.MapIs.made w3), Lib.hid (below_alloc (Below.refl _ _) _)⟩
  case round =>
    obtain ⟨i, rfl, him, hgg, HMi, HBr⟩ := hrel
    by_cases hlt : i < l1.length
    · have hltz : (i : Int) < (l1.length : Int) := by omega
      obtain ⟨ad, eA, cx0, cx1⟩ := at_T85 (Kd.C_below HR1.out (HB3.out.trans (HBr.out.mono HB3.out.size))) (i : Int) (by omega) hltz
      rw [Int.toNat_natCast] at cx0 cx1
      subst eA
      have hg : l1[i]? = some (rd_T85 l1 (i : Int)) := by unfold rd_T85; rw [Int.toNat_natCast, List.getD_eq_getElem?_getD, List.getElem?_eq_getElem hlt]; rfl
      have hwx := List.all_eq_true.1 HWF.out _ (List.mem_of_getElem? hg)
      rw [Bool.and_eq_true] at hwx
      have hwt : windroselaw05_DrawEach.wt (l1.take (i + 1)) = fun a => if a = (rd_T85 l1 (i : Int)).f0 then (rd_T85 l1 (i : Int)).f1 else windroselaw05_DrawEach.wt (l1.take i) a := by
        unfold windroselaw05_DrawEach.wt
        rw [List.take_add_one, hg, List.foldl_append]
        rfl
      obtain ⟨w', hrun, hM', hG'⟩ := (HMi.out.below (below_drew1 (Below.refl _ _))).put hu3 hum (by unfold maxLen; omega) _ _ hwx.1 hwx.2
      rw [← hwt] at hM'
      have HM' := Lib.hid hM'
      have HG' := Lib.hid hG'
      clear hM' hG' hwt hwx hg
      generalize rd_T85 l1 (i : Int) = x at cx0 cx1 hrun
      go_wp2_with fail
      go_region_o
      go_wp2
      go_roundg (l1.length - (i + 1))
      case measure => omega
      case rel => exact ⟨i + 1, by go_num, by omega, Nat.le_refl _, HM', Lib.hid ((HBr.out.trans (below_drew1 (Below.refl _ _))).grown HG'.out HBr.out.size (fun j hj => by cases hj; exact Nat.le_refl _))⟩
    · have hltz : ¬ (i : Int) < (l1.length : Int) := by omega
      obtain rfl : i = l1.length := by omega
      rw [List.take_length] at HMi
      go_wp2
      go_loopg [8, 9, 10, 11, 12] o.length (fun gg v8 v9 v10 v11 v12 wr => ∃ i : Nat, v8 = .int .i64 i ∧ 1 ≤ i ∧ o.length - i ≤ gg ∧ Hid (Hand.MapIs Try.prog 3 wr w3.heap.size l1.length (windroselaw05_DrawEach.wt l1)) ∧ Hid (Below w3.heap.size w3 wr))
      case atStart => exact ⟨1, rfl, by omega, by omega, HMi, HBr⟩
      case round =>
        obtain ⟨i, rfl, hi1, hgg, HMi, HBr⟩ := hrel
        by_cases hlt : i < o.length
        · have hltz : (i : Int) < (o.length : Int) := by omega
          have hkn : ((i : Int) - 1).toNat = i - 1 := by omega
          have hk0 : (0 : Int) ≤ (i : Int) - 1 := by omega
          have hk2 : (i : Int) - 1 < (o.length : Int) := by omega
          have hkw' : wrap64 ((i : Int) - 1) = (i : Int) - 1 := by unfold wrap64; omega
          have hp := List.all_eq_true.1 HOK.out (i - 1) (List.mem_range.2 (by omega))
          rw [show i - 1 + 1 = i by omega] at hp
          obtain ⟨ad, eA, cx⟩ := Kd.at_int (Kd.C_below HC3.out HBr.out) ((i - 1 : Nat) : Int) (by omega) (by omega)
          obtain ⟨ad2, eA2, cy⟩ := Kd.at_int (Kd.C_below HC3.out HBr.out) (i : Int) (by omega) (by omega)
          subst eA
          obtain rfl : ad = ad2 := by injection eA2
          rw [Int.toNat_natCast] at cx cy
          clear eA2
          generalize rd o ((i - 1 : Nat) : Int) = a at hp cx
          generalize rd o (i : Int) = b at hp cy
          unfold windroselaw05_DrawEach.okp at hp
          simp only [Bool.and_eq_true, decide_eq_true_eq, Bool.not_eq_true', Bool.and_eq_false_iff, decide_eq_false_iff_not] at hp
          obtain ⟨⟨⟨⟨⟨⟨⟨p1, p2⟩, p3⟩, p4⟩, p5⟩, p6⟩, p7⟩, p8⟩ := hp
          have ca : draw_Cost.f F a0 a = some (windroselaw05_DrawEach.cost F a0 a) := by
            obtain ⟨v, hv⟩ := Option.isSome_iff_exists.mp p1
            unfold windroselaw05_DrawEach.cost
            rw [hv]; rfl
          have cb : draw_Cost.f F a0 b = some (windroselaw05_DrawEach.cost F a0 b) := by
            obtain ⟨v, hv⟩ := Option.isSome_iff_exists.mp p2
            unfold windroselaw05_DrawEach.cost
            rw [hv]; rfl
          have look : ∀ (W : World) (z : Int), Below wr.heap.size wr W → (Lit.int .i64 z).wf = true → (Instr.lookup 87 (.map (some w3.heap.size)) (.int .i64 z) false).run Try.prog W = .ok (.int .i64 (windroselaw05_DrawEach.wt l1 z)) W := fun W z hb hz => (HMi.out.below hb).look hu3 hum (HZ.out W) z hz
          have la : ∀ W, Below wr.heap.size wr W → (Instr.lookup 87 (.map (some w3.heap.size)) (.int .i64 a) false).run Try.prog W = .ok (.int .i64 (windroselaw05_DrawEach.wt l1 a)) W := fun W hb => look W a hb p7
          have lb : ∀ W, Below wr.heap.size wr W → (Instr.lookup 87 (.map (some w3.heap.size)) (.int .i64 b) false).run Try.prog W = .ok (.int .i64 (windroselaw05_DrawEach.wt l1 b)) W := fun W hb => look W b hb p8
          clear look p1 p2 p7 p8
          generalize windroselaw05_DrawEach.cost F a0 a = CA at ca p3 p4
          generalize windroselaw05_DrawEach.cost F a0 b = CB at cb p3 p4
          generalize windroselaw05_DrawEach.wt l1 a = ga at la p3 p4 p5
          generalize windroselaw05_DrawEach.wt l1 b = gb at lb p3 p4 p6
          have LA := Lib.hid la
          have LB := Lib.hid lb
          clear la lb
          have hK := fun z V W h => draw_Cost.callsG F a0 z V W h
          have q1 : (ga == 0) = false := beq_eq_false_iff_ne.2 p5
          have q2 : (gb == 0) = false := beq_eq_false_iff_ne.2 p6
          generalize hX : wrap64 (CA * gb) = X at p3 p4
          generalize hY : wrap64 (CB * ga) = Y at p3 p4
          have q3 : ¬ X > Y := by omega
          have P4 := Lib.hid p4
          clear p5 p6 p4
          go_wp2_with fail
          go_region_o
          go_wp2_with fail
          have hd4 : Below wr.heap.size wr wr.drew := below_drew1 (Below.refl _ _)
          generalize wr.drew = W4 at hd4 ⊢
          have hbg : ∀ n os, Below wr.heap.size wr (Sort.grow (W4.drewN n) os) := fun n os => hd4.trans ((Hand.below_grown W4 n os).mono hd4.size)
          have la2 : ∀ n os, (Instr.lookup 87 (.map (some w3.heap.size)) (.int .i64 a) false).run Try.prog (Sort.grow (W4.drewN n) os) = .ok (.int .i64 ga) (Sort.grow (W4.drewN n) os) := fun n os => LA.out _ (hbg n os)
          have lb2 : ∀ n os, (Instr.lookup 87 (.map (some w3.heap.size)) (.int .i64 b) false).run Try.prog (Sort.grow (W4.drewN n) os) = .ok (.int .i64 gb) (Sort.grow (W4.drewN n) os) := fun n os => LB.out _ (hbg n os)
          have HBG := Lib.hid hbg
          clear hbg hd4
          go_quiet_grown (first | (go_at_call 51; refine Calls.grown_of (hK _ _ _ (by assumption))))
          have la3 := la2 nq osq
          have lb3 := lb2 nq osq
          have HB5 := Lib.hid (HBr.out.trans ((HBG.out nq osq).mono HBr.out.size))
          have HM5 := Lib.hid (HMi.out.below (HBG.out nq osq))
          clear la2 lb2 HBG
          generalize Sort.grow (W4.drewN nq) osq = W5 at la3 lb3 HB5 HM5 ⊢
          by_cases hxy : X = Y
          · have hab : ¬ a ≥ b := by rcases P4.out with h | h; exact absurd hxy h; exact Int.not_le.2 h
            have hxy2 : (X == Y) = true := beq_iff_eq.2 hxy
            go_wp2
            go_roundg (o.length - (i + 1))
            case measure => omega
            case rel => exact ⟨i + 1, by go_num, by omega, by omega, HM5, HB5⟩
          · have hxy2 : (X == Y) = false := beq_eq_false_iff_ne.2 hxy
            go_wp2
            go_roundg (o.length - (i + 1))
            case measure => omega
            case rel => exact ⟨i + 1, by go_num, by omega, by omega, HM5, HB5⟩
        · have hltz : ¬ (i : Int) < (o.length : Int) := by omega
          go_wp2_with (go_at_call 43; refine (HA.out _).mono ?_; rintro e w9 ⟨rfl, hb⟩; have HB9 := Lib.hid (HBr.out.trans (hb.mono HBr.out.size)); clear hb)
          go_ret
          exact ⟨rfl, HB3.out.trans (HB9.out.mono HB3.out.size)⟩

end Go.Proofs.Ytilgmccdpddeoaa.PDrawEach
