-- written by wip/pp.py
import Derived.Test.YtilgmccdpddeoaaPSamplesMergex0
import Derived.Test.YtilgmccdpddeoaaPSamplesMergex2
import Derived.Test.YtilgmccdpddeoaaPSamplesMergex3
namespace Go.Proofs.Ytilgmccdpddeoaa.PSamplesMerge
open Go.RowKit Go.Proofs.YtilgmccdpddeoaaW.PrintWords Go.Proofs.YtilgmccdpddeoaaW.PrintLast Go.Proofs.YtilgmccdpddeoaaW.PrintMore
attribute [local go_sem] max2_int min2_int max_two min_two max_three min_three max_four min_four   -- for this text's walks alone
set_option linter.unusedVariables false
set_option linter.unusedSimpArgs false

/-! ### api_Sample_96: function 96 -/
set_option maxHeartbeats 2000000 in
set_option maxRecDepth 100000 in
theorem api_Sample_96.two (A0 A1 : Option Addr) (c0 c1 : Nat) (l0 l1 : List (S62)) (vb t : Nat) (fz : Nat × Nat) (w : World) (hv : w.heap[vb]? = some (.cells #[.slice A0 l0.length c0, .slice A1 l1.length c1] t fz))
    (h0 : Kd.C k62 w A0 l0.length l0) (h1 : Kd.C k62 w A1 l1.length l1) (hl0 : l0.length ≤ 1000) (hl1 : l1.length ≤ 1000) :
    Calls Try.prog 96 #[.slice (some ⟨vb, 0, none⟩) 2 2] w fun e w' => ∃ v, e = .returned v ∧ Kd.R k62 62 w' w.heap.size (fun _ => True) v (l0 ++ l1) ∧ Below w.heap.size w w' := by
  have hvb : vb < w.heap.size := (Array.getElem?_eq_some_iff.1 hv).1
  have d0 : w.cell? ⟨vb, 0, none⟩ = some (.slice A0 l0.length c0) := by simp [World.cell?, hv]
  have d1 : w.cell? ⟨vb, 1, none⟩ = some (.slice A1 l1.length c1) := by simp [World.cell?, hv]
  have H0 := Lib.hid h0
  have H1 := Lib.hid h1
  have D0 := Lib.hid d0
  have D1 := Lib.hid d1
  have hs0 : ¬ ((l0.length : Int) < 0) := by omega
  have hs1 : ¬ ((l0.length : Int) + (l1.length : Int) < 0) := by omega
  have ws : wrap64 ((l0.length : Int) + (l1.length : Int)) = (l0.length : Int) + (l1.length : Int) := by unfold wrap64; omega
  have ws0 : wrap64 (0 + (l0.length : Int)) = (l0.length : Int) := by unfold wrap64; omega
  have HG := Lib.hid (fun W => api_Sample_121.nil (l0.length + l1.length) W (by omega))
  clear hv h0 h1
  go_enter Try.func96, Try.ntmps96
  go_wp2
  go_loopg [3, 5, 11] 2 (fun gg v3 v5 v11 wr => ((v11 = .int .i64 0 ∧ v3 = .int .i64 0 ∧ 2 ≤ gg) ∨ (v11 = .int .i64 1 ∧ v3 = .int .i64 (l0.length : Int) ∧ 1 ≤ gg) ∨ (v11 = .int .i64 2 ∧ v3 = .int .i64 ((l0.length : Int) + (l1.length : Int)))) ∧ Hid (Below w.heap.size w wr))
  case atStart => exact ⟨.inl ⟨rfl, rfl, by omega⟩, Lib.hid (Below.refl _ _)⟩
  case round =>
    obtain ⟨⟨rfl, rfl, hgg⟩ | ⟨rfl, rfl, hgg⟩ | ⟨rfl, rfl⟩, HB⟩ := hrel
    · have q : wr.cell? ⟨vb, 0, none⟩ = some (.slice A0 l0.length c0) := (HB.out.cell (p := ⟨vb, 0, none⟩) hvb).trans D0.out
      go_wp2
      go_roundg 1
      case measure => omega
      case rel => exact ⟨.inr (.inl ⟨rfl, rfl, by omega⟩), HB⟩
    · have q : wr.cell? ⟨vb, 1, none⟩ = some (.slice A1 l1.length c1) := (HB.out.cell (p := ⟨vb, 1, none⟩) hvb).trans D1.out
      go_wp2
      go_roundg 0
      case measure => omega
      case rel => exact ⟨.inr (.inr ⟨rfl, rfl⟩), HB⟩
    · have hg : Calls Try.prog 121 #[.slice none 0 0, .int .i64 ((l0.length : Int) + (l1.length : Int))] wr fun e w' => ∃ v, e = .returned v ∧ Kd.R k62 62 w' wr.heap.size (fun _ => True) v [] ∧ Below wr.heap.size wr w' := by
        have := HG.out wr
        rwa [Int.natCast_add] at this
      go_wp2_with (go_at_call 121; refine hg.mono ?_; rintro e w3 ⟨v3, rfl, hr, hb⟩; have HR3 := Lib.hid (Kd.R_lower hr HB.out.size); have HB3 := Lib.hid (HB.out.trans (hb.mono HB.out.size)); clear hr hb)
      clear hg HB
      go_loopg [6, 8, 27] 2 (fun gg v6 v8 v27 wr => ((v27 = .int .i64 0 ∧ 2 ≤ gg ∧ Hid (Kd.R k62 62 wr w.heap.size (fun _ => True) v6 [])) ∨ (v27 = .int .i64 1 ∧ 1 ≤ gg ∧ Hid (Kd.R k62 62 wr w.heap.size (fun _ => True) v6 l0)) ∨ (v27 = .int .i64 2 ∧ Hid (Kd.R k62 62 wr w.heap.size (fun _ => True) v6 (l0 ++ l1)))) ∧ Hid (Below w.heap.size w wr))
      case atStart => exact ⟨.inl ⟨rfl, by omega, HR3⟩, HB3⟩
      case round =>
        obtain ⟨⟨rfl, hgg, HR⟩ | ⟨rfl, hgg, HR⟩ | ⟨rfl, HR⟩, HB⟩ := hrel
        · have q : wr.cell? ⟨vb, 0, none⟩ = some (.slice A0 l0.length c0) := (HB.out.cell (p := ⟨vb, 0, none⟩) hvb).trans D0.out
          go_wp2_with (first | ((with_reducible refine gate_builtin (b := .append) (xs := #[.tmp 31, .tmp 32]) rfl ?_); at_builtin; refine Kd.R_append_rows k62 (w0 := w) w.heap.size rfl (.tmp 31) (.tmp 32) 60 62 (.agg #[(.int .i64 0), (.int .i64 0)]) 16 rfl Try.underlying60 info62 rfl (by decide) (by decide) u6 [] l0 A0 l0.length c0 (fun _ => True) (fun k => some k ≠ u6.ownBlock) rfl rfl HR.out (Kd.C_below H0.out HB.out) (fun x cs h => ?hM) (fun k hk => ⟨trivial, hk⟩) (fun _ _ => trivial) HB.out HB.out.size (by simp only [List.length_nil]; omega) ?_; (case hM => obtain rfl := k62_open h; exact k62_mkM _ _ _ _); intro v9 w9 HO9 HB9 hg9 hat9; clear hg9 hat9; have HR9 := Lib.hid HO9; clear HO9; have HB9' := Lib.hid HB9; clear HB9))
          go_roundg 1
          case measure => omega
          case rel => exact ⟨.inr (.inl ⟨rfl, by omega, Lib.hid (by have := HR9.out; rwa [List.nil_append] at this)⟩), HB9'⟩
        · have q : wr.cell? ⟨vb, 1, none⟩ = some (.slice A1 l1.length c1) := (HB.out.cell (p := ⟨vb, 1, none⟩) hvb).trans D1.out
          go_wp2_with (first | ((with_reducible refine gate_builtin (b := .append) (xs := #[.tmp 31, .tmp 32]) rfl ?_); at_builtin; refine Kd.R_append_rows k62 (w0 := w) w.heap.size rfl (.tmp 31) (.tmp 32) 60 62 (.agg #[(.int .i64 0), (.int .i64 0)]) 16 rfl Try.underlying60 info62 rfl (by decide) (by decide) u6 l0 l1 A1 l1.length c1 (fun _ => True) (fun k => some k ≠ u6.ownBlock) rfl rfl HR.out (Kd.C_below H1.out HB.out) (fun x cs h => ?hM) (fun k hk => ⟨trivial, hk⟩) (fun _ _ => trivial) HB.out HB.out.size (by omega) ?_; (case hM => obtain rfl := k62_open h; exact k62_mkM _ _ _ _); intro v9 w9 HO9 HB9 hg9 hat9; clear hg9 hat9; have HR9 := Lib.hid HO9; clear HO9; have HB9' := Lib.hid HB9; clear HB9))
          go_roundg 0
          case measure => omega
          case rel => exact ⟨.inr (.inr ⟨rfl, HR9⟩), HB9'⟩
        · go_wp2
          go_ret
          exact ⟨_, rfl, HR.out, HB.out⟩

/-! ### cmp_Or_int: function 99 -/
def cmp_Or_int.l0 : Nat → Int → List Int → Int → Int → Option (Int)
  | 0, _, _, _, _ => none
  | k + 1, x3, x6, x7, x8 => if x8 < x7 then (if 0 ≤ x8 then (if x8 < (x6.length : Int) then (if (rd x6 x8) = x3 then (cmp_Or_int.l0 k x3 x6 x7 (wrap64 (x8 + 1))) else (some (rd x6 x8))) else (none)) else (none)) else (some x3)
def cmp_Or_int.f (k : Nat) (l0 : List Int) : Option (Int) := cmp_Or_int.l0 k 0 l0 (l0.length : Int) 0
theorem cmp_Or_int.mono_l : ∀ k, (∀ y0 y1 y2 y3, LeO (cmp_Or_int.l0 k y0 y1 y2 y3) (cmp_Or_int.l0 (k + 1) y0 y1 y2 y3))
  | 0 => fun _ _ _ _ r h => by simp [cmp_Or_int.l0] at h
  | k + 1 => by
    have ih0 := cmp_Or_int.mono_l k
    · intro y0 y1 y2 y3
      unfold cmp_Or_int.l0
      repeat' first
      | (with_reducible exact ih0 _ _ _ _)
      | (with_reducible exact LeO.refl _)
      | (with_reducible exact LeO.none _)
      | (with_reducible refine LeO.ite ?_ ?_)
      | (with_reducible refine LeO.bind ?_ (fun _ => ?_))
      | exact ih0 _ _ _ _
      | exact LeO.none _
      | refine LeO.ite ?_ ?_
      | refine LeO.bind ?_ (fun _ => ?_)
theorem cmp_Or_int.mono : ∀ a0 k, LeO (cmp_Or_int.f k a0) (cmp_Or_int.f (k + 1) a0) := by
  intro a0 k
  have ih0 := cmp_Or_int.mono_l k
  unfold cmp_Or_int.f
  repeat' first
      | (with_reducible exact ih0 _ _ _ _)
      | (with_reducible exact LeO.refl _)
      | (with_reducible exact LeO.none _)
      | (with_reducible refine LeO.ite ?_ ?_)
      | (with_reducible refine LeO.bind ?_ (fun _ => ?_))
      | exact ih0 _ _ _ _
      | exact LeO.none _
      | refine LeO.ite ?_ ?_
      | refine LeO.bind ?_ (fun _ => ?_)
set_option maxHeartbeats 8000000 in
set_option maxRecDepth 100000 in
theorem cmp_Or_int.calls (k : Nat) (A0 : Option Addr) (c0 : Nat) (l0 : List Int) (r : Int) (w : World) (hr0 : Kd.C (Kd.int .i64) w A0 l0.length l0) (hc0 : l0.length ≤ c0) (h : cmp_Or_int.f k l0 = some r) :
    Calls Try.prog 99 #[.slice A0 l0.length c0] w fun e w' => e = .returned (.int .i64 r) ∧ Drawn0 w w' := by
  have HR0 := Aside0.mk hr0
  have HC0 := Aside0.mk hc0
  clear hr0 hc0
  have H : (cmp_Or_int.l0 k 0 l0 (l0.length : Int) 0) = some r := h
  clear h
  have H' := Aside0.mk H
  clear H
  go_enter Try.func99, Try.ntmps99
  go_wp2
  go_loopg [8] k (fun kq v8 w' => ∃ (x8_1 : Int), v8 = .int .i64 x8_1 ∧ Aside0 (cmp_Or_int.l0 kq 0 l0 (l0.length : Int) x8_1 = some r) ∧ Aside0 (kq ≤ k) ∧ Drawn0 w w')
  case atStart => exact ⟨(0), (by first | rfl | (simp; done) | (simp [*]; done)), H', ⟨Nat.le_refl _⟩, by repeat (first | exact Drawn0.refl _ | apply Drawn0.step)⟩
  case round =>
    clear H'
    obtain ⟨x8_1, rfl, HA, HK1, ⟨m1, rfl⟩⟩ := hrel
    cases gk with
    | zero => exact absurd HA.out (by simp [cmp_Or_int.l0])
    | succ k1 =>
      have H := HA.out
      clear HA
      simp only [cmp_Or_int.l0] at H
      by_cases c2 : x8_1 < (l0.length : Int)
      · rw [if_pos c2] at H
        have c2b0 : decide (x8_1 < (l0.length : Int)) = true := decide_eq_true c2
        clear c2
        by_cases c3 : 0 ≤ x8_1
        · rw [if_pos c3] at H
          have c3b0 : decide (0 ≤ x8_1) = true := decide_eq_true c3
          clear c3
          by_cases c4 : x8_1 < (l0.length : Int)
          · rw [if_pos c4] at H
            have c4b0 : decide (x8_1 < (l0.length : Int)) = true := decide_eq_true c4
            clear c4
            by_cases c5 : (rd l0 x8_1) = 0
            · rw [if_pos c5] at H
              have c5b0 : ((rd l0 x8_1) == 0) = true := beq_iff_eq.mpr c5
              have c5b1 : ((rd l0 x8_1) != 0) = false := bne_eq_false_iff_eq.mpr c5
              clear c5
              have H' := Aside0.mk H
              clear H
              have p140 : 0 ≤ (x8_1 : Int) := of_decide_eq_true (by first | (with_reducible assumption) | assumption)
              have q140 : x8_1 < (l0.length : Int) := of_decide_eq_true (by first | (with_reducible assumption) | assumption)
              obtain ⟨ad140, e140, hx140_0⟩ := Kd.at_int HR0.out x8_1 p140 q140
              cases e140
              replace p140 := eq_true p140
              replace q140 := eq_true q140
              go_wp2
              go_roundg k1
              case measure => have := HK1.out; omega
              case rel => exact ⟨(wrap64 (x8_1 + 1)), (by first | rfl | (simp; done) | (simp [*]; done)), H', ⟨by have := HK1.out; omega⟩, by repeat (first | exact Drawn0.refl _ | apply Drawn0.step)⟩
            · rw [if_neg c5] at H
              have c5b0 : ((rd l0 x8_1) == 0) = false := beq_eq_false_iff_ne.mpr c5
              have c5b1 : ((rd l0 x8_1) != 0) = true := bne_iff_ne.mpr c5
              obtain rfl := Option.some.inj H
              have p140 : 0 ≤ (x8_1 : Int) := of_decide_eq_true (by first | (with_reducible assumption) | assumption)
              have q140 : x8_1 < (l0.length : Int) := of_decide_eq_true (by first | (with_reducible assumption) | assumption)
              obtain ⟨ad140, e140, hx140_0⟩ := Kd.at_int HR0.out x8_1 p140 q140
              cases e140
              replace p140 := eq_true p140
              replace q140 := eq_true q140
              go_wp2
              go_ret
              exact ⟨by first | rfl | (simp; done) | (simp [*]; done), by repeat (first | exact Drawn0.refl _ | apply Drawn0.step)⟩
          · rw [if_neg c4] at H
            exact absurd H (by simp)
        · rw [if_neg c3] at H
          exact absurd H (by simp)
      · rw [if_neg c2] at H
        have c2b0 : decide (x8_1 < (l0.length : Int)) = false := decide_eq_false c2
        clear c2
        obtain rfl := Option.some.inj H
        go_wp2
        go_ret
        exact ⟨by first | rfl | (simp; done) | (simp [*]; done), by repeat (first | exact Drawn0.refl _ | apply Drawn0.step)⟩

/-! ### samples_Merge_1: function 98 -/
instance : Inhabited S62 := ⟨z62⟩
/-- A sample's two cells. -/
def samples_Merge_1.enc (x : S62) : List Value := [.int .i64 x.f0, .int .i64 x.f1]
def samples_Merge_1.cmp (x y : S62) : Int := if Hand.cmpI x.f0 y.f0 = 0 then Hand.cmpI x.f1 y.f1 else Hand.cmpI x.f0 y.f0
def samples_Merge_1.T1 : Bool × List (List Nat × List Nat) := (true, [([], []), ([0], [0]), ([], []), ([2], [2]), ([1, 3], [1, 3]), ([], []), ([5], [5]), ([], []), ([7], [7]), ([6, 8, 4], [6, 8]), ([4, 9], [4, 9]), ([10, 9], [10]), ([11, 11, 0, 1, 2, 3, 4, 5, 6, 7, 8, 9, 10, 11], [11])])
def samples_Merge_1.B1 : List Nat := [0, 1, 0, 4, 15, 0, 32, 0, 128, 511, 1023, 2047, 4095]
theorem samples_Merge_1.tab1 : rtab .any (opsOf Try.f98 1) = samples_Merge_1.T1 := by kernel_rfl
theorem samples_Merge_1.bits1 : waitsOk samples_Merge_1.T1.2 samples_Merge_1.B1 = true := by kernel_rfl
theorem samples_Merge_1.or_eq (a b : Int) : cmp_Or_int.f 10 [a, b] = some (if a = 0 then b else a) := by
  have w0 : wrap64 (0 + 1) = 1 := by unfold wrap64; omega
  have w1 : wrap64 (1 + 1) = 2 := by unfold wrap64; omega
  have l2 : ((([a, b] : List Int).length : Nat) : Int) = 2 := rfl
  have r0 : rd [a, b] 0 = a := rfl
  have r1 : rd [a, b] 1 = b := rfl
  unfold cmp_Or_int.f
  rw [l2]
  rw [cmp_Or_int.l0, if_pos (by decide), if_pos (by decide), if_pos (by rw [l2]; decide), r0]
  by_cases c : a = 0
  · rw [if_pos c, if_pos c, w0, cmp_Or_int.l0, if_pos (by decide), if_pos (by decide), if_pos (by rw [l2]; decide), r1]
    by_cases d : b = 0
    · rw [if_pos d, w1, cmp_Or_int.l0, if_neg (by decide), d]
    · rw [if_neg d]
  · rw [if_neg c, if_neg c]
set_option maxHeartbeats 4000000 in
set_option maxRecDepth 100000 in
theorem samples_Merge_1.callsG (x y : S62) (w : World) :
    Calls Try.prog 98 (#[.agg (samples_Merge_1.enc x).toArray, .agg (samples_Merge_1.enc y).toArray] ++ #[]) w fun e w' => e = .returned (.int .i64 (samples_Merge_1.cmp x y)) ∧ ∃ q os, w' = Sort.grow (w.drewN q) os := by
  show Calls Try.prog 98 #[.agg #[.int .i64 x.f0, .int .i64 x.f1], .agg #[.int .i64 y.f0, .int .i64 y.f1]] w _
  obtain ⟨W2, hW2⟩ : ∃ W2, ((w.alloc (Obj.cells #[.int .i64 x.f0, .int .i64 x.f1] 62)).alloc (Obj.cells #[.int .i64 y.f0, .int .i64 y.f1] 62)) = W2 := ⟨_, rfl⟩
  have a1 : W2.heap[w.heap.size]? = some (Obj.cells #[.int .i64 x.f0, .int .i64 x.f1] 62) := by rw [← hW2]; exact Hand.heap_last2 _ _ _
  have a2 : W2.heap[w.heap.size + 1]? = some (Obj.cells #[.int .i64 y.f0, .int .i64 y.f1] 62) := by rw [← hW2]; exact Hand.heap_last1 _ _ _
  have c1 : W2.cell? ⟨w.heap.size, 0, none⟩ = some (.int .i64 x.f0) := by simp [World.cell?, a1]
  have c2 : W2.cell? ⟨w.heap.size, 1, none⟩ = some (.int .i64 x.f1) := by simp [World.cell?, a1]
  have c3 : W2.cell? ⟨w.heap.size + 1, 0, none⟩ = some (.int .i64 y.f0) := by simp [World.cell?, a2]
  have c4 : W2.cell? ⟨w.heap.size + 1, 1, none⟩ = some (.int .i64 y.f1) := by simp [World.cell?, a2]
  have hbl : ∀ n (o : Obj), Below W2.heap.size W2 ((W2.drewN n).alloc o) := fun n o => (pw_below_drewN (Below.refl _ _) n).alloc (Nat.le_refl _) o
  have e1 : ∀ n o, ((W2.drewN n).alloc o).cell? ⟨w.heap.size, 0, none⟩ = some (.int .i64 x.f0) := fun n o => ((hbl n o).cell (p := ⟨w.heap.size, 0, none⟩) (World.block_lt_of_cell? W2 _ c1)).trans c1
  have e2 : ∀ n o, ((W2.drewN n).alloc o).cell? ⟨w.heap.size, 1, none⟩ = some (.int .i64 x.f1) := fun n o => ((hbl n o).cell (p := ⟨w.heap.size, 1, none⟩) (World.block_lt_of_cell? W2 _ c2)).trans c2
  have e3 : ∀ n o, ((W2.drewN n).alloc o).cell? ⟨w.heap.size + 1, 0, none⟩ = some (.int .i64 y.f0) := fun n o => ((hbl n o).cell (p := ⟨w.heap.size + 1, 0, none⟩) (World.block_lt_of_cell? W2 _ c3)).trans c3
  have e4 : ∀ n o, ((W2.drewN n).alloc o).cell? ⟨w.heap.size + 1, 1, none⟩ = some (.int .i64 y.f1) := fun n o => ((hbl n o).cell (p := ⟨w.heap.size + 1, 1, none⟩) (World.block_lt_of_cell? W2 _ c4)).trans c4
  have hE : ∃ q os, W2 = Sort.grow (w.drewN q) os := ⟨0, _, by rw [← hW2, Sort.alloc_eq_grow, Sort.alloc_eq_grow, Sort.grow_grow]; rfl⟩
  have HE := Lib.hid hE
  have hK1 : ∀ W, Calls Try.prog 100 #[.int .i64 x.f0, .int .i64 y.f0] W fun e w' => e = .returned (.int .i64 (Hand.cmpI x.f0 y.f0)) ∧ Drawn0 W w' := fun W => cmp_Compare_int.calls _ _ _ W (cmp_Compare_int.f_eq _ _)
  have hK2 : ∀ W, Calls Try.prog 100 #[.int .i64 x.f1, .int .i64 y.f1] W fun e w' => e = .returned (.int .i64 (Hand.cmpI x.f1 y.f1)) ∧ Drawn0 W w' := fun W => cmp_Compare_int.calls _ _ _ W (cmp_Compare_int.f_eq _ _)
  unfold samples_Merge_1.cmp
  generalize Hand.cmpI x.f0 y.f0 = P at hK1 ⊢
  generalize Hand.cmpI x.f1 y.f1 = Q at hK2 ⊢
  have mixed : Try.prog.follows .mixedOrders = true := by kernel_rfl
  obtain ⟨R, hR⟩ : ∃ R, R = if P = 0 then Q else P := ⟨_, rfl⟩
  have hOr : ∀ n, Calls Try.prog 99 #[.slice (some ⟨W2.heap.size, 0, none⟩) 2 2] ((W2.drewN n).alloc (Obj.cells #[.int .i64 P, .int .i64 Q] 3)) fun e w' => e = .returned (.int .i64 R) ∧ Drawn0 ((W2.drewN n).alloc (Obj.cells #[.int .i64 P, .int .i64 Q] 3)) w' := fun n =>
    cmp_Or_int.calls 10 (some ⟨W2.heap.size, 0, none⟩) 2 [P, Q] R _ (Hand.C_two (Hand.heap_last (W2.drewN n) _)) (by simp) (by rw [samples_Merge_1.or_eq, hR])
  rw [← hR]
  clear a1 a2 hE hR
  go_enter Try.func98, Try.ntmps98
  go_wp2_with fail
  refine start_ (n := 13) (S := fun w' => w'.cell? ⟨w.heap.size, 0, none⟩ = some (.int .i64 x.f0) ∧ w'.cell? ⟨w.heap.size, 1, none⟩ = some (.int .i64 x.f1) ∧ w'.cell? ⟨w.heap.size + 1, 0, none⟩ = some (.int .i64 y.f0) ∧ w'.cell? ⟨w.heap.size + 1, 1, none⟩ = some (.int .i64 y.f1)) (ds := []) #[false, false, false, false, false, false, false, false, false, false, false, false, false] (by kernel_rfl) rfl rfl ⟨c1, c2, c3, c4⟩ (fun hHeld => ?_); refine with_tabW samples_Merge_1.tab1 samples_Merge_1.bits1 (fun HT_ HW_ => ?_)
  refine pure_ (i := 0) (N := some 5) (v := ?_) (a' := ?_) #[true, false, false, false, false, false, false, false, false, false, false, false, false] rfl rfl (any_of HT_.out (by kernel_rfl)) (fun _ _ _ h => h) (Or.inl ⟨by rfl, ?_⟩) ?_ ?_
  rotate_left
  · intro w'
    go_simp
    with_reducible rfl
  rotate_left
  · simp only [Act.put, List.setIfInBounds_toArray, List.set_cons_zero, List.set_cons_succ, i64_w, i32_w]
    rfl
  refine pure_ (i := 2) (N := some 7) (v := ?_) (a' := ?_) #[true, false, true, false, false, false, false, false, false, false, false, false, false] rfl rfl (any_of HT_.out (by kernel_rfl)) (fun _ _ _ h => h) (Or.inl ⟨by rfl, ?_⟩) ?_ ?_
  rotate_left
  · intro w'
    go_simp
    with_reducible rfl
  rotate_left
  · simp only [Act.put, List.setIfInBounds_toArray, List.set_cons_zero, List.set_cons_succ, i64_w, i32_w]
    rfl
  refine pure_ (i := 5) (N := some 10) (v := ?_) (a' := ?_) #[true, false, true, false, false, true, false, false, false, false, false, false, false] rfl rfl (any_of HT_.out (by kernel_rfl)) (fun _ _ _ h => h) (Or.inl ⟨by rfl, ?_⟩) ?_ ?_
  rotate_left
  · intro w'
    go_simp
    with_reducible rfl
  rotate_left
  · simp only [Act.put, List.setIfInBounds_toArray, List.set_cons_zero, List.set_cons_succ, i64_w, i32_w]
    rfl
  refine pure_ (i := 7) (N := some 12) (v := ?_) (a' := ?_) #[true, false, true, false, false, true, false, true, false, false, false, false, false] rfl rfl (any_of HT_.out (by kernel_rfl)) (fun _ _ _ h => h) (Or.inl ⟨by rfl, ?_⟩) ?_ ?_
  rotate_left
  · intro w'
    go_simp
    with_reducible rfl
  rotate_left
  · simp only [Act.put, List.setIfInBounds_toArray, List.set_cons_zero, List.set_cons_succ, i64_w, i32_w]
    rfl
  refine take_ (i := 1) (N := some 6) (v := ?_) (a' := ?_) #[true, true, true, false, false, true, false, true, false, false, false, false, false] rfl rfl (take_ofW HT_.out HW_.out (by kernel_rfl)) (fun _ _ _ h => h) (Or.inl ⟨by rfl, ?_⟩) hHeld ?_ ?_
  rotate_left
  · rintro w' ⟨s0, s1, s2, s3⟩
    go_simp
    with_reducible rfl
  rotate_left
  · simp only [Act.put, List.setIfInBounds_toArray, List.set_cons_zero, List.set_cons_succ, i64_w, i32_w]
    rfl
  refine take_ (i := 3) (N := some 8) (v := ?_) (a' := ?_) #[true, true, true, true, false, true, false, true, false, false, false, false, false] rfl rfl (take_ofW HT_.out HW_.out (by kernel_rfl)) (fun _ _ _ h => h) (Or.inl ⟨by rfl, ?_⟩) hHeld ?_ ?_
  rotate_left
  · rintro w' ⟨s0, s1, s2, s3⟩
    go_simp
    with_reducible rfl
  rotate_left
  · simp only [Act.put, List.setIfInBounds_toArray, List.set_cons_zero, List.set_cons_succ, i64_w, i32_w]
    rfl
  refine take_ (i := 6) (N := some 11) (v := ?_) (a' := ?_) #[true, true, true, true, false, true, true, true, false, false, false, false, false] rfl rfl (take_ofW HT_.out HW_.out (by kernel_rfl)) (fun _ _ _ h => h) (Or.inl ⟨by rfl, ?_⟩) hHeld ?_ ?_
  rotate_left
  · rintro w' ⟨s0, s1, s2, s3⟩
    go_simp
    with_reducible rfl
  rotate_left
  · simp only [Act.put, List.setIfInBounds_toArray, List.set_cons_zero, List.set_cons_succ, i64_w, i32_w]
    rfl
  refine take_ (i := 8) (N := some 13) (v := ?_) (a' := ?_) #[true, true, true, true, false, true, true, true, true, false, false, false, false] rfl rfl (take_ofW HT_.out HW_.out (by kernel_rfl)) (fun _ _ _ h => h) (Or.inl ⟨by rfl, ?_⟩) hHeld ?_ ?_
  rotate_left
  · rintro w' ⟨s0, s1, s2, s3⟩
    go_simp
    with_reducible rfl
  rotate_left
  · simp only [Act.put, List.setIfInBounds_toArray, List.set_cons_zero, List.set_cons_succ, i64_w, i32_w]
    rfl
  refine one_ (i := 4) (N := some 9) #[true, true, true, true, true, true, true, true, true, false, false, false, false] rfl rfl (one_of HT_.out (by kernel_rfl)) (by decide) (fun K hK => ?_)
  refine goes_ Try.func100 (by kernel_rfl) rfl #[.int .i64 x.f0, .int .i64 y.f0] (by rfl) rfl rfl (by (try simp only [List.map_toArray, List.map_cons, List.map_nil]); first | done | rfl) ?_
  with_reducible refine (hK1 _).mono ?_
  rintro e w' ⟨rfl, ⟨nd, rfl⟩⟩
  refine ⟨_, rfl, ?_⟩
  refine hK.out _ _ ⟨c1, c2, c3, c4⟩ (fun hHeld => ?_)
  clear hK K
  refine norm_ (a' := ?_) ?_ ?_
  rotate_left
  · show Act.put _ (some 9) _ = _
    simp only [Act.put, List.setIfInBounds_toArray, List.set_cons_zero, List.set_cons_succ, i64_w, i32_w]
    rfl
  refine one_ (i := 9) (N := some 14) #[true, true, true, true, true, true, true, true, true, true, false, false, false] rfl rfl (one_of HT_.out (by kernel_rfl)) (by decide) (fun K hK => ?_)
  refine goes_ Try.func100 (by kernel_rfl) rfl #[.int .i64 x.f1, .int .i64 y.f1] (by rfl) rfl rfl (by (try simp only [List.map_toArray, List.map_cons, List.map_nil]); first | done | rfl) ?_
  with_reducible refine (hK2 _).mono ?_
  rintro e w' ⟨rfl, ⟨nd2, rfl⟩⟩
  refine ⟨_, rfl, ?_⟩
  refine hK.out _ _ ⟨c1, c2, c3, c4⟩ (fun hHeld => ?_)
  clear hK K
  refine norm_ (a' := ?_) ?_ ?_
  rotate_left
  · show Act.put _ (some 14) _ = _
    simp only [Act.put, List.setIfInBounds_toArray, List.set_cons_zero, List.set_cons_succ, i64_w, i32_w]
    rfl
  refine one_ (i := 10) (N := some 15) #[true, true, true, true, true, true, true, true, true, true, true, false, false] rfl rfl (one_of HT_.out (by kernel_rfl)) (by decide) (fun K hK => ?_)
  go_simp
  refine hK.out _ _ ⟨e1 _ _, e2 _ _, e3 _ _, e4 _ _⟩ (fun hHeld => ?_)
  clear hK K
  refine one_ (i := 11) (N := some 16) #[true, true, true, true, true, true, true, true, true, true, true, true, false] rfl rfl (one_of HT_.out (by kernel_rfl)) (by decide) (fun K hK => ?_)
  refine goes_ Try.func99 (by kernel_rfl) rfl #[.slice (some ⟨W2.heap.size, 0, none⟩) 2 2] (by rfl) rfl rfl (by (try simp only [List.map_toArray, List.map_cons, List.map_nil]); first | done | rfl) ?_
  refine (hOr _).mono ?_
  rintro e w' ⟨rfl, ⟨nd3, rfl⟩⟩
  refine ⟨_, rfl, ?_⟩
  refine hK.out _ _ ⟨e1 _ _, e2 _ _, e3 _ _, e4 _ _⟩ (fun hHeld => ?_)
  clear hK K
  refine norm_ (a' := ?_) ?_ ?_
  rotate_left
  · show Act.put _ (some 16) _ = _
    simp only [Act.put, List.setIfInBounds_toArray, List.set_cons_zero, List.set_cons_succ, i64_w, i32_w]
    rfl
  refine pure_ (i := 12) (N := some 4) (v := ?_) (a' := ?_) #[true, true, true, true, true, true, true, true, true, true, true, true, true] rfl rfl (any_of HT_.out (by kernel_rfl)) (fun _ _ _ h => h) (Or.inl ⟨by rfl, ?_⟩) ?_ ?_
  rotate_left
  · intro w'
    go_simp
    with_reducible rfl
  rotate_left
  · simp only [Act.put, List.setIfInBounds_toArray, List.set_cons_zero, List.set_cons_succ, i64_w, i32_w]
    rfl
  refine done_ (done_of HT_.out (by kernel_rfl)) ?_
  try go_wp2
  go_ret
  exact ⟨rfl, Hand.grow_alloc HE.out _ _ _⟩

/-! ### api_Sample_101: function 101 -/
theorem api_Sample_101.eqA (d : Nat) (w : World) (x0 y0 : Int) (x1 y1 : Int) :
    (Op.equalIn (d + 2) 62 (.agg #[.int .i64 x0, .int .i64 x1]) (.agg #[.int .i64 y0, .int .i64 y1])).run Try.prog w = .ok (x0 == y0 && (x1 == y1)) w := by
  refine eqA_of Try.underlying62 (by kernel_rfl) ?_
  refine eqf_cons (by rfl) (by go_simp; rfl) (by go_simp; rfl) (by go_simp) ?_
  exact eqf_last (by rfl) (by go_simp; rfl) (by go_simp; rfl) (by go_simp)
instance : DecidableEq S62 := fun x y =>
  if h : x.f0 = y.f0 ∧ x.f1 = y.f1 then isTrue (by cases x; cases y; simp only at h; rw [h.1, h.2]) else isFalse (fun e => h (by rw [e]; exact ⟨rfl, rfl⟩))
theorem api_Sample_101.ne_of {x y : S62} (h : ((x.f0 == y.f0) && (x.f1 == y.f1)) = false) : x ≠ y := fun e => by rw [e] at h; simp at h
theorem api_Sample_101.eq_of {x y : S62} (h : ((x.f0 == y.f0) && (x.f1 == y.f1)) = true) : x = y := by
  simp only [Bool.and_eq_true, beq_iff_eq] at h
  cases x; cases y
  simp only at h
  rw [h.1, h.2]
/-- Of runs of equal ones one each. -/
def api_Sample_101.comp (l : List (S62)) : List (S62) := Lib.compactUpTo l.toArray l.length
attribute [local go_sem high] api_Sample_101.eqA
set_option maxHeartbeats 4000000 in
set_option maxRecDepth 100000 in
theorem api_Sample_101.walk (blk cap : Nat) (l : List (S62)) (w : World) (hH : Sort.HoldsK samples_Merge_1.enc 2 w blk 0 l.toArray) (hblk : blk < w.heap.size) (hsz : l.length ≤ 1000000) (hcap : l.length ≤ cap) :
    Calls Try.prog 101 #[.slice (some ⟨blk, 0, none⟩) l.length cap] w fun e w' => e = .returned (.slice (some ⟨blk, 0, none⟩) (api_Sample_101.comp l).length cap) ∧
      ∃ d : Array (S62), d.size = l.length ∧ d.toList.take (api_Sample_101.comp l).length = api_Sample_101.comp l ∧ Hand.RowAt samples_Merge_1.enc 2 w blk d w' := by
  have henc : ∀ x, (samples_Merge_1.enc x).length = 2 := fun _ => rfl
  have h1c : ∀ x, ∀ v ∈ samples_Merge_1.enc x, v.oneCell' = true := fun x v hv => by
    simp only [samples_Merge_1.enc, List.mem_cons, List.not_mem_nil, or_false] at hv
    rcases hv with rfl | rfl <;> rfl
  have hrow : ∀ (W : World) (dk : Array (S62)), Sort.HoldsK samples_Merge_1.enc 2 W blk 0 dk → ∀ j, j < dk.size → W.cell? ⟨blk, j * 2, none⟩ = some (.int .i64 dk[j]!.f0) ∧ W.cell? ⟨blk, j * 2 + 1, none⟩ = some (.int .i64 dk[j]!.f1) ∧ W.frozen? ⟨blk, j * 2, none⟩ = false ∧ W.frozen? ⟨blk, j * 2 + 1, none⟩ = false := fun W dk h j hj => by
    have q0 := h.cell (i := j) (c := 0) hj (by omega)
    have q1 := h.cell (i := j) (c := 1) hj (by omega)
    simp only [Nat.zero_add, Nat.add_zero] at q0 q1
    exact ⟨q0.1, q1.1, q0.2, q1.2⟩
  have HR0 := Lib.hid (Hand.RowAt.start hH hblk)
  have HROW := Lib.hid hrow
  have ls : l.toArray.size = l.length := by simp
  have mixed : Try.prog.follows .mixedOrders = true := by kernel_rfl
  have HALL := Lib.hid (show ∀ W, Hand.RowAt samples_Merge_1.enc 2 w blk l.toArray W → (∀ j, j < l.length → Lib.keeps l.toArray j = true) → (api_Sample_101.comp l).length = l.length ∧ ∃ d : Array (S62), d.size = l.length ∧ d.toList.take (api_Sample_101.comp l).length = api_Sample_101.comp l ∧ Hand.RowAt samples_Merge_1.enc 2 w blk d W from fun W hW hk => by
    have e : api_Sample_101.comp l = l := by
      unfold api_Sample_101.comp
      rw [Lib.compactUpTo_all l.toArray _ hk]
      have := Lib.range_map_get l.toArray
      simpa using this
    rw [e]
    exact ⟨rfl, l.toArray, by simp, by simp, hW⟩)
  clear hrow hH
  by_cases h2 : l.length < 2
  · have h2z : (l.length : Int) < 2 := by omega
    go_enter Try.func101, Try.ntmps101
    go_wp2
    go_ret
    obtain ⟨e1, e2⟩ := HALL.out w HR0.out (fun j hj => Lib.keeps_lt_one _ j (by omega))
    exact ⟨by rw [e1]; rfl, e2⟩
  have h2z : ¬ (l.length : Int) < 2 := by omega
  go_enter Try.func101, Try.ntmps101
  go_wp2
  go_loopg [3] l.length (fun g s3 wr => ∃ k : Nat, 1 ≤ k ∧ k ≤ l.length ∧ l.length - k ≤ g ∧ s3 = .int .i64 k ∧ Hid (Hand.RowAt samples_Merge_1.enc 2 w blk l.toArray wr) ∧ Hid (∀ j, j < k → Lib.keeps l.toArray j = true))
  case atStart => exact ⟨1, Nat.le_refl _, by omega, by omega, rfl, HR0, Lib.hid (Lib.keeps_lt_one _)⟩
  case round =>
    obtain ⟨k, hk1, hkl, hgg, rfl, HW, HA⟩ := hrel
    by_cases hlt : k < l.length
    · obtain ⟨cx0, cx1, _, _⟩ := HROW.out _ _ HW.out.holds k (by omega)
      obtain ⟨cy0, cy1, _, _⟩ := HROW.out _ _ HW.out.holds (k - 1) (by omega)
      have hltz : (k : Int) < (l.length : Int) := by omega
      have hk0 : (0 : Int) ≤ (k : Int) - 1 := by omega
      have hk2 : (k : Int) - 1 < (l.length : Int) := by omega
      have hkn : ((k : Int) - 1).toNat = k - 1 := by omega
      have hkw : IntKind.i64.wrap ((k : Int) - 1) = (k : Int) - 1 := IntWalk.i64_in _ (by omega)
      have hkw' : wrap64 ((k : Int) - 1) = (k : Int) - 1 := by unfold wrap64; omega
      have B := Lib.hid (show l.toArray[k]! = l.toArray[k]! ∧ l.toArray[k - 1]! = l.toArray[k - 1]! from ⟨rfl, rfl⟩)
      generalize hx : l.toArray[k]! = x at cx0 cx1
      generalize hy : l.toArray[k - 1]! = y at cy0 cy1
      have HX := Lib.hid hx
      have HY := Lib.hid hy
      clear hx hy B
      obtain ⟨R, hR⟩ : ∃ R, R = ((x.f0 == y.f0) && (x.f1 == y.f1)) := ⟨_, rfl⟩
      cases R with
      | true =>
        have hxy := api_Sample_101.eq_of hR.symm
        subst hxy
        clear hR
        go_wp2_with fail
        go_region_o
        go_wp2
        have HW1 := Lib.hid (HW.out.below (below_drew1 (Below.refl _ _)))
        clear cx0 cx1 cy0 cy1 HW
        go_loopg [3, 5] l.length (fun gg s3 s5 wr => ∃ (kk k2 : Nat) (dk : Array (S62)), s3 = .int .i64 kk ∧ s5 = .int .i64 k2 ∧ 1 ≤ k2 ∧ k + k2 ≤ l.length ∧ l.length - (k + k2) ≤ gg ∧ Hid (Lib.CompInv l.toArray (k + k2) kk dk) ∧ Hid (Hand.RowAt samples_Merge_1.enc 2 w blk dk wr))
        case atStart => exact ⟨k, 1, l.toArray, rfl, rfl, Nat.le_refl _, by omega, by omega, Lib.hid (Lib.CompInv.start HA.out (Lib.keeps_neg (by omega) (by rw [HX.out, HY.out]))), HW1⟩
        case round =>
          obtain ⟨kk, k2, dk, rfl, rfl, h1, hle, hg2, I2, R2⟩ := hrel
          have hkk := I2.out.lt
          have hds : dk.size = l.length := by have := I2.out.size; simpa using this
          by_cases hlt2 : k + k2 < l.length
          · have hl2z : (k2 : Int) < ((l.length - k : Nat) : Int) := by omega
            have hl2y : (k2 : Int) - 1 < ((l.length - k : Nat) : Int) := by omega
            have hl20 : (0 : Int) ≤ (k2 : Int) - 1 := by omega
            have hl2n : ((k2 : Int) - 1).toNat = k2 - 1 := by omega
            have hl2w : wrap64 ((k2 : Int) - 1) = (k2 : Int) - 1 := by unfold wrap64; omega
            have hkkz : (kk : Int) < (l.length : Int) := by omega
            obtain ⟨cm0, cm1, _, _⟩ := HROW.out _ _ R2.out.holds (k + k2) (by omega)
            obtain ⟨cp0, cp1, _, _⟩ := HROW.out _ _ R2.out.holds (k + k2 - 1) (by omega)
            obtain ⟨ck0, ck1, fk0, fk1⟩ := HROW.out _ _ R2.out.holds kk (by omega)
            rw [I2.out.high (k + k2) (by omega), show (k + k2) * 2 = k * 2 + k2 * 2 by omega] at cm0 cm1
            rw [I2.out.high (k + k2 - 1) (by omega), show (k + k2 - 1) * 2 = k * 2 + (k2 - 1) * 2 by omega] at cp0 cp1
            generalize hu : l.toArray[k + k2]! = u at cm0 cm1
            generalize hv : l.toArray[k + k2 - 1]! = v at cp0 cp1
            generalize dk[kk]!.f0 = o0 at ck0
            generalize dk[kk]!.f1 = o1 at ck1
            have HU := Lib.hid hu
            have HV := Lib.hid hv
            clear hu hv
            obtain ⟨R, hR⟩ : ∃ R, R = ((u.f0 == v.f0) && (u.f1 == v.f1)) := ⟨_, rfl⟩
            cases R with
            | true =>
              have huv := api_Sample_101.eq_of hR.symm
              subst huv
              clear hR
              go_wp2_with fail
              go_region_o
              go_wp2
              go_roundg (l.length - (k + (k2 + 1)))
              case measure => omega
              case rel => exact ⟨kk, k2 + 1, dk, rfl, by go_num, by omega, by omega, Nat.le_refl _, Lib.hid (I2.out.skip (Lib.keeps_neg (by omega) (by rw [HU.out, HV.out]))), Lib.hid (R2.out.below (below_drew1 (Below.refl _ _)))⟩
            | false =>
              have hne := Lib.hid (api_Sample_101.ne_of hR.symm)
              have hR2 := hR.symm
              clear hR
              go_wp2_with fail
              go_region_o
              go_wp2
              go_roundg (l.length - (k + (k2 + 1)))
              case measure => omega
              case rel =>
                refine ⟨kk + 1, k2 + 1, dk.setIfInBounds kk u, by go_num, by go_num, by omega, by omega, Nat.le_refl _, Lib.hid ?_, Lib.hid ((R2.out.below (below_drew1 (Below.refl _ _))).set henc kk (by omega) u)⟩
                have := I2.out.keep (by omega) (Lib.keeps_pos (by rw [HU.out, HV.out]; exact hne.out))
                rwa [HU.out] at this
          · have hend : k + k2 = l.length := by omega
            have hl2z : ¬ (k2 : Int) < ((l.length - k : Nat) : Int) := by omega
            rw [hend] at I2
            have hcl : ∀ ty, (Builtin.clear_ #[60] ty #[.slice (some ⟨blk, kk * 2, none⟩) (l.length - kk) (cap - kk)]).run Try.prog wr = .ok (.tuple #[]) (wr.setCells blk (kk * 2) (List.replicate (l.length - kk) (samples_Merge_1.enc z62)).flatten) := fun ty =>
              Hand.run_clear_k Try.prog wr 60 62 ty _ (samples_Merge_1.enc z62) Try.underlying60 Try.zeroValue62 rfl (h1c _) blk (kk * 2) _ _ (by omega) (fun t ht => by
                have h2 := R2.out.holds (kk * 2 + t) (by rw [Sort.size_flatK, hds]; rw [henc, Nat.sub_mul] at ht; omega)
                rw [Nat.zero_add] at h2
                rw [h2.1]; rfl) (fun t ht => by
                have h2 := R2.out.holds (kk * 2 + t) (by rw [Sort.size_flatK, hds]; rw [henc, Nat.sub_mul] at ht; omega)
                rw [Nat.zero_add] at h2
                exact h2.2)
            obtain ⟨dk', hs', hj', hF⟩ := Hand.RowAt.fill henc z62 (l.length - kk) kk dk wr R2.out (by omega)
            have HF := Lib.hid hF
            have HJ := Lib.hid hj'
            generalize wr.setCells blk (kk * 2) (List.replicate (l.length - kk) (samples_Merge_1.enc z62)).flatten = W9 at hcl HF
            have hile : (kk : Int) ≤ (l.length : Int) := by omega
            clear hF hj'
            go_wp2
            go_ret
            refine ⟨?_, dk', by omega, ?_, HF.out⟩
            · show _ = Ending.returned (Value.slice (some ⟨blk, 0, none⟩) (Lib.compactUpTo l.toArray l.length).length cap)
              rw [I2.out.len]; rfl
            · exact Hand.comp_take I2.out hs' (by omega) HJ.out
      | false =>
        have hne := api_Sample_101.ne_of hR.symm
        have HNE := Lib.hid hne
        clear hne
        have hR2 := hR.symm
        clear hR
        go_wp2_with fail
        go_region_o
        go_wp2
        go_roundg (l.length - (k + 1))
        case measure => omega
        case rel => 
          refine ⟨k + 1, by omega, by omega, by omega, by go_num, Lib.hid (HW.out.below (below_drew1 (Below.refl _ _))), Lib.hid (fun j hj => ?_)⟩
          by_cases e : j = k
          · subst e; exact Lib.keeps_pos (by rw [HX.out, HY.out]; exact HNE.out)
          · exact HA.out j (by omega)
    · have hltz : ¬ (k : Int) < (l.length : Int) := by omega
      obtain rfl : k = l.length := by omega
      go_wp2
      go_ret
      obtain ⟨e1, e2⟩ := HALL.out _ HW.out HA.out
      exact ⟨by rw [e1]; rfl, e2⟩

/-! ### samples_Merge: function 54 -/
-- samples_Merge_1 cmp_Or_int cmp_Compare_int api_Sample_96 api_Sample_101
/-- The lesser time, then the lesser value. -/
def samples_Merge.lt (x y : S62) : Bool := decide (samples_Merge_1.cmp x y < 0)
theorem samples_Merge.lt_iff (x y : S62) : samples_Merge.lt x y = true ↔ x.f0 < y.f0 ∨ (x.f0 = y.f0 ∧ x.f1 < y.f1) := by
  unfold samples_Merge.lt samples_Merge_1.cmp Hand.cmpI
  rw [decide_eq_true_eq]
  by_cases h1 : x.f0 < y.f0
  · rw [if_pos h1, if_neg (by decide)]; omega
  · rw [if_neg h1]
    by_cases h2 : x.f0 > y.f0
    · rw [if_pos h2, if_neg (by decide)]; omega
    · rw [if_neg h2, if_pos rfl]
      by_cases h3 : x.f1 < y.f1
      · rw [if_pos h3]; omega
      · rw [if_neg h3]
        by_cases h4 : x.f1 > y.f1
        · rw [if_pos h4]; omega
        · rw [if_neg h4]; omega
theorem samples_Merge.lt_not (x y : S62) : samples_Merge.lt x y = false ↔ y.f0 < x.f0 ∨ (y.f0 = x.f0 ∧ y.f1 ≤ x.f1) := by
  rw [← Bool.not_eq_true, samples_Merge.lt_iff]
  omega
theorem samples_Merge.swo : Hand.SWOn (fun _ : S62 => True) samples_Merge.lt where
  irrefl x _ := by rw [samples_Merge.lt_not]; omega
  trans x y z _ _ _ h1 h2 := by rw [samples_Merge.lt_iff] at *; omega
  ntrans x y z _ _ _ h1 h2 := by rw [samples_Merge.lt_not] at *; omega
theorem samples_Merge.uni {x y : S62} (h1 : samples_Merge.lt x y = false) (h2 : samples_Merge.lt y x = false) : x = y := by
  rw [samples_Merge.lt_not] at h1 h2
  have e0 : x.f0 = y.f0 := by omega
  have e1 : x.f1 = y.f1 := by omega
  cases x; cases y
  simp only at e0 e1
  rw [e0, e1]
/-- The samples of both, each once. -/
def samples_Merge.both (l0 l1 : List (S62)) : List (S62) := api_Sample_101.comp (Hand.sortL samples_Merge.lt (l0 ++ l1))
/-- Has one time two values? -/
def samples_Merge.dup (m : List (S62)) : Bool := (List.range m.length).any fun j => decide (0 < j) && ((rd_T62 m (j : Int)).f0 == (rd_T62 m ((j - 1 : Nat) : Int)).f0)
def samples_Merge.f (k : Nat) (l0 : List (S62)) (l1 : List (S62)) : Option (List (S62) × Int) :=
  (block_Check.f k l0).bind fun t => if t = 0 then ((block_Check.f k l1).bind fun u => if u = 0 then
    (if l0.length ≤ 1000 then (if l1.length ≤ 1000 then (if samples_Merge.dup (samples_Merge.both l0 l1) = true then some ([], 8) else if (samples_Merge.both l0 l1).length > 64 then some ([], 6) else some (samples_Merge.both l0 l1, 0)) else none) else none) else some ([], 1)) else some ([], 1)
theorem samples_Merge.mono : ∀ a0 a1 k, LeO (samples_Merge.f k a0 a1) (samples_Merge.f (k + 1) a0 a1) := by
  intro a0 a1 k r h
  unfold samples_Merge.f at h ⊢
  obtain ⟨t, h1, h2⟩ := Option.bind_eq_some_iff.mp h
  rw [block_Check.mono _ _ _ h1, Option.bind_some]
  by_cases c : t = 0
  · rw [if_pos c] at h2 ⊢
    obtain ⟨u, h3, h4⟩ := Option.bind_eq_some_iff.mp h2
    rw [block_Check.mono _ _ _ h3, Option.bind_some]
    exact h4
  · rw [if_neg c] at h2 ⊢
    exact h2
theorem samples_Merge.enc_len : ∀ x, (samples_Merge_1.enc x).length = 2 := fun _ => rfl
theorem samples_Merge.enc_one : ∀ x, ∀ v ∈ samples_Merge_1.enc x, v.oneCell' = true := fun x v hv => by
  simp only [samples_Merge_1.enc, List.mem_cons, List.not_mem_nil, or_false] at hv
  rcases hv with rfl | rfl <;> rfl
/-- A row of the call's own, or none. -/
def samples_Merge.Own (B : Nat) (A : Option Addr) (c : Nat) (l : List (S62)) (w : World) : Prop := (A = none ∧ c = 0 ∧ l = []) ∨ ∃ g cur, A = some ⟨g, 0, none⟩ ∧ B ≤ g ∧ g < w.heap.size ∧ Sort.HoldsK samples_Merge_1.enc 2 w g 0 l.toArray ∧ l.length ≤ c ∧ c ≤ maxLen ∧ w.heap[g]? = some (.cells cur 62 (0, 0)) ∧ cur.size = c * 2
theorem samples_Merge.own_of {B : Nat} {v : Value} {l : List (S62)} {w : World} (h : Kd.R k62 62 w B (fun _ => True) v l) : ∃ A c, v = .slice A l.length c ∧ samples_Merge.Own B A c l w := by
  rcases Hand.holds_of_R (enc := samples_Merge_1.enc) (k := 2) rfl (fun _ _ _ _ _ h => k62_openM h) samples_Merge.enc_len h with ⟨rfl, rfl⟩ | ⟨g, cap, cur, rfl, hbg, hgw, hlc, hcm, hh, hcs, hH⟩
  · exact ⟨none, 0, rfl, .inl ⟨rfl, rfl, rfl⟩⟩
  · exact ⟨_, _, rfl, .inr ⟨g, cur, rfl, hbg, hgw, hH, hlc, hcm, hh, hcs⟩⟩
theorem samples_Merge.own_R {B : Nat} {A : Option Addr} {c : Nat} {l : List (S62)} {w : World} (h : samples_Merge.Own B A c l w) : Kd.R k62 62 w B (fun _ => True) (.slice A l.length c) l := by
  rcases h with ⟨rfl, rfl, rfl⟩ | ⟨g, cur, rfl, hbg, hgw, hH, hlc, hcm, hh, hcs⟩
  · exact Kd.R_nil _ _ _ _ _
  · exact Hand.R_of_holds rfl (fun w base ok x => k62_mkM w base ok x) samples_Merge.enc_len hh hcs hlc hcm hbg hH
theorem samples_Merge.srt (W1 w : World) (A : Option Addr) (c : Nat) (l : List (S62)) (hB : Below W1.heap.size W1 w) (hO : samples_Merge.Own W1.heap.size A c l w) (hl : l.length ≤ 1000000) :
    Calls Try.prog 97 #[.slice A l.length c, .func (.func 98) #[] #[]] w fun e w' => e = .returned (.tuple #[]) ∧ Below W1.heap.size W1 w' ∧ samples_Merge.Own W1.heap.size A c (Hand.sortL samples_Merge.lt l) w' := by
  rcases hO with ⟨rfl, rfl, rfl⟩ | ⟨g, cur, rfl, hbg, hgw, hH, hlc, hcm, hh, hcs⟩
  · have hc := AnyF.slices_SortFunc_none Try.sortSample none 0 (.func (.func 98) #[] #[]) w
    refine Calls.mono (show Calls Try.prog 97 _ w _ from hc) ?_
    rintro e w' ⟨rfl, rfl⟩
    exact ⟨rfl, hB, .inl ⟨rfl, rfl, rfl⟩⟩
  · have hc := Hand.sortFunc Try.sortSample 2 Try.isAgg62 Try.sizeOf62 samples_Merge_1.enc samples_Merge.enc_len samples_Merge.enc_one (fun _ => True) samples_Merge_1.cmp samples_Merge.swo 98 #[] g c l w (Go.Proofs.enters_of Try.func98 (by kernel_rfl) rfl)
      (fun _ _ => trivial) (fun x _ y _ h1 h2 => samples_Merge.uni h1 h2) (fun m os dk hs x y _ _ => samples_Merge_1.callsG x y _) hH hgw (by omega)
    refine Calls.mono (show Calls Try.prog 97 _ w _ from hc) ?_
    rintro e w' ⟨rfl, hS⟩
    have hlen : (Hand.sortL samples_Merge.lt l).length = l.length := (Hand.sortL_perm _ l).length_eq
    have hR := Hand.RowAt.of_swk hS hH (by simp [(Hand.sortL_perm _ l).length_eq]) hgw
    obtain ⟨c', hk', hz'⟩ := hR.kept _ _ _ hh
    exact ⟨rfl, hR.sub hB hB.size hbg, .inr ⟨g, c', rfl, hbg, Nat.lt_of_lt_of_le hgw hR.grown.size, hR.holds, by rw [hlen]; exact hlc, hcm, hk', by rw [hz']; exact hcs⟩⟩
theorem samples_Merge.cmpct (W1 w : World) (A : Option Addr) (c : Nat) (l : List (S62)) (hB : Below W1.heap.size W1 w) (hO : samples_Merge.Own W1.heap.size A c l w) (hl : l.length ≤ 1000000) :
    Calls Try.prog 101 #[.slice A l.length c] w fun e w' => e = .returned (.slice A (api_Sample_101.comp l).length c) ∧ Below W1.heap.size W1 w' ∧ samples_Merge.Own W1.heap.size A c (api_Sample_101.comp l) w' := by
  rcases hO with ⟨rfl, rfl, rfl⟩ | ⟨g, cur, rfl, hbg, hgw, hH, hlc, hcm, hh, hcs⟩
  · have HB := Lib.hid hB
    clear hB
    show Calls Try.prog 101 #[.slice none 0 0] w _
    go_enter Try.func101, Try.ntmps101
    go_wp2
    go_ret
    exact ⟨rfl, HB.out, .inl ⟨rfl, rfl, rfl⟩⟩
  · refine (api_Sample_101.walk g c l w hH hgw hl hlc).mono ?_
    rintro e w' ⟨rfl, d, hds, hdt, hR⟩
    obtain ⟨c', hk', hz'⟩ := hR.kept _ _ _ hh
    have hle : (api_Sample_101.comp l).length ≤ l.length := by
      have := congrArg List.length hdt
      simp only [List.length_take, Array.length_toList] at this
      omega
    exact ⟨rfl, hR.sub hB hB.size hbg, .inr ⟨g, c', rfl, hbg, Nat.lt_of_lt_of_le hgw hR.grown.size, Hand.HoldsK_take hR.holds _ hdt (by omega), by omega, hcm, hk', by rw [hz']; exact hcs⟩⟩
set_option maxHeartbeats 1000000 in
set_option maxRecDepth 100000 in
theorem samples_Merge.calls (k : Nat) (A0 : Option Addr) (c0 : Nat) (l0 : List (S62)) (A1 : Option Addr) (c1 : Nat) (l1 : List (S62)) (r1 : List (S62)) (r2 : Int) (w : World) (hr0 : Kd.C k62 w A0 l0.length l0) (hc0 : l0.length ≤ c0) (hr1 : Kd.C k62 w A1 l1.length l1) (hc1 : l1.length ≤ c1) (h : samples_Merge.f k l0 l1 = some (r1, r2)) :
    Calls Try.prog 54 #[.slice A0 l0.length c0, .slice A1 l1.length c1] w fun e w' => ∃ v0_ : Value, e = .returned (.tuple #[v0_, .int .i64 r2]) ∧ Kd.R k62 62 w' w.heap.size (fun _ => True) v0_ r1 ∧ Below w.heap.size w w' := by
  unfold samples_Merge.f at h
  obtain ⟨t, h1, h⟩ := Option.bind_eq_some_iff.mp h
  have H0 := Lib.hid hr0
  have H1 := Lib.hid hr1
  have HC0 := Lib.hid (block_Check.calls k A0 c0 l0 t w hr0 hc0 h1)
  clear hr0 hr1 h1
  by_cases ht : t = 0
  rotate_left
  · rw [if_neg ht] at h
    simp only [Option.some.injEq, Prod.mk.injEq] at h
    obtain ⟨rfl, rfl⟩ := h
    have ht0 : (t == 0) = false := beq_eq_false_iff_ne.2 ht
    go_enter Try.func54, Try.ntmps54
    go_wp2_with (go_at_call 80; refine HC0.out.mono ?_; rintro e w2 ⟨rfl, hb⟩; have HB2 := Lib.hid hb; clear hb)
    go_ret2
    exact ⟨_, rfl, Kd.R_nil _ _ _ _ _, HB2.out⟩
  rw [if_pos ht] at h
  subst ht
  obtain ⟨u, h2, h⟩ := Option.bind_eq_some_iff.mp h
  have HCK := Lib.hid (fun (W : World) (hb : Below w.heap.size w W) => block_Check.calls k A1 c1 l1 u W (Kd.C_below H1.out hb) hc1 h2)
  clear h2
  by_cases hu : u = 0
  rotate_left
  · rw [if_neg hu] at h
    simp only [Option.some.injEq, Prod.mk.injEq] at h
    obtain ⟨rfl, rfl⟩ := h
    have hu0 : (u == 0) = false := beq_eq_false_iff_ne.2 hu
    go_enter Try.func54, Try.ntmps54
    go_wp2_with (first | (go_at_call 80; with_reducible refine HC0.out.mono ?_; rintro e w2 ⟨rfl, hb⟩; have HB2 := Lib.hid hb; clear hb) | (go_at_call 80; with_reducible refine (HCK.out _ HB2.out).mono ?_; rintro e w3 ⟨rfl, hb⟩; have HB3 := Lib.hid (HB2.out.trans (hb.mono HB2.out.size)); clear hb))
    go_ret2
    exact ⟨_, rfl, Kd.R_nil _ _ _ _ _, HB3.out⟩
  rw [if_pos hu] at h
  subst hu
  by_cases hl0 : l0.length ≤ 1000
  rotate_left
  · rw [if_neg hl0] at h; cases h
  by_cases hl1 : l1.length ≤ 1000
  rotate_left
  · rw [if_pos hl0, if_neg hl1] at h; cases h
  rw [if_pos hl0, if_pos hl1] at h
  obtain ⟨l3, hl3⟩ : ∃ l3, l3 = l0 ++ l1 := ⟨_, rfl⟩
  obtain ⟨l4, hl4⟩ : ∃ l4, l4 = Hand.sortL samples_Merge.lt l3 := ⟨_, rfl⟩
  obtain ⟨m, hm⟩ : ∃ m, m = api_Sample_101.comp l4 := ⟨_, rfl⟩
  have hbm : samples_Merge.both l0 l1 = m := by unfold samples_Merge.both; rw [hm, hl4, hl3]
  rw [hbm] at h
  have hl3n : l3.length ≤ 2000 := by rw [hl3, List.length_append]; omega
  have hl4n : l4.length ≤ 2000 := by rw [hl4, (Hand.sortL_perm _ l3).length_eq]; exact hl3n
  have HL3 := Lib.hid hl3
  have HL4 := Lib.hid hl4
  have HM := Lib.hid hm
  have hmn : m.length ≤ 1000000 := by
    have : m.length ≤ l4.length := by
      rw [hm]
      unfold api_Sample_101.comp Lib.compactUpTo
      rw [List.length_map]
      exact Nat.le_trans (List.length_filter_le _ _) (by rw [List.length_range]; exact Nat.le_refl _)
    omega
  have HH := Lib.hid h
  clear hbm hl3 hl4 hm h
  have mixed : Try.prog.follows .mixedOrders = true := by kernel_rfl
  go_enter Try.func54, Try.ntmps54
  go_wp2_with (first
    | (go_at_call 80; with_reducible refine HC0.out.mono ?_; rintro e w2 ⟨rfl, hb⟩; have HB2 := Lib.hid hb; clear hb)
    | (go_at_call 80; with_reducible refine (HCK.out _ HB2.out).mono ?_; rintro e w3 ⟨rfl, hb⟩; have HB3 := Lib.hid (HB2.out.trans (hb.mono HB2.out.size)); clear hb)
    | (go_at_call 96; go_loud (refine (api_Sample_96.two A0 A1 c0 c1 l0 l1 w3.heap.size _ (0, 0) _ (Hand.heap_last _ _) (Kd.C_below (Kd.C_below H0.out HB3.out) (below_alloc (Below.refl _ _) _)) (Kd.C_below (Kd.C_below H1.out HB3.out) (below_alloc (Below.refl _ _) _)) hl0 hl1).mono ?_); rintro e w4 ⟨v4, rfl, hr, hb⟩; go_loud (rw [← HL3.out] at hr); have hw3 : w3.heap.size ≤ (w3.alloc (Obj.cells #[.slice A0 l0.length c0, .slice A1 l1.length c1] 60)).heap.size := Nat.le_trans (Nat.le_succ _) (Nat.le_of_eq (Hand.size_alloc1 _ _).symm); go_loud (have HB4 := Lib.hid ((below_alloc (Below.refl w3.heap.size w3) _).trans (hb.mono hw3))); go_loud (obtain ⟨A4, c4, rfl, ho⟩ := samples_Merge.own_of (Kd.R_lower hr hw3)); have HO4 := Lib.hid ho; clear hr hb ho hw3)
    | (go_at_call 97; refine (samples_Merge.srt w3 _ A4 c4 l3 HB4.out HO4.out (by omega)).mono ?_; rintro e w5 ⟨rfl, hb, ho⟩; rw [← HL4.out] at ho; have HB5 := Lib.hid hb; have HO5 := Lib.hid ho; clear hb ho)
    | (go_at_call 101; rw [show l3.length = l4.length by rw [HL4.out]; exact (Hand.sortL_perm _ l3).length_eq.symm]; refine (samples_Merge.cmpct w3 _ A4 c4 l4 HB5.out HO5.out (by omega)).mono ?_; rw [← HM.out]; rintro e w6 ⟨rfl, hb, ho⟩; have HB6 := Lib.hid hb; have HO6 := Lib.hid ho; clear hb ho))
  have HRD := Lib.hid (fun (W : World) (hb : Below w6.heap.size w6 W) => Kd.C_below (Kd.R_reads' (samples_Merge.own_R HO6.out)).2.2 hb)
  have HB6w := Lib.hid (HB3.out.trans (HB6.out.mono HB3.out.size))
  have HR6 := Lib.hid (Kd.R_lower (samples_Merge.own_R HO6.out) HB3.out.size)
  go_loopg [7, 26] m.length (fun gg v7 v26 wr => ∃ i : Nat, v26 = .int .i64 i ∧ i ≤ m.length ∧ m.length - i ≤ gg ∧ Hid (∀ j : Nat, 0 < j → j < i → ((rd_T62 m (j : Int)).f0 == (rd_T62 m ((j - 1 : Nat) : Int)).f0) = false) ∧ Hid (Below w6.heap.size w6 wr))
  case atStart => exact ⟨0, by go_num, Nat.zero_le _, by omega, Lib.hid (fun j h1 h2 => by omega), Lib.hid (Below.refl _ _)⟩
  case round =>
    obtain ⟨i, rfl, him, hgg, HF, HBr⟩ := hrel
    by_cases hlt : i < m.length
    · have hltz : (i : Int) < (m.length : Int) := by omega
      obtain ⟨ad, eA, cx0, _⟩ := at_T62 (HRD.out _ HBr.out) (i : Int) (by omega) hltz
      rw [Int.toNat_natCast] at cx0
      subst eA
      by_cases hi0 : 0 < i
      · have hi0z : (0 : Int) < (i : Int) := by omega
        have hi0y : (i : Int) > 0 := hi0z
        obtain ⟨ad2, eA2, cy0, _⟩ := at_T62 (HRD.out _ HBr.out) ((i - 1 : Nat) : Int) (by omega) (by omega)
        rw [Int.toNat_natCast] at cy0
        obtain rfl : ad = ad2 := by injection eA2
        have hkn : ((i : Int) - 1).toNat = i - 1 := by omega
        have hk0 : (0 : Int) ≤ (i : Int) - 1 := by omega
        have hk2 : (i : Int) - 1 < (m.length : Int) := by omega
        have hkw' : wrap64 ((i : Int) - 1) = (i : Int) - 1 := by unfold wrap64; omega
        have HX := Lib.hid (show (rd_T62 m (i : Int)).f0 = (rd_T62 m (i : Int)).f0 ∧ (rd_T62 m ((i - 1 : Nat) : Int)).f0 = (rd_T62 m ((i - 1 : Nat) : Int)).f0 from ⟨rfl, rfl⟩)
        generalize hx : (rd_T62 m (i : Int)).f0 = x at cx0
        generalize hy : (rd_T62 m ((i - 1 : Nat) : Int)).f0 = y at cy0
        have HX1 := Lib.hid hx
        have HY1 := Lib.hid hy
        clear hx hy HX eA2
        cases hxy : (x == y) with
        | true =>
          have hd : samples_Merge.dup m = true := by
            unfold samples_Merge.dup
            rw [List.any_eq_true]
            exact ⟨i, List.mem_range.2 hlt, by rw [HX1.out, HY1.out, hxy, decide_eq_true hi0]; rfl⟩
          have h := HH.out
          rw [if_pos hd] at h
          simp only [Option.some.injEq, Prod.mk.injEq] at h
          obtain ⟨rfl, rfl⟩ := h
          clear hd
          go_wp2_with fail
          go_region_o
          go_wp2
          go_ret2
          exact ⟨_, rfl, Kd.R_nil _ _ _ _ _, HB6w.out.trans ((HBr.out.trans (below_drew1 (Below.refl _ _))).mono HB6w.out.size)⟩
        | false =>
          go_wp2_with fail
          go_region_o
          go_wp2
          go_roundg (m.length - (i + 1))
          case measure => omega
          case rel =>
            refine ⟨i + 1, by go_num, by omega, by omega, Lib.hid (fun j h1 h2 => ?_), Lib.hid (by repeat (first | exact HBr.out | apply below_alloc | apply pw_below_drewN | apply below_drew1))⟩
            by_cases e : j = i
            · subst e; rw [HX1.out, HY1.out]; exact hxy
            · exact HF.out j h1 (by omega)
      · obtain rfl : i = 0 := by omega
        go_wp2_with fail
        go_region_o
        go_wp2
        go_roundg (m.length - 1)
        case measure => omega
        case rel => exact ⟨1, by go_num, by omega, by omega, Lib.hid (fun j h1 h2 => by omega), Lib.hid (by repeat (first | exact HBr.out | apply below_alloc | apply pw_below_drewN | apply below_drew1))⟩
    · have hltz : ¬ (i : Int) < (m.length : Int) := by omega
      obtain rfl : i = m.length := by omega
      have hd : samples_Merge.dup m = false := by
        unfold samples_Merge.dup
        rw [List.any_eq_false]
        intro j hj
        have := List.mem_range.1 hj
        by_cases h0 : 0 < j
        · rw [HF.out j h0 this]; simp
        · rw [decide_eq_false h0]; simp
      have h := HH.out
      rw [if_neg (by rw [hd]; decide)] at h
      clear hd
      by_cases h64 : m.length > 64
      · have h64z : (m.length : Int) > 64 := by omega
        rw [if_pos h64] at h
        simp only [Option.some.injEq, Prod.mk.injEq] at h
        obtain ⟨rfl, rfl⟩ := h
        go_wp2
        go_ret2
        exact ⟨_, rfl, Kd.R_nil _ _ _ _ _, HB6w.out.trans (HBr.out.mono HB6w.out.size)⟩
      · have h64z : ¬ (m.length : Int) > 64 := by omega
        rw [if_neg h64] at h
        simp only [Option.some.injEq, Prod.mk.injEq] at h
        obtain ⟨rfl, rfl⟩ := h
        go_wp2
        go_ret2
        exact ⟨_, rfl, Kd.R_below HR6.out HBr.out, HB6w.out.trans (HBr.out.mono HB6w.out.size)⟩

end Go.Proofs.Ytilgmccdpddeoaa.PSamplesMerge
