-- written by wip/pp.py
import Derived.Test.YtilgmccdpddeoaaPSamplesMergex0
namespace Go.Proofs.Ytilgmccdpddeoaa.PSamplesMerge
open Go.RowKit Go.Proofs.YtilgmccdpddeoaaW.PrintWords Go.Proofs.YtilgmccdpddeoaaW.PrintLast Go.Proofs.YtilgmccdpddeoaaW.PrintMore
attribute [local go_sem] max2_int min2_int max_two min_two max_three min_three max_four min_four   -- for this text's walks alone
set_option linter.unusedVariables false
set_option linter.unusedSimpArgs false

/-! ### block_Check: function 80 -/
def block_Check.l0 : Nat → List (S62) → List (S62) → Int → Int → Option (Int)
  | 0, _, _, _, _ => none
  | k + 1, x0, x8, x9, x10 => if x10 < x9 then (if 0 ≤ x10 then (if x10 < (x8.length : Int) then (if ((rd_T62 x8 x10).f0) < 0 then (some 1) else (if ((rd_T62 x8 x10).f0) > 1099511627776 then (some 1) else (if ((rd_T62 x8 x10).f1) < (-1099511627776) then (some 1) else (if ((rd_T62 x8 x10).f1) > 1099511627776 then (some 1) else (if x10 > 0 then (if 0 ≤ (wrap64 (x10 - 1)) then (if (wrap64 (x10 - 1)) < (x0.length : Int) then (if ((rd_T62 x8 x10).f0) ≤ ((rd_T62 x0 (wrap64 (x10 - 1))).f0) then (some 1) else (block_Check.l0 k x0 x8 x9 (wrap64 (x10 + 1)))) else (none)) else (none)) else (block_Check.l0 k x0 x8 x9 (wrap64 (x10 + 1)))))))) else (none)) else (none)) else (some 0)
def block_Check.f (k : Nat) (l0 : List (S62)) : Option (Int) := if (l0.length : Int) > 64 then (some 1) else (block_Check.l0 k l0 l0 (l0.length : Int) 0)
theorem block_Check.mono_l : ∀ k, (∀ y0 y1 y2 y3, LeO (block_Check.l0 k y0 y1 y2 y3) (block_Check.l0 (k + 1) y0 y1 y2 y3))
  | 0 => fun _ _ _ _ r h => by simp [block_Check.l0] at h
  | k + 1 => by
    have ih0 := block_Check.mono_l k
    · intro y0 y1 y2 y3
      unfold block_Check.l0
      repeat' first
      | (with_reducible exact ih0 _ _ _ _)
      | (with_reducible exact LeO.refl _)
      | (with_reducible exact LeO.none _)
      | (with_reducible refine LeO.ite ?_ ?_)
      | (with_reducible refine LeO.bind ?_ (fun _ => ?_))
      | exact ih0 _ _ _ _
      | exact LeO.none _
      | refine LeO.ite ?_ ?_
      | refine LeO.bind ?_ (fun _ => ?_)
theorem block_Check.mono : ∀ a0 k, LeO (block_Check.f k a0) (block_Check.f (k + 1) a0) := by
  intro a0 k
  have ih0 := block_Check.mono_l k
  unfold block_Check.f
  repeat' first
      | (with_reducible exact ih0 _ _ _ _)
      | (with_reducible exact LeO.refl _)
      | (with_reducible exact LeO.none _)
      | (with_reducible refine LeO.ite ?_ ?_)
      | (with_reducible refine LeO.bind ?_ (fun _ => ?_))
      | exact ih0 _ _ _ _
      | exact LeO.none _
      | refine LeO.ite ?_ ?_
      | refine LeO.bind ?_ (fun _ => ?_)
set_option maxHeartbeats 8000000 in
set_option maxRecDepth 100000 in
theorem block_Check.calls (k : Nat) (A0 : Option Addr) (c0 : Nat) (l0 : List (S62)) (r : Int) (w : World) (hr0 : Kd.C k62 w A0 l0.length l0) (hc0 : l0.length ≤ c0) (h : block_Check.f k l0 = some r) :
    Calls Try.prog 80 #[.slice A0 l0.length c0] w fun e w' => e = .returned (.int .i64 r) ∧ Below w.heap.size w w' := by
  have hu62 := Try.underlying62
  have HR0 := Aside0.mk hr0
  have HC0 := Aside0.mk hc0
  clear hr0 hc0
  have HB := Aside0.mk (Below.refl w.heap.size w)
  have H : (if (l0.length : Int) > 64 then (some 1) else (block_Check.l0 k l0 l0 (l0.length : Int) 0)) = some r := h
  clear h
  by_cases c2 : (l0.length : Int) > 64
  · rw [if_pos c2] at H
    have c2b0 : decide (64 < (l0.length : Int)) = true := decide_eq_true c2
    have c2b1 : decide (64 < l0.length) = true := decide_eq_true (by omega)
    clear c2
    obtain rfl := Option.some.inj H
    go_enter Try.func80, Try.ntmps80
    go_wp2
    repeat (go_quiet (fail); try go_wp2)
    go_ret
    exact ⟨by first | rfl | (simp [errW_none, errW_some] <;> rfl) | (simp [*, errW_none, errW_some] <;> rfl), by repeat (first | (with_reducible first | exact HB.out | apply below_alloc | apply pw_below_drewN | apply below_drew1) | exact HB.out)⟩
  · rw [if_neg c2] at H
    have c2b0 : decide (64 < (l0.length : Int)) = false := decide_eq_false c2
    have c2b1 : decide (64 < l0.length) = false := decide_eq_false (by omega)
    clear c2
    have H' := Aside0.mk H
    clear H
    go_enter Try.func80, Try.ntmps80
    go_wp2
    repeat (go_quiet (fail); try go_wp2)
    go_loopg [10] k (fun kq v10 w' => ∃ (x10_1 : Int), v10 = .int .i64 x10_1 ∧ Aside0 (block_Check.l0 kq l0 l0 (l0.length : Int) x10_1 = some r) ∧ Aside0 (kq ≤ k) ∧ Aside0 (Below w.heap.size w w'))
    case atStart => exact ⟨(0), (by first | rfl | (simp; done) | (simp [*]; done)), H', ⟨Nat.le_refl _⟩, ⟨by repeat (first | (with_reducible first | exact HB.out | apply below_alloc | apply pw_below_drewN | apply below_drew1) | exact HB.out)⟩⟩
    case round =>
      clear H'
      try clear c2
      try clear c2b0
      try clear c2b1
      try clear p2
      obtain ⟨x10_1, rfl, HA, HK1, HB⟩ := hrel
      cases gk with
      | zero => exact absurd HA.out (by simp [block_Check.l0])
      | succ k1 =>
        have H := HA.out
        clear HA
        simp only [block_Check.l0] at H
        by_cases c3 : x10_1 < (l0.length : Int)
        · rw [if_pos c3] at H
          have c3b0 : decide (x10_1 < (l0.length : Int)) = true := decide_eq_true c3
          clear c3
          by_cases c4 : 0 ≤ x10_1
          · rw [if_pos c4] at H
            have c4b0 : decide (0 ≤ x10_1) = true := decide_eq_true c4
            clear c4
            by_cases c5 : x10_1 < (l0.length : Int)
            · rw [if_pos c5] at H
              have c5b0 : decide (x10_1 < (l0.length : Int)) = true := decide_eq_true c5
              clear c5
              by_cases c6 : ((rd_T62 l0 x10_1).f0) < 0
              · rw [if_pos c6] at H
                have c6b0 : decide (((rd_T62 l0 x10_1).f0) < 0) = true := decide_eq_true c6
                clear c6
                obtain rfl := Option.some.inj H
                have p101 : 0 ≤ (x10_1 : Int) := of_decide_eq_true (by first | (with_reducible assumption) | assumption)
                have q101 : x10_1 < (l0.length : Int) := of_decide_eq_true (by first | (with_reducible assumption) | assumption)
                obtain ⟨ad101, e101, hx101_0, hx101_1⟩ := at_T62 HR0.out x10_1 p101 q101
                cases e101
                replace hx101_0 := (HB.out.cell (World.block_lt_of_cell? w _ hx101_0)).trans hx101_0
                replace hx101_1 := (HB.out.cell (World.block_lt_of_cell? w _ hx101_1)).trans hx101_1
                replace p101 := eq_true p101
                replace q101 := eq_true q101
                go_wp2_with (first | ((with_reducible refine gate_dst (N := 4) rfl ?_); refine box_event ?hg (N := 4) ?hd (cs := #[.int .i64 0, .int .i64 0]) (t := 62) ?hr ?_; (case hd => rfl); (case hg => rfl); (case hr => first | (go_simp; done) | (go_simp; rfl)); intro gb102 hg w7 hbox hb; have n0_ := Aside0.mk (below_step (by repeat (first | (with_reducible first | exact HB.out | apply below_alloc | apply pw_below_drewN | apply below_drew1) | exact HB.out)) hb); have n1_ := Aside0.mk (hbox); have n2_ := Aside0.mk ((by rw [hg]; exact (below_size (by repeat (first | (with_reducible first | exact HB.out | apply below_alloc | apply pw_below_drewN | apply below_drew1) | exact HB.out))) : w.heap.size ≤ gb102)); have n3_ := Aside0.mk ((by rw [hg]; exact (below_size (by repeat (first | (with_reducible first | exact HB.out | apply below_alloc | apply pw_below_drewN | apply below_drew1) | exact HB.out))) : w.heap.size ≤ gb102)); clear HB; have HB := n0_; have BK102 := n1_; have GW102 := n2_; have GE102 := n3_; clear n0_ n1_ n2_ n3_; clear hb hbox hg; have hcz8_0 : w7.cell? ⟨gb102, 0, none⟩ = some (.int .i64 0) := (blk_cell BK102.out 0).trans rfl; have hcz8_1 : w7.cell? ⟨gb102, 1, none⟩ = some (.int .i64 0) := (blk_cell BK102.out 1).trans rfl; have hfz8_0 := blk_frozen BK102.out 0; have hfz8_1 := blk_frozen BK102.out 1))
                repeat (go_quiet (first | ((with_reducible refine gate_dst (N := 4) rfl ?_); refine box_event ?hg (N := 4) ?hd (cs := #[.int .i64 0, .int .i64 0]) (t := 62) ?hr ?_; (case hd => rfl); (case hg => rfl); (case hr => first | (go_simp; done) | (go_simp; rfl)); intro gb102 hg w7 hbox hb; have n0_ := Aside0.mk (below_step (by repeat (first | (with_reducible first | exact HB.out | apply below_alloc | apply pw_below_drewN | apply below_drew1) | exact HB.out)) hb); have n1_ := Aside0.mk (hbox); have n2_ := Aside0.mk ((by rw [hg]; exact (below_size (by repeat (first | (with_reducible first | exact HB.out | apply below_alloc | apply pw_below_drewN | apply below_drew1) | exact HB.out))) : w.heap.size ≤ gb102)); have n3_ := Aside0.mk ((by rw [hg]; exact (below_size (by repeat (first | (with_reducible first | exact HB.out | apply below_alloc | apply pw_below_drewN | apply below_drew1) | exact HB.out))) : w.heap.size ≤ gb102)); clear HB; have HB := n0_; have BK102 := n1_; have GW102 := n2_; have GE102 := n3_; clear n0_ n1_ n2_ n3_; clear hb hbox hg; have hcz8_0 : w7.cell? ⟨gb102, 0, none⟩ = some (.int .i64 0) := (blk_cell BK102.out 0).trans rfl; have hcz8_1 : w7.cell? ⟨gb102, 1, none⟩ = some (.int .i64 0) := (blk_cell BK102.out 1).trans rfl; have hfz8_0 := blk_frozen BK102.out 0; have hfz8_1 := blk_frozen BK102.out 1)); try go_wp2_with (first | ((with_reducible refine gate_dst (N := 4) rfl ?_); refine box_event ?hg (N := 4) ?hd (cs := #[.int .i64 0, .int .i64 0]) (t := 62) ?hr ?_; (case hd => rfl); (case hg => rfl); (case hr => first | (go_simp; done) | (go_simp; rfl)); intro gb102 hg w7 hbox hb; have n0_ := Aside0.mk (below_step (by repeat (first | (with_reducible first | exact HB.out | apply below_alloc | apply pw_below_drewN | apply below_drew1) | exact HB.out)) hb); have n1_ := Aside0.mk (hbox); have n2_ := Aside0.mk ((by rw [hg]; exact (below_size (by repeat (first | (with_reducible first | exact HB.out | apply below_alloc | apply pw_below_drewN | apply below_drew1) | exact HB.out))) : w.heap.size ≤ gb102)); have n3_ := Aside0.mk ((by rw [hg]; exact (below_size (by repeat (first | (with_reducible first | exact HB.out | apply below_alloc | apply pw_below_drewN | apply below_drew1) | exact HB.out))) : w.heap.size ≤ gb102)); clear HB; have HB := n0_; have BK102 := n1_; have GW102 := n2_; have GE102 := n3_; clear n0_ n1_ n2_ n3_; clear hb hbox hg; have hcz8_0 : w7.cell? ⟨gb102, 0, none⟩ = some (.int .i64 0) := (blk_cell BK102.out 0).trans rfl; have hcz8_1 : w7.cell? ⟨gb102, 1, none⟩ = some (.int .i64 0) := (blk_cell BK102.out 1).trans rfl; have hfz8_0 := blk_frozen BK102.out 0; have hfz8_1 := blk_frozen BK102.out 1)))
                go_ret
                exact ⟨by first | rfl | (simp [errW_none, errW_some] <;> rfl) | (simp [*, errW_none, errW_some] <;> rfl), by repeat (first | (with_reducible first | exact HB.out | apply below_alloc | apply pw_below_drewN | apply below_drew1 | refine below_set ?_ GE102.out) | exact HB.out)⟩
              · rw [if_neg c6] at H
                have c6b0 : decide (((rd_T62 l0 x10_1).f0) < 0) = false := decide_eq_false c6
                clear c6
                by_cases c9 : ((rd_T62 l0 x10_1).f0) > 1099511627776
                · rw [if_pos c9] at H
                  have c9b0 : decide (1099511627776 < ((rd_T62 l0 x10_1).f0)) = true := decide_eq_true c9
                  clear c9
                  obtain rfl := Option.some.inj H
                  have p101 : 0 ≤ (x10_1 : Int) := of_decide_eq_true (by first | (with_reducible assumption) | assumption)
                  have q101 : x10_1 < (l0.length : Int) := of_decide_eq_true (by first | (with_reducible assumption) | assumption)
                  obtain ⟨ad101, e101, hx101_0, hx101_1⟩ := at_T62 HR0.out x10_1 p101 q101
                  cases e101
                  replace hx101_0 := (HB.out.cell (World.block_lt_of_cell? w _ hx101_0)).trans hx101_0
                  replace hx101_1 := (HB.out.cell (World.block_lt_of_cell? w _ hx101_1)).trans hx101_1
                  replace p101 := eq_true p101
                  replace q101 := eq_true q101
                  go_wp2_with (first | ((with_reducible refine gate_dst (N := 4) rfl ?_); refine box_event ?hg (N := 4) ?hd (cs := #[.int .i64 0, .int .i64 0]) (t := 62) ?hr ?_; (case hd => rfl); (case hg => rfl); (case hr => first | (go_simp; done) | (go_simp; rfl)); intro gb102 hg w10 hbox hb; have n0_ := Aside0.mk (below_step (by repeat (first | (with_reducible first | exact HB.out | apply below_alloc | apply pw_below_drewN | apply below_drew1) | exact HB.out)) hb); have n1_ := Aside0.mk (hbox); have n2_ := Aside0.mk ((by rw [hg]; exact (below_size (by repeat (first | (with_reducible first | exact HB.out | apply below_alloc | apply pw_below_drewN | apply below_drew1) | exact HB.out))) : w.heap.size ≤ gb102)); have n3_ := Aside0.mk ((by rw [hg]; exact (below_size (by repeat (first | (with_reducible first | exact HB.out | apply below_alloc | apply pw_below_drewN | apply below_drew1) | exact HB.out))) : w.heap.size ≤ gb102)); clear HB; have HB := n0_; have BK102 := n1_; have GW102 := n2_; have GE102 := n3_; clear n0_ n1_ n2_ n3_; clear hb hbox hg; have hcz11_0 : w10.cell? ⟨gb102, 0, none⟩ = some (.int .i64 0) := (blk_cell BK102.out 0).trans rfl; have hcz11_1 : w10.cell? ⟨gb102, 1, none⟩ = some (.int .i64 0) := (blk_cell BK102.out 1).trans rfl; have hfz11_0 := blk_frozen BK102.out 0; have hfz11_1 := blk_frozen BK102.out 1))
                  repeat (go_quiet (first | ((with_reducible refine gate_dst (N := 4) rfl ?_); refine box_event ?hg (N := 4) ?hd (cs := #[.int .i64 0, .int .i64 0]) (t := 62) ?hr ?_; (case hd => rfl); (case hg => rfl); (case hr => first | (go_simp; done) | (go_simp; rfl)); intro gb102 hg w10 hbox hb; have n0_ := Aside0.mk (below_step (by repeat (first | (with_reducible first | exact HB.out | apply below_alloc | apply pw_below_drewN | apply below_drew1) | exact HB.out)) hb); have n1_ := Aside0.mk (hbox); have n2_ := Aside0.mk ((by rw [hg]; exact (below_size (by repeat (first | (with_reducible first | exact HB.out | apply below_alloc | apply pw_below_drewN | apply below_drew1) | exact HB.out))) : w.heap.size ≤ gb102)); have n3_ := Aside0.mk ((by rw [hg]; exact (below_size (by repeat (first | (with_reducible first | exact HB.out | apply below_alloc | apply pw_below_drewN | apply below_drew1) | exact HB.out))) : w.heap.size ≤ gb102)); clear HB; have HB := n0_; have BK102 := n1_; have GW102 := n2_; have GE102 := n3_; clear n0_ n1_ n2_ n3_; clear hb hbox hg; have hcz11_0 : w10.cell? ⟨gb102, 0, none⟩ = some (.int .i64 0) := (blk_cell BK102.out 0).trans rfl; have hcz11_1 : w10.cell? ⟨gb102, 1, none⟩ = some (.int .i64 0) := (blk_cell BK102.out 1).trans rfl; have hfz11_0 := blk_frozen BK102.out 0; have hfz11_1 := blk_frozen BK102.out 1)); try go_wp2_with (first | ((with_reducible refine gate_dst (N := 4) rfl ?_); refine box_event ?hg (N := 4) ?hd (cs := #[.int .i64 0, .int .i64 0]) (t := 62) ?hr ?_; (case hd => rfl); (case hg => rfl); (case hr => first | (go_simp; done) | (go_simp; rfl)); intro gb102 hg w10 hbox hb; have n0_ := Aside0.mk (below_step (by repeat (first | (with_reducible first | exact HB.out | apply below_alloc | apply pw_below_drewN | apply below_drew1) | exact HB.out)) hb); have n1_ := Aside0.mk (hbox); have n2_ := Aside0.mk ((by rw [hg]; exact (below_size (by repeat (first | (with_reducible first | exact HB.out | apply below_alloc | apply pw_below_drewN | apply below_drew1) | exact HB.out))) : w.heap.size ≤ gb102)); have n3_ := Aside0.mk ((by rw [hg]; exact (below_size (by repeat (first | (with_reducible first | exact HB.out | apply below_alloc | apply pw_below_drewN | apply below_drew1) | exact HB.out))) : w.heap.size ≤ gb102)); clear HB; have HB := n0_; have BK102 := n1_; have GW102 := n2_; have GE102 := n3_; clear n0_ n1_ n2_ n3_; clear hb hbox hg; have hcz11_0 : w10.cell? ⟨gb102, 0, none⟩ = some (.int .i64 0) := (blk_cell BK102.out 0).trans rfl; have hcz11_1 : w10.cell? ⟨gb102, 1, none⟩ = some (.int .i64 0) := (blk_cell BK102.out 1).trans rfl; have hfz11_0 := blk_frozen BK102.out 0; have hfz11_1 := blk_frozen BK102.out 1)))
                  go_ret
                  exact ⟨by first | rfl | (simp [errW_none, errW_some] <;> rfl) | (simp [*, errW_none, errW_some] <;> rfl), by repeat (first | (with_reducible first | exact HB.out | apply below_alloc | apply pw_below_drewN | apply below_drew1 | refine below_set ?_ GE102.out) | exact HB.out)⟩
                · rw [if_neg c9] at H
                  have c9b0 : decide (1099511627776 < ((rd_T62 l0 x10_1).f0)) = false := decide_eq_false c9
                  clear c9
                  by_cases c12 : ((rd_T62 l0 x10_1).f1) < (-1099511627776)
                  · rw [if_pos c12] at H
                    have c12b0 : decide (((rd_T62 l0 x10_1).f1) < (-1099511627776)) = true := decide_eq_true c12
                    clear c12
                    obtain rfl := Option.some.inj H
                    have p101 : 0 ≤ (x10_1 : Int) := of_decide_eq_true (by first | (with_reducible assumption) | assumption)
                    have q101 : x10_1 < (l0.length : Int) := of_decide_eq_true (by first | (with_reducible assumption) | assumption)
                    obtain ⟨ad101, e101, hx101_0, hx101_1⟩ := at_T62 HR0.out x10_1 p101 q101
                    cases e101
                    replace hx101_0 := (HB.out.cell (World.block_lt_of_cell? w _ hx101_0)).trans hx101_0
                    replace hx101_1 := (HB.out.cell (World.block_lt_of_cell? w _ hx101_1)).trans hx101_1
                    replace p101 := eq_true p101
                    replace q101 := eq_true q101
                    go_wp2_with (first | ((with_reducible refine gate_dst (N := 4) rfl ?_); refine box_event ?hg (N := 4) ?hd (cs := #[.int .i64 0, .int .i64 0]) (t := 62) ?hr ?_; (case hd => rfl); (case hg => rfl); (case hr => first | (go_simp; done) | (go_simp; rfl)); intro gb102 hg w13 hbox hb; have n0_ := Aside0.mk (below_step (by repeat (first | (with_reducible first | exact HB.out | apply below_alloc | apply pw_below_drewN | apply below_drew1) | exact HB.out)) hb); have n1_ := Aside0.mk (hbox); have n2_ := Aside0.mk ((by rw [hg]; exact (below_size (by repeat (first | (with_reducible first | exact HB.out | apply below_alloc | apply pw_below_drewN | apply below_drew1) | exact HB.out))) : w.heap.size ≤ gb102)); have n3_ := Aside0.mk ((by rw [hg]; exact (below_size (by repeat (first | (with_reducible first | exact HB.out | apply below_alloc | apply pw_below_drewN | apply below_drew1) | exact HB.out))) : w.heap.size ≤ gb102)); clear HB; have HB := n0_; have BK102 := n1_; have GW102 := n2_; have GE102 := n3_; clear n0_ n1_ n2_ n3_; clear hb hbox hg; have hcz14_0 : w13.cell? ⟨gb102, 0, none⟩ = some (.int .i64 0) := (blk_cell BK102.out 0).trans rfl; have hcz14_1 : w13.cell? ⟨gb102, 1, none⟩ = some (.int .i64 0) := (blk_cell BK102.out 1).trans rfl; have hfz14_0 := blk_frozen BK102.out 0; have hfz14_1 := blk_frozen BK102.out 1))
                    repeat (go_quiet (first | ((with_reducible refine gate_dst (N := 4) rfl ?_); refine box_event ?hg (N := 4) ?hd (cs := #[.int .i64 0, .int .i64 0]) (t := 62) ?hr ?_; (case hd => rfl); (case hg => rfl); (case hr => first | (go_simp; done) | (go_simp; rfl)); intro gb102 hg w13 hbox hb; have n0_ := Aside0.mk (below_step (by repeat (first | (with_reducible first | exact HB.out | apply below_alloc | apply pw_below_drewN | apply below_drew1) | exact HB.out)) hb); have n1_ := Aside0.mk (hbox); have n2_ := Aside0.mk ((by rw [hg]; exact (below_size (by repeat (first | (with_reducible first | exact HB.out | apply below_alloc | apply pw_below_drewN | apply below_drew1) | exact HB.out))) : w.heap.size ≤ gb102)); have n3_ := Aside0.mk ((by rw [hg]; exact (below_size (by repeat (first | (with_reducible first | exact HB.out | apply below_alloc | apply pw_below_drewN | apply below_drew1) | exact HB.out))) : w.heap.size ≤ gb102)); clear HB; have HB := n0_; have BK102 := n1_; have GW102 := n2_; have GE102 := n3_; clear n0_ n1_ n2_ n3_; clear hb hbox hg; have hcz14_0 : w13.cell? ⟨gb102, 0, none⟩ = some (.int .i64 0) := (blk_cell BK102.out 0).trans rfl; have hcz14_1 : w13.cell? ⟨gb102, 1, none⟩ = some (.int .i64 0) := (blk_cell BK102.out 1).trans rfl; have hfz14_0 := blk_frozen BK102.out 0; have hfz14_1 := blk_frozen BK102.out 1)); try go_wp2_with (first | ((with_reducible refine gate_dst (N := 4) rfl ?_); refine box_event ?hg (N := 4) ?hd (cs := #[.int .i64 0, .int .i64 0]) (t := 62) ?hr ?_; (case hd => rfl); (case hg => rfl); (case hr => first | (go_simp; done) | (go_simp; rfl)); intro gb102 hg w13 hbox hb; have n0_ := Aside0.mk (below_step (by repeat (first | (with_reducible first | exact HB.out | apply below_alloc | apply pw_below_drewN | apply below_drew1) | exact HB.out)) hb); have n1_ := Aside0.mk (hbox); have n2_ := Aside0.mk ((by rw [hg]; exact (below_size (by repeat (first | (with_reducible first | exact HB.out | apply below_alloc | apply pw_below_drewN | apply below_drew1) | exact HB.out))) : w.heap.size ≤ gb102)); have n3_ := Aside0.mk ((by rw [hg]; exact (below_size (by repeat (first | (with_reducible first | exact HB.out | apply below_alloc | apply pw_below_drewN | apply below_drew1) | exact HB.out))) : w.heap.size ≤ gb102)); clear HB; have HB := n0_; have BK102 := n1_; have GW102 := n2_; have GE102 := n3_; clear n0_ n1_ n2_ n3_; clear hb hbox hg; have hcz14_0 : w13.cell? ⟨gb102, 0, none⟩ = some (.int .i64 0) := (blk_cell BK102.out 0).trans rfl; have hcz14_1 : w13.cell? ⟨gb102, 1, none⟩ = some (.int .i64 0) := (blk_cell BK102.out 1).trans rfl; have hfz14_0 := blk_frozen BK102.out 0; have hfz14_1 := blk_frozen BK102.out 1)))
                    go_ret
                    exact ⟨by first | rfl | (simp [errW_none, errW_some] <;> rfl) | (simp [*, errW_none, errW_some] <;> rfl), by repeat (first | (with_reducible first | exact HB.out | apply below_alloc | apply pw_below_drewN | apply below_drew1 | refine below_set ?_ GE102.out) | exact HB.out)⟩
                  · rw [if_neg c12] at H
                    have c12b0 : decide (((rd_T62 l0 x10_1).f1) < (-1099511627776)) = false := decide_eq_false c12
                    clear c12
                    by_cases c15 : ((rd_T62 l0 x10_1).f1) > 1099511627776
                    · rw [if_pos c15] at H
                      have c15b0 : decide (1099511627776 < ((rd_T62 l0 x10_1).f1)) = true := decide_eq_true c15
                      clear c15
                      obtain rfl := Option.some.inj H
                      have p101 : 0 ≤ (x10_1 : Int) := of_decide_eq_true (by first | (with_reducible assumption) | assumption)
                      have q101 : x10_1 < (l0.length : Int) := of_decide_eq_true (by first | (with_reducible assumption) | assumption)
                      obtain ⟨ad101, e101, hx101_0, hx101_1⟩ := at_T62 HR0.out x10_1 p101 q101
                      cases e101
                      replace hx101_0 := (HB.out.cell (World.block_lt_of_cell? w _ hx101_0)).trans hx101_0
                      replace hx101_1 := (HB.out.cell (World.block_lt_of_cell? w _ hx101_1)).trans hx101_1
                      replace p101 := eq_true p101
                      replace q101 := eq_true q101
                      go_wp2_with (first | ((with_reducible refine gate_dst (N := 4) rfl ?_); refine box_event ?hg (N := 4) ?hd (cs := #[.int .i64 0, .int .i64 0]) (t := 62) ?hr ?_; (case hd => rfl); (case hg => rfl); (case hr => first | (go_simp; done) | (go_simp; rfl)); intro gb102 hg w16 hbox hb; have n0_ := Aside0.mk (below_step (by repeat (first | (with_reducible first | exact HB.out | apply below_alloc | apply pw_below_drewN | apply below_drew1) | exact HB.out)) hb); have n1_ := Aside0.mk (hbox); have n2_ := Aside0.mk ((by rw [hg]; exact (below_size (by repeat (first | (with_reducible first | exact HB.out | apply below_alloc | apply pw_below_drewN | apply below_drew1) | exact HB.out))) : w.heap.size ≤ gb102)); have n3_ := Aside0.mk ((by rw [hg]; exact (below_size (by repeat (first | (with_reducible first | exact HB.out | apply below_alloc | apply pw_below_drewN | apply below_drew1) | exact HB.out))) : w.heap.size ≤ gb102)); clear HB; have HB := n0_; have BK102 := n1_; have GW102 := n2_; have GE102 := n3_; clear n0_ n1_ n2_ n3_; clear hb hbox hg; have hcz17_0 : w16.cell? ⟨gb102, 0, none⟩ = some (.int .i64 0) := (blk_cell BK102.out 0).trans rfl; have hcz17_1 : w16.cell? ⟨gb102, 1, none⟩ = some (.int .i64 0) := (blk_cell BK102.out 1).trans rfl; have hfz17_0 := blk_frozen BK102.out 0; have hfz17_1 := blk_frozen BK102.out 1))
                      repeat (go_quiet (first | ((with_reducible refine gate_dst (N := 4) rfl ?_); refine box_event ?hg (N := 4) ?hd (cs := #[.int .i64 0, .int .i64 0]) (t := 62) ?hr ?_; (case hd => rfl); (case hg => rfl); (case hr => first | (go_simp; done) | (go_simp; rfl)); intro gb102 hg w16 hbox hb; have n0_ := Aside0.mk (below_step (by repeat (first | (with_reducible first | exact HB.out | apply below_alloc | apply pw_below_drewN | apply below_drew1) | exact HB.out)) hb); have n1_ := Aside0.mk (hbox); have n2_ := Aside0.mk ((by rw [hg]; exact (below_size (by repeat (first | (with_reducible first | exact HB.out | apply below_alloc | apply pw_below_drewN | apply below_drew1) | exact HB.out))) : w.heap.size ≤ gb102)); have n3_ := Aside0.mk ((by rw [hg]; exact (below_size (by repeat (first | (with_reducible first | exact HB.out | apply below_alloc | apply pw_below_drewN | apply below_drew1) | exact HB.out))) : w.heap.size ≤ gb102)); clear HB; have HB := n0_; have BK102 := n1_; have GW102 := n2_; have GE102 := n3_; clear n0_ n1_ n2_ n3_; clear hb hbox hg; have hcz17_0 : w16.cell? ⟨gb102, 0, none⟩ = some (.int .i64 0) := (blk_cell BK102.out 0).trans rfl; have hcz17_1 : w16.cell? ⟨gb102, 1, none⟩ = some (.int .i64 0) := (blk_cell BK102.out 1).trans rfl; have hfz17_0 := blk_frozen BK102.out 0; have hfz17_1 := blk_frozen BK102.out 1)); try go_wp2_with (first | ((with_reducible refine gate_dst (N := 4) rfl ?_); refine box_event ?hg (N := 4) ?hd (cs := #[.int .i64 0, .int .i64 0]) (t := 62) ?hr ?_; (case hd => rfl); (case hg => rfl); (case hr => first | (go_simp; done) | (go_simp; rfl)); intro gb102 hg w16 hbox hb; have n0_ := Aside0.mk (below_step (by repeat (first | (with_reducible first | exact HB.out | apply below_alloc | apply pw_below_drewN | apply below_drew1) | exact HB.out)) hb); have n1_ := Aside0.mk (hbox); have n2_ := Aside0.mk ((by rw [hg]; exact (below_size (by repeat (first | (with_reducible first | exact HB.out | apply below_alloc | apply pw_below_drewN | apply below_drew1) | exact HB.out))) : w.heap.size ≤ gb102)); have n3_ := Aside0.mk ((by rw [hg]; exact (below_size (by repeat (first | (with_reducible first | exact HB.out | apply below_alloc | apply pw_below_drewN | apply below_drew1) | exact HB.out))) : w.heap.size ≤ gb102)); clear HB; have HB := n0_; have BK102 := n1_; have GW102 := n2_; have GE102 := n3_; clear n0_ n1_ n2_ n3_; clear hb hbox hg; have hcz17_0 : w16.cell? ⟨gb102, 0, none⟩ = some (.int .i64 0) := (blk_cell BK102.out 0).trans rfl; have hcz17_1 : w16.cell? ⟨gb102, 1, none⟩ = some (.int .i64 0) := (blk_cell BK102.out 1).trans rfl; have hfz17_0 := blk_frozen BK102.out 0; have hfz17_1 := blk_frozen BK102.out 1)))
                      go_ret
                      exact ⟨by first | rfl | (simp [errW_none, errW_some] <;> rfl) | (simp [*, errW_none, errW_some] <;> rfl), by repeat (first | (with_reducible first | exact HB.out | apply below_alloc | apply pw_below_drewN | apply below_drew1 | refine below_set ?_ GE102.out) | exact HB.out)⟩
                    · rw [if_neg c15] at H
                      have c15b0 : decide (1099511627776 < ((rd_T62 l0 x10_1).f1)) = false := decide_eq_false c15
                      clear c15
                      by_cases c18 : x10_1 > 0
                      · rw [if_pos c18] at H
                        have c18b0 : decide (0 < x10_1) = true := decide_eq_true c18
                        clear c18
                        obtain ⟨ji19, hji19⟩ : ∃ j_ : Int, (wrap64 (x10_1 - 1)) = j_ := ⟨_, rfl⟩
                        replace H : (if 0 ≤ (ji19) then (if (ji19) < (l0.length : Int) then (if ((rd_T62 l0 x10_1).f0) ≤ ((rd_T62 l0 (ji19)).f0) then (some 1) else (block_Check.l0 k1 l0 l0 (l0.length : Int) (wrap64 (x10_1 + 1)))) else (none)) else (none)) = some r := by first | (rw [hji19] at H; exact H) | (simp only [hji19] at H ⊢; exact H)
                        have hji19w : (IntKind.i64.wrap (x10_1 - 1)) = ji19 := (i64_w _).trans hji19
                        by_cases c20 : 0 ≤ (ji19)
                        · rw [if_pos c20] at H
                          have c20b0 : decide (0 ≤ (ji19)) = true := decide_eq_true c20
                          clear c20
                          by_cases c21 : (ji19) < (l0.length : Int)
                          · rw [if_pos c21] at H
                            have c21b0 : decide ((ji19) < (l0.length : Int)) = true := decide_eq_true c21
                            clear c21
                            by_cases c22 : ((rd_T62 l0 x10_1).f0) ≤ ((rd_T62 l0 (ji19)).f0)
                            · rw [if_pos c22] at H
                              have c22b0 : decide (((rd_T62 l0 x10_1).f0) ≤ ((rd_T62 l0 (ji19)).f0)) = true := decide_eq_true c22
                              clear c22
                              obtain rfl := Option.some.inj H
                              have p101 : 0 ≤ (x10_1 : Int) := of_decide_eq_true (by first | (with_reducible assumption) | assumption)
                              have q101 : x10_1 < (l0.length : Int) := of_decide_eq_true (by first | (with_reducible assumption) | assumption)
                              obtain ⟨ad101, e101, hx101_0, hx101_1⟩ := at_T62 HR0.out x10_1 p101 q101
                              cases e101
                              replace hx101_0 := (HB.out.cell (World.block_lt_of_cell? w _ hx101_0)).trans hx101_0
                              replace hx101_1 := (HB.out.cell (World.block_lt_of_cell? w _ hx101_1)).trans hx101_1
                              replace p101 := eq_true p101
                              replace q101 := eq_true q101
                              go_wp2_with (first | ((with_reducible refine gate_dst (N := 4) rfl ?_); refine box_event ?hg (N := 4) ?hd (cs := #[.int .i64 0, .int .i64 0]) (t := 62) ?hr ?_; (case hd => rfl); (case hg => rfl); (case hr => first | (go_simp; done) | (go_simp; rfl)); intro gb102 hg w23 hbox hb; have n0_ := Aside0.mk (below_step (by repeat (first | (with_reducible first | exact HB.out | apply below_alloc | apply pw_below_drewN | apply below_drew1) | exact HB.out)) hb); have n1_ := Aside0.mk (hbox); have n2_ := Aside0.mk ((by rw [hg]; exact (below_size (by repeat (first | (with_reducible first | exact HB.out | apply below_alloc | apply pw_below_drewN | apply below_drew1) | exact HB.out))) : w.heap.size ≤ gb102)); have n3_ := Aside0.mk ((by rw [hg]; exact (below_size (by repeat (first | (with_reducible first | exact HB.out | apply below_alloc | apply pw_below_drewN | apply below_drew1) | exact HB.out))) : w.heap.size ≤ gb102)); clear HB; have HB := n0_; have BK102 := n1_; have GW102 := n2_; have GE102 := n3_; clear n0_ n1_ n2_ n3_; clear hb hbox hg; have hcz24_0 : w23.cell? ⟨gb102, 0, none⟩ = some (.int .i64 0) := (blk_cell BK102.out 0).trans rfl; have hcz24_1 : w23.cell? ⟨gb102, 1, none⟩ = some (.int .i64 0) := (blk_cell BK102.out 1).trans rfl; have hfz24_0 := blk_frozen BK102.out 0; have hfz24_1 := blk_frozen BK102.out 1; have p103 : 0 ≤ ((ji19) : Int) := of_decide_eq_true (by first | (with_reducible assumption) | assumption); have q103 : (ji19) < (l0.length : Int) := of_decide_eq_true (by first | (with_reducible assumption) | assumption); obtain ⟨ad103, e103, hx103_0, hx103_1⟩ := at_T62 HR0.out (ji19) p103 q103; obtain rfl : ad101 = ad103 := (by injection e103); have hn103_0 : ad101.block ≠ gb102 := Nat.ne_of_lt (Nat.lt_of_lt_of_le (by have := World.block_lt_of_cell? _ _ hx103_0; first | rwa [add_block] at this | exact this) GW102.out); have hn103_1 : ad101.block ≠ gb102 := Nat.ne_of_lt (Nat.lt_of_lt_of_le (by have := World.block_lt_of_cell? _ _ hx103_0; first | rwa [add_block] at this | exact this) GW102.out); replace hx103_0 := (HB.out.cell (World.block_lt_of_cell? w _ hx103_0)).trans hx103_0; replace hx103_1 := (HB.out.cell (World.block_lt_of_cell? w _ hx103_1)).trans hx103_1; replace hx103_0 := (cell_far (p := ⟨gb102, 0, none⟩) (by first | (rw [add_block]; exact hn103_0) | (show (Addr.add _ _).block ≠ _; rw [add_block]; exact hn103_0) | exact hn103_0) (.int .i64 ((rd_T62 l0 x10_1).f0))).trans hx103_0; replace hx103_1 := (cell_far (p := ⟨gb102, 0, none⟩) (by first | (rw [add_block]; exact hn103_0) | (show (Addr.add _ _).block ≠ _; rw [add_block]; exact hn103_0) | exact hn103_0) (.int .i64 ((rd_T62 l0 x10_1).f0))).trans hx103_1; replace hx103_0 := (cell_far (p := ⟨gb102, 1, none⟩) (by first | (rw [add_block]; exact hn103_1) | (show (Addr.add _ _).block ≠ _; rw [add_block]; exact hn103_1) | exact hn103_1) (.int .i64 ((rd_T62 l0 x10_1).f1))).trans hx103_0; replace hx103_1 := (cell_far (p := ⟨gb102, 1, none⟩) (by first | (rw [add_block]; exact hn103_1) | (show (Addr.add _ _).block ≠ _; rw [add_block]; exact hn103_1) | exact hn103_1) (.int .i64 ((rd_T62 l0 x10_1).f1))).trans hx103_1; (try have hy103_0 := fun (n_ : Nat) => (show ((((w23.drewN n_).setCell ⟨gb102, 0, none⟩ (.int .i64 ((rd_T62 l0 x10_1).f0))).setCell ⟨gb102, 1, none⟩ (.int .i64 ((rd_T62 l0 x10_1).f1)))).cell? _ = some _ from hx103_0)); (try have hy103_1 := fun (n_ : Nat) => (show ((((w23.drewN n_).setCell ⟨gb102, 0, none⟩ (.int .i64 ((rd_T62 l0 x10_1).f0))).setCell ⟨gb102, 1, none⟩ (.int .i64 ((rd_T62 l0 x10_1).f1)))).cell? _ = some _ from hx103_1)); clear hn103_0; clear hn103_1; replace p103 := eq_true p103; replace q103 := eq_true q103))
                              repeat (go_quiet (first | ((with_reducible refine gate_dst (N := 4) rfl ?_); refine box_event ?hg (N := 4) ?hd (cs := #[.int .i64 0, .int .i64 0]) (t := 62) ?hr ?_; (case hd => rfl); (case hg => rfl); (case hr => first | (go_simp; done) | (go_simp; rfl)); intro gb102 hg w23 hbox hb; have n0_ := Aside0.mk (below_step (by repeat (first | (with_reducible first | exact HB.out | apply below_alloc | apply pw_below_drewN | apply below_drew1) | exact HB.out)) hb); have n1_ := Aside0.mk (hbox); have n2_ := Aside0.mk ((by rw [hg]; exact (below_size (by repeat (first | (with_reducible first | exact HB.out | apply below_alloc | apply pw_below_drewN | apply below_drew1) | exact HB.out))) : w.heap.size ≤ gb102)); have n3_ := Aside0.mk ((by rw [hg]; exact (below_size (by repeat (first | (with_reducible first | exact HB.out | apply below_alloc | apply pw_below_drewN | apply below_drew1) | exact HB.out))) : w.heap.size ≤ gb102)); clear HB; have HB := n0_; have BK102 := n1_; have GW102 := n2_; have GE102 := n3_; clear n0_ n1_ n2_ n3_; clear hb hbox hg; have hcz24_0 : w23.cell? ⟨gb102, 0, none⟩ = some (.int .i64 0) := (blk_cell BK102.out 0).trans rfl; have hcz24_1 : w23.cell? ⟨gb102, 1, none⟩ = some (.int .i64 0) := (blk_cell BK102.out 1).trans rfl; have hfz24_0 := blk_frozen BK102.out 0; have hfz24_1 := blk_frozen BK102.out 1; have p103 : 0 ≤ ((ji19) : Int) := of_decide_eq_true (by first | (with_reducible assumption) | assumption); have q103 : (ji19) < (l0.length : Int) := of_decide_eq_true (by first | (with_reducible assumption) | assumption); obtain ⟨ad103, e103, hx103_0, hx103_1⟩ := at_T62 HR0.out (ji19) p103 q103; obtain rfl : ad101 = ad103 := (by injection e103); have hn103_0 : ad101.block ≠ gb102 := Nat.ne_of_lt (Nat.lt_of_lt_of_le (by have := World.block_lt_of_cell? _ _ hx103_0; first | rwa [add_block] at this | exact this) GW102.out); have hn103_1 : ad101.block ≠ gb102 := Nat.ne_of_lt (Nat.lt_of_lt_of_le (by have := World.block_lt_of_cell? _ _ hx103_0; first | rwa [add_block] at this | exact this) GW102.out); replace hx103_0 := (HB.out.cell (World.block_lt_of_cell? w _ hx103_0)).trans hx103_0; replace hx103_1 := (HB.out.cell (World.block_lt_of_cell? w _ hx103_1)).trans hx103_1; replace hx103_0 := (cell_far (p := ⟨gb102, 0, none⟩) (by first | (rw [add_block]; exact hn103_0) | (show (Addr.add _ _).block ≠ _; rw [add_block]; exact hn103_0) | exact hn103_0) (.int .i64 ((rd_T62 l0 x10_1).f0))).trans hx103_0; replace hx103_1 := (cell_far (p := ⟨gb102, 0, none⟩) (by first | (rw [add_block]; exact hn103_0) | (show (Addr.add _ _).block ≠ _; rw [add_block]; exact hn103_0) | exact hn103_0) (.int .i64 ((rd_T62 l0 x10_1).f0))).trans hx103_1; replace hx103_0 := (cell_far (p := ⟨gb102, 1, none⟩) (by first | (rw [add_block]; exact hn103_1) | (show (Addr.add _ _).block ≠ _; rw [add_block]; exact hn103_1) | exact hn103_1) (.int .i64 ((rd_T62 l0 x10_1).f1))).trans hx103_0; replace hx103_1 := (cell_far (p := ⟨gb102, 1, none⟩) (by first | (rw [add_block]; exact hn103_1) | (show (Addr.add _ _).block ≠ _; rw [add_block]; exact hn103_1) | exact hn103_1) (.int .i64 ((rd_T62 l0 x10_1).f1))).trans hx103_1; (try have hy103_0 := fun (n_ : Nat) => (show ((((w23.drewN n_).setCell ⟨gb102, 0, none⟩ (.int .i64 ((rd_T62 l0 x10_1).f0))).setCell ⟨gb102, 1, none⟩ (.int .i64 ((rd_T62 l0 x10_1).f1)))).cell? _ = some _ from hx103_0)); (try have hy103_1 := fun (n_ : Nat) => (show ((((w23.drewN n_).setCell ⟨gb102, 0, none⟩ (.int .i64 ((rd_T62 l0 x10_1).f0))).setCell ⟨gb102, 1, none⟩ (.int .i64 ((rd_T62 l0 x10_1).f1)))).cell? _ = some _ from hx103_1)); clear hn103_0; clear hn103_1; replace p103 := eq_true p103; replace q103 := eq_true q103)); try go_wp2_with (first | ((with_reducible refine gate_dst (N := 4) rfl ?_); refine box_event ?hg (N := 4) ?hd (cs := #[.int .i64 0, .int .i64 0]) (t := 62) ?hr ?_; (case hd => rfl); (case hg => rfl); (case hr => first | (go_simp; done) | (go_simp; rfl)); intro gb102 hg w23 hbox hb; have n0_ := Aside0.mk (below_step (by repeat (first | (with_reducible first | exact HB.out | apply below_alloc | apply pw_below_drewN | apply below_drew1) | exact HB.out)) hb); have n1_ := Aside0.mk (hbox); have n2_ := Aside0.mk ((by rw [hg]; exact (below_size (by repeat (first | (with_reducible first | exact HB.out | apply below_alloc | apply pw_below_drewN | apply below_drew1) | exact HB.out))) : w.heap.size ≤ gb102)); have n3_ := Aside0.mk ((by rw [hg]; exact (below_size (by repeat (first | (with_reducible first | exact HB.out | apply below_alloc | apply pw_below_drewN | apply below_drew1) | exact HB.out))) : w.heap.size ≤ gb102)); clear HB; have HB := n0_; have BK102 := n1_; have GW102 := n2_; have GE102 := n3_; clear n0_ n1_ n2_ n3_; clear hb hbox hg; have hcz24_0 : w23.cell? ⟨gb102, 0, none⟩ = some (.int .i64 0) := (blk_cell BK102.out 0).trans rfl; have hcz24_1 : w23.cell? ⟨gb102, 1, none⟩ = some (.int .i64 0) := (blk_cell BK102.out 1).trans rfl; have hfz24_0 := blk_frozen BK102.out 0; have hfz24_1 := blk_frozen BK102.out 1; have p103 : 0 ≤ ((ji19) : Int) := of_decide_eq_true (by first | (with_reducible assumption) | assumption); have q103 : (ji19) < (l0.length : Int) := of_decide_eq_true (by first | (with_reducible assumption) | assumption); obtain ⟨ad103, e103, hx103_0, hx103_1⟩ := at_T62 HR0.out (ji19) p103 q103; obtain rfl : ad101 = ad103 := (by injection e103); have hn103_0 : ad101.block ≠ gb102 := Nat.ne_of_lt (Nat.lt_of_lt_of_le (by have := World.block_lt_of_cell? _ _ hx103_0; first | rwa [add_block] at this | exact this) GW102.out); have hn103_1 : ad101.block ≠ gb102 := Nat.ne_of_lt (Nat.lt_of_lt_of_le (by have := World.block_lt_of_cell? _ _ hx103_0; first | rwa [add_block] at this | exact this) GW102.out); replace hx103_0 := (HB.out.cell (World.block_lt_of_cell? w _ hx103_0)).trans hx103_0; replace hx103_1 := (HB.out.cell (World.block_lt_of_cell? w _ hx103_1)).trans hx103_1; replace hx103_0 := (cell_far (p := ⟨gb102, 0, none⟩) (by first | (rw [add_block]; exact hn103_0) | (show (Addr.add _ _).block ≠ _; rw [add_block]; exact hn103_0) | exact hn103_0) (.int .i64 ((rd_T62 l0 x10_1).f0))).trans hx103_0; replace hx103_1 := (cell_far (p := ⟨gb102, 0, none⟩) (by first | (rw [add_block]; exact hn103_0) | (show (Addr.add _ _).block ≠ _; rw [add_block]; exact hn103_0) | exact hn103_0) (.int .i64 ((rd_T62 l0 x10_1).f0))).trans hx103_1; replace hx103_0 := (cell_far (p := ⟨gb102, 1, none⟩) (by first | (rw [add_block]; exact hn103_1) | (show (Addr.add _ _).block ≠ _; rw [add_block]; exact hn103_1) | exact hn103_1) (.int .i64 ((rd_T62 l0 x10_1).f1))).trans hx103_0; replace hx103_1 := (cell_far (p := ⟨gb102, 1, none⟩) (by first | (rw [add_block]; exact hn103_1) | (show (Addr.add _ _).block ≠ _; rw [add_block]; exact hn103_1) | exact hn103_1) (.int .i64 ((rd_T62 l0 x10_1).f1))).trans hx103_1; (try have hy103_0 := fun (n_ : Nat) => (show ((((w23.drewN n_).setCell ⟨gb102, 0, none⟩ (.int .i64 ((rd_T62 l0 x10_1).f0))).setCell ⟨gb102, 1, none⟩ (.int .i64 ((rd_T62 l0 x10_1).f1)))).cell? _ = some _ from hx103_0)); (try have hy103_1 := fun (n_ : Nat) => (show ((((w23.drewN n_).setCell ⟨gb102, 0, none⟩ (.int .i64 ((rd_T62 l0 x10_1).f0))).setCell ⟨gb102, 1, none⟩ (.int .i64 ((rd_T62 l0 x10_1).f1)))).cell? _ = some _ from hx103_1)); clear hn103_0; clear hn103_1; replace p103 := eq_true p103; replace q103 := eq_true q103)))
                              go_ret
                              exact ⟨by first | rfl | (simp [errW_none, errW_some] <;> rfl) | (simp only [← hji19]; first | rfl | (simp [errW_none, errW_some] <;> rfl)) | (simp [*, errW_none, errW_some] <;> rfl), by repeat (first | (with_reducible first | exact HB.out | apply below_alloc | apply pw_below_drewN | apply below_drew1 | refine below_set ?_ GE102.out) | exact HB.out)⟩
                            · rw [if_neg c22] at H
                              have c22b0 : decide (((rd_T62 l0 x10_1).f0) ≤ ((rd_T62 l0 (ji19)).f0)) = false := decide_eq_false c22
                              clear c22
                              have H' := Aside0.mk H
                              clear H
                              have p101 : 0 ≤ (x10_1 : Int) := of_decide_eq_true (by first | (with_reducible assumption) | assumption)
                              have q101 : x10_1 < (l0.length : Int) := of_decide_eq_true (by first | (with_reducible assumption) | assumption)
                              obtain ⟨ad101, e101, hx101_0, hx101_1⟩ := at_T62 HR0.out x10_1 p101 q101
                              cases e101
                              replace hx101_0 := (HB.out.cell (World.block_lt_of_cell? w _ hx101_0)).trans hx101_0
                              replace hx101_1 := (HB.out.cell (World.block_lt_of_cell? w _ hx101_1)).trans hx101_1
                              replace p101 := eq_true p101
                              replace q101 := eq_true q101
                              go_wp2_with (first | ((with_reducible refine gate_dst (N := 4) rfl ?_); refine box_event ?hg (N := 4) ?hd (cs := #[.int .i64 0, .int .i64 0]) (t := 62) ?hr ?_; (case hd => rfl); (case hg => rfl); (case hr => first | (go_simp; done) | (go_simp; rfl)); intro gb102 hg w25 hbox hb; have n0_ := Aside0.mk (below_step (by repeat (first | (with_reducible first | exact HB.out | apply below_alloc | apply pw_below_drewN | apply below_drew1) | exact HB.out)) hb); have n1_ := Aside0.mk (hbox); have n2_ := Aside0.mk ((by rw [hg]; exact (below_size (by repeat (first | (with_reducible first | exact HB.out | apply below_alloc | apply pw_below_drewN | apply below_drew1) | exact HB.out))) : w.heap.size ≤ gb102)); have n3_ := Aside0.mk ((by rw [hg]; exact (below_size (by repeat (first | (with_reducible first | exact HB.out | apply below_alloc | apply pw_below_drewN | apply below_drew1) | exact HB.out))) : w.heap.size ≤ gb102)); clear HB; have HB := n0_; have BK102 := n1_; have GW102 := n2_; have GE102 := n3_; clear n0_ n1_ n2_ n3_; clear hb hbox hg; have hcz26_0 : w25.cell? ⟨gb102, 0, none⟩ = some (.int .i64 0) := (blk_cell BK102.out 0).trans rfl; have hcz26_1 : w25.cell? ⟨gb102, 1, none⟩ = some (.int .i64 0) := (blk_cell BK102.out 1).trans rfl; have hfz26_0 := blk_frozen BK102.out 0; have hfz26_1 := blk_frozen BK102.out 1; have p103 : 0 ≤ ((ji19) : Int) := of_decide_eq_true (by first | (with_reducible assumption) | assumption); have q103 : (ji19) < (l0.length : Int) := of_decide_eq_true (by first | (with_reducible assumption) | assumption); obtain ⟨ad103, e103, hx103_0, hx103_1⟩ := at_T62 HR0.out (ji19) p103 q103; obtain rfl : ad101 = ad103 := (by injection e103); have hn103_0 : ad101.block ≠ gb102 := Nat.ne_of_lt (Nat.lt_of_lt_of_le (by have := World.block_lt_of_cell? _ _ hx103_0; first | rwa [add_block] at this | exact this) GW102.out); have hn103_1 : ad101.block ≠ gb102 := Nat.ne_of_lt (Nat.lt_of_lt_of_le (by have := World.block_lt_of_cell? _ _ hx103_0; first | rwa [add_block] at this | exact this) GW102.out); replace hx103_0 := (HB.out.cell (World.block_lt_of_cell? w _ hx103_0)).trans hx103_0; replace hx103_1 := (HB.out.cell (World.block_lt_of_cell? w _ hx103_1)).trans hx103_1; replace hx103_0 := (cell_far (p := ⟨gb102, 0, none⟩) (by first | (rw [add_block]; exact hn103_0) | (show (Addr.add _ _).block ≠ _; rw [add_block]; exact hn103_0) | exact hn103_0) (.int .i64 ((rd_T62 l0 x10_1).f0))).trans hx103_0; replace hx103_1 := (cell_far (p := ⟨gb102, 0, none⟩) (by first | (rw [add_block]; exact hn103_0) | (show (Addr.add _ _).block ≠ _; rw [add_block]; exact hn103_0) | exact hn103_0) (.int .i64 ((rd_T62 l0 x10_1).f0))).trans hx103_1; replace hx103_0 := (cell_far (p := ⟨gb102, 1, none⟩) (by first | (rw [add_block]; exact hn103_1) | (show (Addr.add _ _).block ≠ _; rw [add_block]; exact hn103_1) | exact hn103_1) (.int .i64 ((rd_T62 l0 x10_1).f1))).trans hx103_0; replace hx103_1 := (cell_far (p := ⟨gb102, 1, none⟩) (by first | (rw [add_block]; exact hn103_1) | (show (Addr.add _ _).block ≠ _; rw [add_block]; exact hn103_1) | exact hn103_1) (.int .i64 ((rd_T62 l0 x10_1).f1))).trans hx103_1; (try have hy103_0 := fun (n_ : Nat) => (show ((((w25.drewN n_).setCell ⟨gb102, 0, none⟩ (.int .i64 ((rd_T62 l0 x10_1).f0))).setCell ⟨gb102, 1, none⟩ (.int .i64 ((rd_T62 l0 x10_1).f1)))).cell? _ = some _ from hx103_0)); (try have hy103_1 := fun (n_ : Nat) => (show ((((w25.drewN n_).setCell ⟨gb102, 0, none⟩ (.int .i64 ((rd_T62 l0 x10_1).f0))).setCell ⟨gb102, 1, none⟩ (.int .i64 ((rd_T62 l0 x10_1).f1)))).cell? _ = some _ from hx103_1)); clear hn103_0; clear hn103_1; replace p103 := eq_true p103; replace q103 := eq_true q103))
                              repeat (go_quiet (first | ((with_reducible refine gate_dst (N := 4) rfl ?_); refine box_event ?hg (N := 4) ?hd (cs := #[.int .i64 0, .int .i64 0]) (t := 62) ?hr ?_; (case hd => rfl); (case hg => rfl); (case hr => first | (go_simp; done) | (go_simp; rfl)); intro gb102 hg w25 hbox hb; have n0_ := Aside0.mk (below_step (by repeat (first | (with_reducible first | exact HB.out | apply below_alloc | apply pw_below_drewN | apply below_drew1) | exact HB.out)) hb); have n1_ := Aside0.mk (hbox); have n2_ := Aside0.mk ((by rw [hg]; exact (below_size (by repeat (first | (with_reducible first | exact HB.out | apply below_alloc | apply pw_below_drewN | apply below_drew1) | exact HB.out))) : w.heap.size ≤ gb102)); have n3_ := Aside0.mk ((by rw [hg]; exact (below_size (by repeat (first | (with_reducible first | exact HB.out | apply below_alloc | apply pw_below_drewN | apply below_drew1) | exact HB.out))) : w.heap.size ≤ gb102)); clear HB; have HB := n0_; have BK102 := n1_; have GW102 := n2_; have GE102 := n3_; clear n0_ n1_ n2_ n3_; clear hb hbox hg; have hcz26_0 : w25.cell? ⟨gb102, 0, none⟩ = some (.int .i64 0) := (blk_cell BK102.out 0).trans rfl; have hcz26_1 : w25.cell? ⟨gb102, 1, none⟩ = some (.int .i64 0) := (blk_cell BK102.out 1).trans rfl; have hfz26_0 := blk_frozen BK102.out 0; have hfz26_1 := blk_frozen BK102.out 1; have p103 : 0 ≤ ((ji19) : Int) := of_decide_eq_true (by first | (with_reducible assumption) | assumption); have q103 : (ji19) < (l0.length : Int) := of_decide_eq_true (by first | (with_reducible assumption) | assumption); obtain ⟨ad103, e103, hx103_0, hx103_1⟩ := at_T62 HR0.out (ji19) p103 q103; obtain rfl : ad101 = ad103 := (by injection e103); have hn103_0 : ad101.block ≠ gb102 := Nat.ne_of_lt (Nat.lt_of_lt_of_le (by have := World.block_lt_of_cell? _ _ hx103_0; first | rwa [add_block] at this | exact this) GW102.out); have hn103_1 : ad101.block ≠ gb102 := Nat.ne_of_lt (Nat.lt_of_lt_of_le (by have := World.block_lt_of_cell? _ _ hx103_0; first | rwa [add_block] at this | exact this) GW102.out); replace hx103_0 := (HB.out.cell (World.block_lt_of_cell? w _ hx103_0)).trans hx103_0; replace hx103_1 := (HB.out.cell (World.block_lt_of_cell? w _ hx103_1)).trans hx103_1; replace hx103_0 := (cell_far (p := ⟨gb102, 0, none⟩) (by first | (rw [add_block]; exact hn103_0) | (show (Addr.add _ _).block ≠ _; rw [add_block]; exact hn103_0) | exact hn103_0) (.int .i64 ((rd_T62 l0 x10_1).f0))).trans hx103_0; replace hx103_1 := (cell_far (p := ⟨gb102, 0, none⟩) (by first | (rw [add_block]; exact hn103_0) | (show (Addr.add _ _).block ≠ _; rw [add_block]; exact hn103_0) | exact hn103_0) (.int .i64 ((rd_T62 l0 x10_1).f0))).trans hx103_1; replace hx103_0 := (cell_far (p := ⟨gb102, 1, none⟩) (by first | (rw [add_block]; exact hn103_1) | (show (Addr.add _ _).block ≠ _; rw [add_block]; exact hn103_1) | exact hn103_1) (.int .i64 ((rd_T62 l0 x10_1).f1))).trans hx103_0; replace hx103_1 := (cell_far (p := ⟨gb102, 1, none⟩) (by first | (rw [add_block]; exact hn103_1) | (show (Addr.add _ _).block ≠ _; rw [add_block]; exact hn103_1) | exact hn103_1) (.int .i64 ((rd_T62 l0 x10_1).f1))).trans hx103_1; (try have hy103_0 := fun (n_ : Nat) => (show ((((w25.drewN n_).setCell ⟨gb102, 0, none⟩ (.int .i64 ((rd_T62 l0 x10_1).f0))).setCell ⟨gb102, 1, none⟩ (.int .i64 ((rd_T62 l0 x10_1).f1)))).cell? _ = some _ from hx103_0)); (try have hy103_1 := fun (n_ : Nat) => (show ((((w25.drewN n_).setCell ⟨gb102, 0, none⟩ (.int .i64 ((rd_T62 l0 x10_1).f0))).setCell ⟨gb102, 1, none⟩ (.int .i64 ((rd_T62 l0 x10_1).f1)))).cell? _ = some _ from hx103_1)); clear hn103_0; clear hn103_1; replace p103 := eq_true p103; replace q103 := eq_true q103)); try go_wp2_with (first | ((with_reducible refine gate_dst (N := 4) rfl ?_); refine box_event ?hg (N := 4) ?hd (cs := #[.int .i64 0, .int .i64 0]) (t := 62) ?hr ?_; (case hd => rfl); (case hg => rfl); (case hr => first | (go_simp; done) | (go_simp; rfl)); intro gb102 hg w25 hbox hb; have n0_ := Aside0.mk (below_step (by repeat (first | (with_reducible first | exact HB.out | apply below_alloc | apply pw_below_drewN | apply below_drew1) | exact HB.out)) hb); have n1_ := Aside0.mk (hbox); have n2_ := Aside0.mk ((by rw [hg]; exact (below_size (by repeat (first | (with_reducible first | exact HB.out | apply below_alloc | apply pw_below_drewN | apply below_drew1) | exact HB.out))) : w.heap.size ≤ gb102)); have n3_ := Aside0.mk ((by rw [hg]; exact (below_size (by repeat (first | (with_reducible first | exact HB.out | apply below_alloc | apply pw_below_drewN | apply below_drew1) | exact HB.out))) : w.heap.size ≤ gb102)); clear HB; have HB := n0_; have BK102 := n1_; have GW102 := n2_; have GE102 := n3_; clear n0_ n1_ n2_ n3_; clear hb hbox hg; have hcz26_0 : w25.cell? ⟨gb102, 0, none⟩ = some (.int .i64 0) := (blk_cell BK102.out 0).trans rfl; have hcz26_1 : w25.cell? ⟨gb102, 1, none⟩ = some (.int .i64 0) := (blk_cell BK102.out 1).trans rfl; have hfz26_0 := blk_frozen BK102.out 0; have hfz26_1 := blk_frozen BK102.out 1; have p103 : 0 ≤ ((ji19) : Int) := of_decide_eq_true (by first | (with_reducible assumption) | assumption); have q103 : (ji19) < (l0.length : Int) := of_decide_eq_true (by first | (with_reducible assumption) | assumption); obtain ⟨ad103, e103, hx103_0, hx103_1⟩ := at_T62 HR0.out (ji19) p103 q103; obtain rfl : ad101 = ad103 := (by injection e103); have hn103_0 : ad101.block ≠ gb102 := Nat.ne_of_lt (Nat.lt_of_lt_of_le (by have := World.block_lt_of_cell? _ _ hx103_0; first | rwa [add_block] at this | exact this) GW102.out); have hn103_1 : ad101.block ≠ gb102 := Nat.ne_of_lt (Nat.lt_of_lt_of_le (by have := World.block_lt_of_cell? _ _ hx103_0; first | rwa [add_block] at this | exact this) GW102.out); replace hx103_0 := (HB.out.cell (World.block_lt_of_cell? w _ hx103_0)).trans hx103_0; replace hx103_1 := (HB.out.cell (World.block_lt_of_cell? w _ hx103_1)).trans hx103_1; replace hx103_0 := (cell_far (p := ⟨gb102, 0, none⟩) (by first | (rw [add_block]; exact hn103_0) | (show (Addr.add _ _).block ≠ _; rw [add_block]; exact hn103_0) | exact hn103_0) (.int .i64 ((rd_T62 l0 x10_1).f0))).trans hx103_0; replace hx103_1 := (cell_far (p := ⟨gb102, 0, none⟩) (by first | (rw [add_block]; exact hn103_0) | (show (Addr.add _ _).block ≠ _; rw [add_block]; exact hn103_0) | exact hn103_0) (.int .i64 ((rd_T62 l0 x10_1).f0))).trans hx103_1; replace hx103_0 := (cell_far (p := ⟨gb102, 1, none⟩) (by first | (rw [add_block]; exact hn103_1) | (show (Addr.add _ _).block ≠ _; rw [add_block]; exact hn103_1) | exact hn103_1) (.int .i64 ((rd_T62 l0 x10_1).f1))).trans hx103_0; replace hx103_1 := (cell_far (p := ⟨gb102, 1, none⟩) (by first | (rw [add_block]; exact hn103_1) | (show (Addr.add _ _).block ≠ _; rw [add_block]; exact hn103_1) | exact hn103_1) (.int .i64 ((rd_T62 l0 x10_1).f1))).trans hx103_1; (try have hy103_0 := fun (n_ : Nat) => (show ((((w25.drewN n_).setCell ⟨gb102, 0, none⟩ (.int .i64 ((rd_T62 l0 x10_1).f0))).setCell ⟨gb102, 1, none⟩ (.int .i64 ((rd_T62 l0 x10_1).f1)))).cell? _ = some _ from hx103_0)); (try have hy103_1 := fun (n_ : Nat) => (show ((((w25.drewN n_).setCell ⟨gb102, 0, none⟩ (.int .i64 ((rd_T62 l0 x10_1).f0))).setCell ⟨gb102, 1, none⟩ (.int .i64 ((rd_T62 l0 x10_1).f1)))).cell? _ = some _ from hx103_1)); clear hn103_0; clear hn103_1; replace p103 := eq_true p103; replace q103 := eq_true q103)))
                              go_roundg k1
                              case measure => have := HK1.out; omega
                              case rel => exact ⟨(wrap64 (x10_1 + 1)), (by first | rfl | (simp; done) | (simp [*]; done)), H', ⟨by have := HK1.out; omega⟩, ⟨by repeat (first | (with_reducible first | exact HB.out | apply below_alloc | apply pw_below_drewN | apply below_drew1 | refine below_set ?_ GE102.out) | exact HB.out)⟩⟩
                          · rw [if_neg c21] at H
                            exact absurd H (by simp)
                        · rw [if_neg c20] at H
                          exact absurd H (by simp)
                      · rw [if_neg c18] at H
                        have c18b0 : decide (0 < x10_1) = false := decide_eq_false c18
                        clear c18
                        have H' := Aside0.mk H
                        clear H
                        have p101 : 0 ≤ (x10_1 : Int) := of_decide_eq_true (by first | (with_reducible assumption) | assumption)
                        have q101 : x10_1 < (l0.length : Int) := of_decide_eq_true (by first | (with_reducible assumption) | assumption)
                        obtain ⟨ad101, e101, hx101_0, hx101_1⟩ := at_T62 HR0.out x10_1 p101 q101
                        cases e101
                        replace hx101_0 := (HB.out.cell (World.block_lt_of_cell? w _ hx101_0)).trans hx101_0
                        replace hx101_1 := (HB.out.cell (World.block_lt_of_cell? w _ hx101_1)).trans hx101_1
                        replace p101 := eq_true p101
                        replace q101 := eq_true q101
                        go_wp2_with (first | ((with_reducible refine gate_dst (N := 4) rfl ?_); refine box_event ?hg (N := 4) ?hd (cs := #[.int .i64 0, .int .i64 0]) (t := 62) ?hr ?_; (case hd => rfl); (case hg => rfl); (case hr => first | (go_simp; done) | (go_simp; rfl)); intro gb102 hg w27 hbox hb; have n0_ := Aside0.mk (below_step (by repeat (first | (with_reducible first | exact HB.out | apply below_alloc | apply pw_below_drewN | apply below_drew1) | exact HB.out)) hb); have n1_ := Aside0.mk (hbox); have n2_ := Aside0.mk ((by rw [hg]; exact (below_size (by repeat (first | (with_reducible first | exact HB.out | apply below_alloc | apply pw_below_drewN | apply below_drew1) | exact HB.out))) : w.heap.size ≤ gb102)); have n3_ := Aside0.mk ((by rw [hg]; exact (below_size (by repeat (first | (with_reducible first | exact HB.out | apply below_alloc | apply pw_below_drewN | apply below_drew1) | exact HB.out))) : w.heap.size ≤ gb102)); clear HB; have HB := n0_; have BK102 := n1_; have GW102 := n2_; have GE102 := n3_; clear n0_ n1_ n2_ n3_; clear hb hbox hg; have hcz28_0 : w27.cell? ⟨gb102, 0, none⟩ = some (.int .i64 0) := (blk_cell BK102.out 0).trans rfl; have hcz28_1 : w27.cell? ⟨gb102, 1, none⟩ = some (.int .i64 0) := (blk_cell BK102.out 1).trans rfl; have hfz28_0 := blk_frozen BK102.out 0; have hfz28_1 := blk_frozen BK102.out 1))
                        repeat (go_quiet (first | ((with_reducible refine gate_dst (N := 4) rfl ?_); refine box_event ?hg (N := 4) ?hd (cs := #[.int .i64 0, .int .i64 0]) (t := 62) ?hr ?_; (case hd => rfl); (case hg => rfl); (case hr => first | (go_simp; done) | (go_simp; rfl)); intro gb102 hg w27 hbox hb; have n0_ := Aside0.mk (below_step (by repeat (first | (with_reducible first | exact HB.out | apply below_alloc | apply pw_below_drewN | apply below_drew1) | exact HB.out)) hb); have n1_ := Aside0.mk (hbox); have n2_ := Aside0.mk ((by rw [hg]; exact (below_size (by repeat (first | (with_reducible first | exact HB.out | apply below_alloc | apply pw_below_drewN | apply below_drew1) | exact HB.out))) : w.heap.size ≤ gb102)); have n3_ := Aside0.mk ((by rw [hg]; exact (below_size (by repeat (first | (with_reducible first | exact HB.out | apply below_alloc | apply pw_below_drewN | apply below_drew1) | exact HB.out))) : w.heap.size ≤ gb102)); clear HB; have HB := n0_; have BK102 := n1_; have GW102 := n2_; have GE102 := n3_; clear n0_ n1_ n2_ n3_; clear hb hbox hg; have hcz28_0 : w27.cell? ⟨gb102, 0, none⟩ = some (.int .i64 0) := (blk_cell BK102.out 0).trans rfl; have hcz28_1 : w27.cell? ⟨gb102, 1, none⟩ = some (.int .i64 0) := (blk_cell BK102.out 1).trans rfl; have hfz28_0 := blk_frozen BK102.out 0; have hfz28_1 := blk_frozen BK102.out 1)); try go_wp2_with (first | ((with_reducible refine gate_dst (N := 4) rfl ?_); refine box_event ?hg (N := 4) ?hd (cs := #[.int .i64 0, .int .i64 0]) (t := 62) ?hr ?_; (case hd => rfl); (case hg => rfl); (case hr => first | (go_simp; done) | (go_simp; rfl)); intro gb102 hg w27 hbox hb; have n0_ := Aside0.mk (below_step (by repeat (first | (with_reducible first | exact HB.out | apply below_alloc | apply pw_below_drewN | apply below_drew1) | exact HB.out)) hb); have n1_ := Aside0.mk (hbox); have n2_ := Aside0.mk ((by rw [hg]; exact (below_size (by repeat (first | (with_reducible first | exact HB.out | apply below_alloc | apply pw_below_drewN | apply below_drew1) | exact HB.out))) : w.heap.size ≤ gb102)); have n3_ := Aside0.mk ((by rw [hg]; exact (below_size (by repeat (first | (with_reducible first | exact HB.out | apply below_alloc | apply pw_below_drewN | apply below_drew1) | exact HB.out))) : w.heap.size ≤ gb102)); clear HB; have HB := n0_; have BK102 := n1_; have GW102 := n2_; have GE102 := n3_; clear n0_ n1_ n2_ n3_; clear hb hbox hg; have hcz28_0 : w27.cell? ⟨gb102, 0, none⟩ = some (.int .i64 0) := (blk_cell BK102.out 0).trans rfl; have hcz28_1 : w27.cell? ⟨gb102, 1, none⟩ = some (.int .i64 0) := (blk_cell BK102.out 1).trans rfl; have hfz28_0 := blk_frozen BK102.out 0; have hfz28_1 := blk_frozen BK102.out 1)))
                        go_roundg k1
                        case measure => have := HK1.out; omega
                        case rel => exact ⟨(wrap64 (x10_1 + 1)), (by first | rfl | (simp; done) | (simp [*]; done)), H', ⟨by have := HK1.out; omega⟩, ⟨by repeat (first | (with_reducible first | exact HB.out | apply below_alloc | apply pw_below_drewN | apply below_drew1 | refine below_set ?_ GE102.out) | exact HB.out)⟩⟩
            · rw [if_neg c5] at H
              exact absurd H (by simp)
          · rw [if_neg c4] at H
            exact absurd H (by simp)
        · rw [if_neg c3] at H
          have c3b0 : decide (x10_1 < (l0.length : Int)) = false := decide_eq_false c3
          clear c3
          obtain rfl := Option.some.inj H
          go_wp2
          repeat (go_quiet (fail); try go_wp2)
          go_ret
          exact ⟨by first | rfl | (simp [errW_none, errW_some] <;> rfl) | (simp [*, errW_none, errW_some] <;> rfl), by repeat (first | (with_reducible first | exact HB.out | apply below_alloc | apply pw_below_drewN | apply below_drew1) | exact HB.out)⟩

/-! ### api_Sample_81: function 81 -/
def api_Sample_81.f (l0 : List (S62)) : Option (List (S62)) := if l0.length < 8796093022208 then some l0 else none
set_option maxHeartbeats 1000000 in
set_option maxRecDepth 100000 in
theorem api_Sample_81.calls (A0 : Option Addr) (c0 : Nat) (l0 : List (S62)) (r : List (S62)) (w : World) (hr0 : Kd.C k62 w A0 l0.length l0) (hc0 : l0.length ≤ c0) (h : api_Sample_81.f l0 = some r) :
    Calls Try.prog 81 #[.slice A0 l0.length c0] w fun e w' => ∃ v0_ : Value, e = .returned (v0_) ∧ Kd.R k62 62 w' w.heap.size (fun _ => True) v0_ r ∧ Below w.heap.size w w' := by
  unfold api_Sample_81.f at h
  split at h
  rotate_left
  · cases h
  rename_i hl
  cases h
  have HL := Aside0.mk hl
  have HR := Aside0.mk hr0
  clear hl hr0
  cases A0 with
  | none =>
    obtain rfl := Hand.C_none HR.out
    have q1 := fun W => Hand.eql_nil_nil Try.underlying60 0 c0 W
    go_enter Try.func81, Try.ntmps81
    go_wp2
    go_ret
    exact ⟨_, rfl, Kd.R_nil _ _ _ _ _, Below.refl _ _⟩
  | some a0 =>
    have q1 := fun W => Hand.eql_nil Try.underlying60 a0 l0.length c0 W
    go_enter Try.func81, Try.ntmps81
    go_wp2_with (first
      | ((with_reducible refine gate_dst (N := 5) rfl ?_); refine Kd.R_lit k62 _ 62 ?hg (N := 5) ?hd (xs := ([] : List (S62))) (inner := []) (ok := fun _ => True) (okp := fun _ => True) ?hr ?hp (fun _ hk => hk) trivial (Below.refl _ _) (Nat.le_refl _) (by simp) ?_; (case hd => rfl); (case hg => rfl); (case hr => first | (go_simp; done) | (go_simp; rfl)); (case hp => exact (Reps.none _ _)); intro v5 w5 HO5 HB5 hg_ hnew_; clear hg_ hnew_; simp only [Act.put, List.setIfInBounds_toArray, List.set_cons_zero, List.set_cons_succ])
      | ((with_reducible refine gate_builtin (b := .append) (xs := #[.tmp 5, .tmp 6]) rfl ?_); at_builtin; refine Kd.R_append_rows k62 (w0 := w) w.heap.size rfl (.tmp 5) (.tmp 6) 60 62 (.agg #[(.int .i64 0), (.int .i64 0)]) 16 rfl Try.underlying60 info62 rfl (by decide) (by decide) v5 [] l0 (some a0) l0.length c0 (fun _ => True) (fun k => some k ≠ v5.ownBlock) rfl rfl HO5 (Kd.C_below HR.out HB5) (fun x cs h => ?hM) (fun k hk => ⟨trivial, hk⟩) (fun _ _ => trivial) HB5 HB5.size (by have := HL.out; simp only [List.length_nil]; omega) ?_; (case hM => (obtain rfl := k62_open h; exact k62_mkM _ _ _ x)); intro v6 w6 HO6 HB6 hg6 hat6; clear hg6 hat6; have HO6' := Aside0.mk HO6; clear HO6; have HB6' := Aside0.mk HB6; clear HB6))
    go_ret
    exact ⟨_, rfl, HO6'.out, HB6'.out⟩

/-! ### cmp_isNaN_int: function 123 -/
def cmp_isNaN_int.f (a0 : Int) : Option Bool := some false
theorem cmp_isNaN_int.calls (a0 : Int) (r : Bool) (w : World) (h : cmp_isNaN_int.f a0 = some r) :
    Calls Try.prog 123 #[.int .i64 a0] w fun e w' => e = .returned (.bool r) ∧ Drawn0 w w' := by
  cases h
  go_enter Try.func123, Try.ntmps123
  go_wp2
  go_ret
  exact ⟨by simp, Drawn0.refl _⟩

/-! ### cmp_Compare_int: function 100 -/
def cmp_Compare_int.f (a0 : Int) (a1 : Int) : Option Int := some (Hand.cmpI a0 a1)
theorem cmp_Compare_int.f_eq (a0 a1 : Int) : cmp_Compare_int.f a0 a1 = some (Hand.cmpI a0 a1) := rfl
theorem cmp_Compare_int.calls (a0 : Int) (a1 : Int) (r : Int) (w : World) (h : cmp_Compare_int.f a0 a1 = some r) :
    Calls Try.prog 100 #[.int .i64 a0, .int .i64 a1] w fun e w' => e = .returned (.int .i64 r) ∧ Drawn0 w w' := by
  unfold cmp_Compare_int.f Hand.cmpI at h
  simp only [Option.some.injEq] at h
  by_cases h1 : a0 < a1
  · rw [if_pos h1] at h
    subst h
    go_enter Try.func100, Try.ntmps100
    go_wp2_with (go_at_call 123; refine (cmp_isNaN_int.calls _ false _ rfl).mono ?_; rintro e w' ⟨rfl, ⟨nd, rfl⟩⟩)
    go_ret
    exact ⟨by simp, by repeat (first | exact Drawn0.refl _ | apply Drawn0.step)⟩
  · rw [if_neg h1] at h
    by_cases h2 : a0 > a1
    · rw [if_pos h2] at h
      subst h
      go_enter Try.func100, Try.ntmps100
      go_wp2_with (go_at_call 123; refine (cmp_isNaN_int.calls _ false _ rfl).mono ?_; rintro e w' ⟨rfl, ⟨nd, rfl⟩⟩)
      go_ret
      exact ⟨by simp, by repeat (first | exact Drawn0.refl _ | apply Drawn0.step)⟩
    · rw [if_neg h2] at h
      subst h
      go_enter Try.func100, Try.ntmps100
      go_wp2_with (go_at_call 123; refine (cmp_isNaN_int.calls _ false _ rfl).mono ?_; rintro e w' ⟨rfl, ⟨nd, rfl⟩⟩)
      go_ret
      exact ⟨by simp, by repeat (first | exact Drawn0.refl _ | apply Drawn0.step)⟩

/-! ### api_Sample_int: function 111 -/
/-- Where the search ends. -/
def api_Sample_int.place (cmp : S62 → Int) (l0 : List (S62)) : Nat := Hand.bsl (fun i => decide (cmp (rd_T62 l0 (i : Int)) < 0)) l0.length 0 l0.length
theorem api_Sample_int.place_le (cmp : S62 → Int) (l0 : List (S62)) : api_Sample_int.place cmp l0 ≤ l0.length := (Hand.bsl_le _ _ _ _ (Nat.zero_le _)).1
def api_Sample_int.found (cmp : S62 → Int) (l0 : List (S62)) : Bool := decide (api_Sample_int.place cmp l0 < l0.length) && (cmp (rd_T62 l0 (api_Sample_int.place cmp l0 : Int)) == 0)
set_option maxHeartbeats 2000000 in
set_option maxRecDepth 100000 in
theorem api_Sample_int.walk (g : Nat) (eg : Go.Proofs.Enters Try.prog g) (A0 : Option Addr) (c0 : Nat) (l0 : List (S62)) (t : Int) (cmp : S62 → Int) (w : World) (hr0 : Kd.C k62 w A0 l0.length l0) (hc0 : l0.length ≤ c0) (hlen : l0.length ≤ 1000000000)
    (hcmp : ∀ (W : World) (x : S62) (cs : List Value), Below w.heap.size w W → (k62).K W x cs → Calls Try.prog g #[.agg cs.toArray, .int .i64 t] W fun e w' => e = .returned (.int .i64 (cmp x)) ∧ Below w.heap.size w w') :
    Calls Try.prog 111 #[.slice A0 l0.length c0, .int .i64 t, .func (.func g) #[] #[]] w fun e w' =>
      e = .returned (.tuple #[.int .i64 (api_Sample_int.place cmp l0 : Int), .bool (api_Sample_int.found cmp l0)]) ∧ Below w.heap.size w w' := by
  obtain ⟨R, hR⟩ : ∃ R, R = api_Sample_int.place cmp l0 := ⟨_, rfl⟩
  have hRl : R ≤ l0.length := by rw [hR]; exact api_Sample_int.place_le _ _
  obtain ⟨F, hF⟩ : ∃ F, F = api_Sample_int.found cmp l0 := ⟨_, rfl⟩
  rw [← hR, ← hF]
  have HF := Lib.hid (show F = (decide (R < l0.length) && (cmp (rd_T62 l0 (R : Int)) == 0)) by rw [hF, hR]; rfl)
  have HRR := Lib.hid (show R = Hand.bsl (fun i => decide (cmp (rd_T62 l0 (i : Int)) < 0)) l0.length 0 l0.length from hR)
  have HR0 := Aside0.mk hr0
  have HC := Lib.hid hcmp
  clear hR hr0 hcmp hF
  have eg2 : ∀ args w, (callFunc g args).run Try.prog w = .ok (.enter g args) w := eg
  clear eg
  go_enter Try.func111, Try.ntmps111
  go_wp2
  go_loopw [9, 10] (fun i j wr => ∃ (a b : Int) (d : Nat), i = .int .i64 a ∧ j = .int .i64 b ∧ 0 ≤ a ∧ a ≤ b ∧ b ≤ l0.length ∧ b ≤ a + d ∧ Hid (Hand.bsl (fun i => decide (cmp (rd_T62 l0 (i : Int)) < 0)) d a.toNat b.toNat = R) ∧ Aside0 (Below w.heap.size w wr)) (fun i j _ => (intOf j - intOf i).toNat)
  case atStart => exact ⟨0, l0.length, l0.length, rfl, rfl, by omega, by omega, by omega, by omega, Lib.hid HRR.out.symm, ⟨Below.refl _ _⟩⟩
  case round =>
    obtain ⟨a, b, d, rfl, rfl, ha, h0, h1, h2, HB, hb⟩ := hrel
    by_cases hlt : a < b
    · obtain ⟨d, rfl⟩ : ∃ m, d = m + 1 := ⟨d - 1, by omega⟩
      have hm0 : (0 : Int) ≤ (a + b) / 2 := by omega
      have hm1 : (a + b) / 2 < (l0.length : Int) := by omega
      have hm2 : (a + b) / 2 < b := by omega
      have hm3 : a ≤ (a + b) / 2 := by omega
      have HS := Lib.hid (Hand.bsl_int HB.out ha hlt)
      have en := Lib.hid (Int.toNat_of_nonneg hm0)
      clear HB
      obtain ⟨adq, eq, hxq_0, hxq_1⟩ := at_T62 (Kd.C_below HR0.out hb.out) ((a + b) / 2) hm0 hm1
      cases eq
      have hcall := HC.out wr (rd_T62 l0 ((a + b) / 2)) [.int .i64 (((rd_T62 l0 ((a + b) / 2))).f0), .int .i64 (((rd_T62 l0 ((a + b) / 2))).f1)] hb.out (k62_mk wr ((rd_T62 l0 ((a + b) / 2))))
      cases hd : decide (cmp (rd_T62 l0 ((a + b) / 2)) < 0) with
      | true =>
        have HS2 := Lib.hid (show Hand.bsl (fun i => decide (cmp (rd_T62 l0 (i : Int)) < 0)) d ((a + b) / 2 + 1).toNat b.toNat = R from HS.out.1 (by simp only [en.out]; exact hd))
        clear HS
        go_wp2_with (go_at_fn g; refine hcall.mono ?_; rintro e w' ⟨rfl, hb2⟩)
        clear hcall
        go_roundw
        case rel => exact ⟨(a + b) / 2 + 1, b, d, rfl, rfl, by omega, by omega, h1, by omega, HS2, ⟨hb2⟩⟩
        case measure => clear hd; simp [intOf]; omega
      | false =>
        have HS2 := Lib.hid (show Hand.bsl (fun i => decide (cmp (rd_T62 l0 (i : Int)) < 0)) d a.toNat ((a + b) / 2).toNat = R from HS.out.2 (by simp only [en.out]; exact hd))
        clear HS
        go_wp2_with (go_at_fn g; refine hcall.mono ?_; rintro e w' ⟨rfl, hb2⟩)
        clear hcall
        go_roundw
        case rel => exact ⟨a, (a + b) / 2, d, rfl, rfl, ha, by omega, by omega, by omega, HS2, ⟨hb2⟩⟩
        case measure => clear hd; simp [intOf]; omega
    · obtain rfl : b = a := by omega
      have HE0 := Lib.hid (show b = (R : Int) by have := HB.out; rw [Hand.bsl_end _ _ _ _ (Nat.lt_irrefl _)] at this; omega)
      clear HB HRR
      by_cases hin : b < l0.length
      · obtain ⟨adq, eq, hxq_0, hxq_1⟩ := at_T62 (Kd.C_below HR0.out hb.out) b ha hin
        cases eq
        have hcall := HC.out wr (rd_T62 l0 b) [.int .i64 (((rd_T62 l0 b)).f0), .int .i64 (((rd_T62 l0 b)).f1)] hb.out (k62_mk wr ((rd_T62 l0 b)))
        have HE := Lib.hid (show F = (cmp (rd_T62 l0 b) == 0) by have := HF.out; rw [← HE0.out, decide_eq_true (by have := HE0.out; omega), Bool.true_and] at this; exact this)
        clear HF
        go_wp2_with (go_at_fn g; refine hcall.mono ?_; rintro e w' ⟨rfl, hb2⟩)
        go_ret2
        exact ⟨by rw [HE.out, ← HE0.out]; simp, hb2⟩
      · have HE := Lib.hid (show F = false by have := HF.out; rw [decide_eq_false (by have := HE0.out; omega), Bool.false_and] at this; exact this)
        clear HF
        go_wp2
        go_ret2
        exact ⟨by rw [HE.out, ← HE0.out]; simp, hb.out⟩

/-! ### samples_at_1: function 112 -/
def samples_at_1.f (a0_0 : Int) (a0_1 : Int) (a1 : Int) : Option (Int) := (cmp_Compare_int.f a0_0 a1).bind fun t105 => (some t105)
set_option maxHeartbeats 8000000 in
set_option maxRecDepth 100000 in
theorem samples_at_1.calls (a0_0 : Int) (a0_1 : Int) (a1 : Int) (r : Int) (w : World) (h : samples_at_1.f a0_0 a0_1 a1 = some r) :
    Calls Try.prog 112 #[.agg #[.int .i64 a0_0, .int .i64 a0_1], .int .i64 a1] w fun e w' => e = .returned (.int .i64 r) ∧ Below w.heap.size w w' := by
  have hu62 := Try.underlying62
  have HB := Aside0.mk (Below.refl w.heap.size w)
  have H : ((cmp_Compare_int.f a0_0 a1).bind fun t105 => (some t105)) = some r := h
  clear h
  replace H := Option.bind_eq_some_iff.mp H
  obtain ⟨t105, A30, H⟩ := H
  replace H : (some t105) = some r := H
  have A3 := Aside0.mk A30
  clear A30
  obtain rfl := Option.some.inj H
  go_enter Try.func112, Try.ntmps112
  go_wp2_with (first | ((with_reducible refine gate_dst (N := 2) rfl ?_); refine box_event ?hg (N := 2) ?hd (cs := #[.int .i64 a0_0, .int .i64 a0_1]) (t := 62) ?hr ?_; (case hd => rfl); (case hg => rfl); (case hr => first | (go_simp; done) | (go_simp; rfl)); intro gb104 hg w4 hbox hb; have n0_ := Aside0.mk (below_step (by repeat (first | (with_reducible first | exact HB.out | apply below_alloc | apply pw_below_drewN | apply below_drew1) | exact HB.out)) hb); have n1_ := Aside0.mk (hbox); have n2_ := Aside0.mk ((by rw [hg]; exact (below_size (by repeat (first | (with_reducible first | exact HB.out | apply below_alloc | apply pw_below_drewN | apply below_drew1) | exact HB.out))) : w.heap.size ≤ gb104)); have n3_ := Aside0.mk ((by rw [hg]; exact (below_size (by repeat (first | (with_reducible first | exact HB.out | apply below_alloc | apply pw_below_drewN | apply below_drew1) | exact HB.out))) : w.heap.size ≤ gb104)); clear HB; have HB := n0_; have BK104 := n1_; have GW104 := n2_; have GE104 := n3_; clear n0_ n1_ n2_ n3_; clear hb hbox hg; have hcz5_0 : w4.cell? ⟨gb104, 0, none⟩ = some (.int .i64 a0_0) := (blk_cell BK104.out 0).trans rfl; have hcz5_1 : w4.cell? ⟨gb104, 1, none⟩ = some (.int .i64 a0_1) := (blk_cell BK104.out 1).trans rfl; have hfz5_0 := blk_frozen BK104.out 0; have hfz5_1 := blk_frozen BK104.out 1) | ((with_reducible refine gate_callee (f := 100) rfl ?_); refine goesL_ (some 8) rfl rfl Try.func100 (by kernel_rfl) rfl #[.int .i64 a0_0, .int .i64 a1] rfl (by (try simp only [List.map_toArray, List.map_cons, List.map_nil]); first | done | rfl | (simp only [List.length_drop, List.length_take]; rfl)) ?_; (with_reducible refine (cmp_Compare_int.calls a0_0 a1 t105 _ A3.out).mono ?_); rintro e w' ⟨rfl, ⟨nd, rfl⟩⟩; refine ⟨_, rfl, ?_⟩))
  go_ret
  exact ⟨by first | rfl | (simp [errW_none, errW_some] <;> rfl) | (simp [*, errW_none, errW_some] <;> rfl), by repeat (first | (with_reducible first | exact HB.out | apply below_alloc | apply pw_below_drewN | apply below_drew1 | refine below_set ?_ GE104.out) | exact HB.out)⟩

/-! ### samples_at: function 82 -/
def samples_at.f (l0 : List (S62)) (a1 : Int) : Option (Int × Bool) :=
  if l0.length ≤ 1000000000 then some ((api_Sample_int.place (fun x => Hand.cmpI x.f0 a1) l0 : Int), api_Sample_int.found (fun x => Hand.cmpI x.f0 a1) l0) else none
set_option maxHeartbeats 1000000 in
set_option maxRecDepth 100000 in
theorem samples_at.calls (A0 : Option Addr) (c0 : Nat) (l0 : List (S62)) (a1 : Int) (r1 : Int) (r2 : Bool) (w : World) (hr0 : Kd.C k62 w A0 l0.length l0) (hc0 : l0.length ≤ c0) (h : samples_at.f l0 a1 = some (r1, r2)) :
    Calls Try.prog 82 #[.slice A0 l0.length c0, .int .i64 a1] w fun e w' => e = .returned (.tuple #[.int .i64 r1, .bool r2]) ∧ Below w.heap.size w w' := by
  unfold samples_at.f at h
  split at h
  rotate_left
  · cases h
  rename_i hl
  simp only [Option.some.injEq, Prod.mk.injEq] at h
  obtain ⟨rfl, rfl⟩ := h
  have hcmp : ∀ (W : World) (x : S62) (cs : List Value), Below w.heap.size w W → (k62).K W x cs → Calls Try.prog 112 #[.agg cs.toArray, .int .i64 a1] W fun e w' => e = .returned (.int .i64 (Hand.cmpI x.f0 a1)) ∧ Below w.heap.size w w' := by
    intro W x cs hb hK
    obtain rfl := k62_open hK
    refine (samples_at_1.calls x.f0 x.f1 a1 (Hand.cmpI x.f0 a1) W ?_).mono ?_
    · unfold samples_at_1.f
      rw [cmp_Compare_int.f_eq]
      rfl
    · rintro e w' ⟨rfl, hb2⟩
      exact ⟨rfl, hb.trans (hb2.mono hb.size)⟩
  have HC := Lib.hid (api_Sample_int.walk 112 (Go.Proofs.enters_of Try.func112 (by kernel_rfl) rfl) A0 c0 l0 a1 (fun x => Hand.cmpI x.f0 a1) w hr0 hc0 hl hcmp)
  clear hcmp hr0
  go_enter Try.func82, Try.ntmps82
  go_wp2_with (go_at_call 111; refine HC.out.mono ?_; rintro e w' ⟨rfl, hb⟩)
  go_ret2
  exact ⟨rfl, hb⟩

/-! ### api_Sample_83: function 83 -/
/-- An element put in ahead of place i, into a row of the call's own; the element lies in a block of its own. -/
def api_Sample_83.Post (ok : Nat → Prop) (v0 : Value) (r : List (S62)) (w0 w : World) (e : Ending) (w' : World) : Prop :=
  ∃ v', e = .returned v' ∧ Kd.R k62 62 w' w0.heap.size ok v' r ∧ Below w0.heap.size w0 w' ∧ w.grownBy w' v0.ownBlock
set_option maxHeartbeats 4000000 in
set_option maxRecDepth 100000 in
theorem api_Sample_83.walk (v0 : Value) (xs : List (S62)) (vb vc : Nat) (x : S62) (cv : Array Value) (cs : List Value) (i : Int) (ok : Nat → Prop) (w0 w : World) (hB : Below w0.heap.size w0 w) (ho : Kd.R k62 62 w w0.heap.size ok v0 xs)
    (hv : w.heap[vb]? = some (.cells cv 62 (0, 0))) (hcv : ∀ (m : Nat) (v : Value), cs[m]? = some v → cv[m]? = some v) (hK : (k62).M w w0.heap.size (fun k => ok k ∧ k ≠ vb ∧ some k ≠ v0.ownBlock) x cs) (hne : v0.ownBlock ≠ some vb)
    (hi0 : 0 ≤ i) (hi1 : i ≤ xs.length) (hl : xs.length ≤ 1000000) (hfresh : ∀ k, w.heap.size ≤ k → ok k) :
    Calls Try.prog 83 #[v0, .int .i64 i, .slice (some ⟨vb, 0, none⟩) 1 vc] w (api_Sample_83.Post ok v0 (xs.take i.toNat ++ x :: xs.drop i.toNat) w0 w) := by
  have hcl : cs.length = 2 := (k62).K_len ((k62).K_of_M hK)
  have HCV := Lib.hid hcv
  have HK := Aside0.mk hK
  have HV := Aside0.mk hv
  have HO := Aside0.mk ho
  have HB := Aside0.mk hB
  clear hv hK hB hcv
  have HF := Lib.hid hfresh
  have HN := Lib.hid hne
  clear hfresh hne
  obtain ⟨h0, inner, ⟨hil, hform⟩, hrep⟩ := ho
  have HREP := Aside0.mk hrep
  clear hrep
  have H0 := Lib.hid h0
  clear h0
  by_cases hend : i = xs.length
  · -- at the end
    obtain rfl : i = (xs.length : Int) := hend
    have HR := Lib.hid (show xs.take ((xs.length : Int)).toNat ++ x :: xs.drop ((xs.length : Int)).toNat = xs ++ [x] by simp)
    rw [HR.out]
    clear HR hi0 hi1
    rcases hform with ⟨rfl, hn⟩ | ⟨g, cap, cur, rfl, hbg, hheap, hnc, hcm, hcs, htake⟩
    · obtain rfl : xs = [] := List.eq_nil_of_length_eq_zero hn
      clear hn hil
      go_enter Try.func83, Try.ntmps83
      go_wp2_with (first | ((with_reducible refine gate_builtin (b := .append) (xs := #[.tmp 23, .tmp 24]) rfl ?_); at_builtin; refine Kd.R_append_rows k62 (Rr := fun y c => y = x ∧ c = cs) (w0 := w0) w0.heap.size rfl (.tmp 23) (.tmp 24) 60 62 (.agg #[(.int .i64 0), (.int .i64 0)]) 16 rfl Try.underlying60 info62 rfl (by decide) (by decide) _ _ [x] (some ⟨vb, 0, none⟩) 1 vc ok (fun k => ok k ∧ k ≠ vb ∧ some k ≠ _) rfl rfl HO.out (Hand.reads_one HV.out HCV.out hcl ⟨rfl, rfl⟩) (fun y c h => ?hM) (fun k hk => ⟨hk.1, hk.2.2⟩) HF.out HB.out HB.out.size (by (try simp only [List.length_nil]); omega) ?_; (case hM => obtain ⟨rfl, rfl⟩ := h; exact HK.out); intro v6 w6 HO6 HB6 hg6 hat6; clear hat6; have HO6' := Aside0.mk HO6; clear HO6; have HB6' := Aside0.mk HB6; clear HB6; have HG6 := Aside0.mk hg6; clear hg6))
      go_ret
      exact ⟨_, rfl, HO6'.out, HB6'.out, HG6.out⟩
    · clear hheap hcm hcs htake hil hbg
      go_enter Try.func83, Try.ntmps83
      go_wp2_with (first | ((with_reducible refine gate_builtin (b := .append) (xs := #[.tmp 23, .tmp 24]) rfl ?_); at_builtin; refine Kd.R_append_rows k62 (Rr := fun y c => y = x ∧ c = cs) (w0 := w0) w0.heap.size rfl (.tmp 23) (.tmp 24) 60 62 (.agg #[(.int .i64 0), (.int .i64 0)]) 16 rfl Try.underlying60 info62 rfl (by decide) (by decide) _ _ [x] (some ⟨vb, 0, none⟩) 1 vc ok (fun k => ok k ∧ k ≠ vb ∧ some k ≠ _) rfl rfl HO.out (Hand.reads_one HV.out HCV.out hcl ⟨rfl, rfl⟩) (fun y c h => ?hM) (fun k hk => ⟨hk.1, hk.2.2⟩) HF.out HB.out HB.out.size (by (try simp only [List.length_nil]); omega) ?_; (case hM => obtain ⟨rfl, rfl⟩ := h; exact HK.out); intro v6 w6 HO6 HB6 hg6 hat6; clear hat6; have HO6' := Aside0.mk HO6; clear HO6; have HB6' := Aside0.mk HB6; clear HB6; have HG6 := Aside0.mk hg6; clear hg6))
      all_goals
        go_ret
        exact ⟨_, rfl, HO6'.out, HB6'.out, HG6.out⟩
  · have hilt : i < xs.length := by omega
    clear hend hi1
    rcases hform with ⟨rfl, hn⟩ | ⟨g, cap, cur, rfl, hbg, hheap, hnc, hcm, hcs, htake⟩
    · exact absurd hn (by omega)
    · obtain ⟨j, rfl⟩ : ∃ j : Nat, i = j := ⟨i.toNat, by omega⟩
      have HR := Lib.hid (show xs.take ((j : Nat) : Int).toNat ++ x :: xs.drop ((j : Nat) : Int).toNat = xs.take j ++ x :: xs.drop j by rw [Int.toNat_natCast])
      rw [HR.out]
      clear HR
      have hgv : vb ≠ g := fun h => HN.out (by rw [h]; rfl)
      have htw : ∀ (W : World), W.heap[g]? = w.heap[g]? → W.heap[vb]? = w.heap[vb]? → ∀ m v, (inner.drop (j * 2))[m]? = some v → W.cell? ⟨g, j * 2 + m, none⟩ = some v := by
        intro W hW _ m v hm
        rw [← htake, List.getElem?_drop, List.getElem?_take] at hm
        split at hm
        · simp [World.cell?, hW, hheap]
          simpa using hm
        · cases hm
      have hone : ∀ v ∈ inner, v.oneCell' = true := Hand.reps_one' HREP.out (by decide)
      have hjn : j < xs.length := by omega
      have hcs1 : (inner.drop (j * 2)).length = (xs.length - j) * 2 := by rw [List.length_drop, hil, Nat.sub_mul]; rfl
      by_cases hroom : xs.length + 1 ≤ cap
      · have hcl2 : cur.toList.length = cap * 2 := by rw [Array.length_toList]; exact hcs
        obtain ⟨s1, s2, s3⟩ := Hand.splice_in (sz := 2) htake hcl (by omega : j ≤ xs.length) hroom hcl2
        have hsz : (Try.prog.info? 62).map (·.size) = some 2 := by kernel_rfl
        have hov : ∀ lb cb, (callFunc 113 #[.slice (some ⟨vb, 0, none⟩) 1 vc, .slice (some ⟨g, (j + 1) * 2, none⟩) lb cb]).run Try.prog w = .ok (.value (.bool false)) w := fun lb cb => by
          rw [run_callFunc_extern Try.func113 (by kernel_rfl) (by kernel_rfl) (by kernel_rfl) (e := Extern.SlicesOverlaps.overlaps #[60, 60] #[4]) (by kernel_rfl),
            Lib.run_overlaps_apart w 60 4 62 Try.underlying60 2 (fun _ => by kernel_rfl) ⟨vb, 0, none⟩ ⟨g, (j + 1) * 2, none⟩ 1 vc lb cb hgv 62 62 cv.size cur.size (by simp [World.shape?, HV.out]) (by simp [World.shape?, hheap]) (by rw [hcs]; exact Nat.mul_ne_zero (by omega) (by decide)) (by simp [World.frozen?, HV.out]) (by simp [World.frozen?, HV.out])]
          rfl
        obtain ⟨C1, hC1⟩ : ∃ C1, C1 = cur.toList.take ((j + 1) * 2) ++ inner.drop (j * 2) ++ cur.toList.drop ((j + 1) * 2 + (inner.drop (j * 2)).length) := ⟨_, rfl⟩
        rw [← hC1] at s1 s2 s3
        obtain ⟨C2, hC2⟩ : ∃ C2, C2 = C1.take (j * 2) ++ cs ++ C1.drop (j * 2 + cs.length) := ⟨_, rfl⟩
        rw [← hC2] at s1 s2
        obtain ⟨W1, hW1⟩ : ∃ W1, W1 = w.drew.setRow g C1.toArray := ⟨_, rfl⟩
        have hW1g : W1.heap[g]? = some (.cells C1.toArray 62 (0, 0)) := by rw [hW1]; exact setRow_heap w.drew g cur _ 62 _ hheap
        have hW1o : ∀ k, k ≠ g → W1.heap[k]? = w.heap[k]? := fun k hk => by rw [hW1]; exact setRow_other w.drew g k _ hk
        have hcp1 : ∀ ty dl dc sl sc, Nat.min sl dl = xs.length - j → (Builtin.copy_ #[60, 60] ty #[.slice (some ⟨g, (j + 1) * 2, none⟩) dl dc, .slice (some ⟨g, j * 2, none⟩) sl sc]).run Try.prog w.drew = .ok (goInt (Nat.min sl dl)) W1 := fun ty dl dc sl sc hm => by
          rw [hW1, hC1]
          exact Hand.run_copy_k w.drew _ _ ty 62 g _ dl dc ⟨g, j * 2, none⟩ sl sc 2 cur 62 (inner.drop (j * 2)) Try.underlying60 hsz hheap (by rw [hm]; exact hcs1) (fun m v h => by rw [Addr.add_lit]; exact htw w.drew rfl rfl m v h) (by rw [hcs1]; have h2 := hcs; simp only [Nat.sub_mul, Nat.add_mul]; have h3 : (xs.length + 1) * 2 ≤ cap * 2 := Nat.mul_le_mul_right _ hroom; have h4 : cur.size = cap * 2 := hcs; omega) (fun v hv => hone v (List.mem_of_mem_drop hv))
        have hcp2 : ∀ ty dl dc, 1 ≤ dl → (Builtin.copy_ #[60, 60] ty #[.slice (some ⟨g, j * 2, none⟩) dl dc, .slice (some ⟨vb, 0, none⟩) 1 vc]).run Try.prog W1 = .ok (goInt (Nat.min 1 dl)) (W1.setRow g C2.toArray) := fun ty dl dc hm => by
          have h := Hand.run_copy_k (P := Try.prog) W1 60 60 ty 62 g (j * 2) dl dc ⟨vb, 0, none⟩ 1 vc 2 C1.toArray 62 cs Try.underlying60 hsz hW1g (by rw [hcl, show Nat.min 1 dl = 1 from Nat.min_eq_left hm]) (fun m v h => by rw [Addr.add_lit]; simp [World.cell?, hW1o vb hgv, HV.out]; exact HCV.out m v h) (by rw [hcl]; simp only [List.size_toArray, s3]; have h3 : (j + 1) * 2 ≤ cap * 2 := Nat.mul_le_mul_right _ (by omega); omega) ((k62).K_one ((k62).K_of_M HK.out))
          rw [hC2]
          exact h
        have HS := Lib.hid s1
        have hS2 := Lib.hid s2
        have Hcp1 := Lib.hid hcp1
        have Hcp2 := Lib.hid hcp2
        have HW1g := Lib.hid hW1g
        have HW1o := Lib.hid hW1o
        have HW1 := Lib.hid hW1
        have Htw := Lib.hid htake
        have Hcs := Lib.hid hcs
        have Hheap := Lib.hid hheap
        have Hil := Lib.hid hil
        clear s1 s2 s3 hcp1 hcp2 hW1g hW1o hW1 htake hcs hheap hil htw hone hcs1 hcl2 hsz hC1 hC2
        have hq1 : ¬ (cap = j + 1) := by omega
        have hq2 : ¬ (cap = j) := by omega
        have mixed : Try.prog.follows .mixedOrders = true := by kernel_rfl
        have hin : j ≤ xs.length := by omega
        have hb3 : (j : Int) ≤ (xs.length : Int) + 1 := by omega
        have hw1 : IntKind.i64.wrap ((j : Int) + 1) = (j : Int) + 1 := IntWalk.i64_in _ (by omega)
        have hb1 : (0 : Int) ≤ (j : Int) + 1 := by omega
        have htn : ((j : Int) + 1).toNat = j + 1 := by omega
        go_enter Try.func83, Try.ntmps83
        go_wp2_with (simp only [hov])
        go_region_law_o (refine Hand.step_copy_run rfl _ _ 60 60 rfl _ _ (by simp [Act.eval, Act.put]) (by simp [Act.eval, Act.put]) (Hcp1.out _ (xs.length + 1 - (j + 1)) (cap - (j + 1)) (xs.length + 1 - j) (cap - j) (by simp only [Nat.min_def]; split <;> omega)) ?_)
        go_wp2_with ((with_reducible refine gate_builtin (b := .copy) (xs := #[.tmp 80, .tmp 81]) rfl ?_); refine Hand.wpList_copy_run _ rfl _ _ 60 60 rfl _ _ rfl rfl (Hcp2.out _ (xs.length + 1 - j) (cap - j) (by omega)) ?_)
        go_ret
        refine ⟨_, rfl, Hand.R_insert (inner := inner) (cs := cs) (Hand.reps_carry HREP.out (fun k hk _ => ?_) (fun k hk _ => ⟨hk.1, fun h => hk.2 (by rw [h]; rfl)⟩)) (Hand.M_carry HK.out (fun k hk _ => ?_) (fun k hk _ => ⟨hk.1, fun h => hk.2.2 (by rw [h]; rfl)⟩)) rfl hin (H0.out g rfl) hbg (setRow_heap W1 g _ _ _ _ HW1g.out) hroom hcm (by rw [List.size_toArray]; exact hS2.out) HS.out, below_setRow (B := w0.heap.size) (by rw [HW1.out]; exact below_setRow HB.out.drew hbg _) hbg _, ?_⟩
        · rw [setRow_other _ _ _ _ (fun h => hk.2 (by rw [h]; rfl)), HW1o.out _ (fun h => hk.2 (by rw [h]; rfl))]
        · rw [setRow_other _ _ _ _ (fun h => hk.2.2 (by rw [h]; rfl)), HW1o.out _ (fun h => hk.2.2 (by rw [h]; rfl))]
        · rw [HW1.out]
          exact ⟨rfl, rfl, rfl, by simp [World.setRow], fun k _ hk => by
            have hk' : k ≠ g := fun h => hk (by rw [h]; rfl)
            rw [setRow_other _ _ _ _ hk', setRow_other _ _ _ _ hk']
            rfl⟩
      · obtain ⟨i0, hi0, hz0⟩ := Option.map_eq_some_iff.1 info62
        simp only [Prod.mk.injEq] at hz0
        obtain ⟨z1, z2, z3⟩ := hz0
        have hsz : (Try.prog.info? 62).map (·.size) = some 2 := by kernel_rfl
        have hm1 : xs.length + 1 - j ≠ 0 := by omega
        have hjm : j + (xs.length + 1 - j) = xs.length + 1 := by omega
        obtain ⟨cap2, hcap2⟩ : ∃ c, c = grownCap w (xs.length + 1) cap 62 := ⟨_, rfl⟩
        have hge : xs.length + 1 ≤ cap2 := by rw [hcap2]; exact grownCap_ge w _ _ _
        have hcm2 : cap2 ≤ maxLen := by rw [hcap2]; exact grownCap_le_maxLen w _ _ _ (by simp only [maxLen]; omega)
        obtain ⟨C0, hC0⟩ : ∃ C0 : List Value, C0 = inner.take (j * 2) ++ (Builtin.zeroCells ((.agg #[(.int .i64 0), (.int .i64 0)]) : Value).cells (xs.length + 1 - j)).toList ++ (Builtin.zeroCells ((.agg #[(.int .i64 0), (.int .i64 0)]) : Value).cells (cap2 - (xs.length + 1))).toList := ⟨_, rfl⟩
        have hpre : (inner.take (j * 2)).length = j * 2 := by rw [List.length_take, hil]; exact Nat.min_eq_left (Nat.mul_le_mul_right _ (by omega))
        have hC0l : C0.length = cap2 * 2 := by
          rw [hC0]
          simp only [List.length_append, hpre, Array.length_toList, size_zeroCells]
          show j * 2 + (xs.length + 1 - j) * 2 + (cap2 - (xs.length + 1)) * 2 = cap2 * 2
          omega
        have hC0t : C0.take (j * 2) = inner.take (j * 2) := by rw [hC0, List.append_assoc]; exact List.take_left' hpre
        obtain ⟨s1, s2, s3⟩ := Hand.splice_new (sz := 2) (n := xs.length) (i := j) (cap := cap2) hC0t hil hcl (by omega) hge hC0l
        obtain ⟨C1, hC1⟩ : ∃ C1, C1 = C0.take (j * 2) ++ cs ++ C0.drop (j * 2 + cs.length) := ⟨_, rfl⟩
        rw [← hC1] at s1 s2 s3
        obtain ⟨C2, hC2⟩ : ∃ C2, C2 = C1.take ((j + 1) * 2) ++ inner.drop (j * 2) ++ C1.drop ((j + 1) * 2 + (inner.drop (j * 2)).length) := ⟨_, rfl⟩
        rw [← hC2] at s1 s2
        obtain ⟨W0, hW0⟩ : ∃ W0, W0 = w.drew.alloc (.cells C0.toArray 62) := ⟨_, rfl⟩
        have hap : ∀ ty, (Builtin.append_ #[60, 3] ty #[.slice (some ⟨g, 0, none⟩) j cap, .int .i64 ((xs.length : Int) + 1 - (j : Int))]).run Try.prog w = .ok (.slice (some ⟨w.heap.size, 0, none⟩) (xs.length + 1) cap2) W0 := fun ty => by
          have h := Hand.run_zeros_grow (P := Try.prog) w 60 3 ty 62 i0 (.agg #[(.int .i64 0), (.int .i64 0)]) Try.underlying60 Try.underlying3 hi0 z1 (by rw [z2]; decide) (by rw [z3]; decide) (some ⟨g, 0, none⟩) j cap (inner.take (j * 2)) (run_firstCells_some w.drew i0.size j ⟨g, 0, none⟩ j cap _ (by rw [hpre, z2]) (fun m v hm => by
            rw [Addr.add_lit, Nat.zero_add]
            rw [← htake, List.getElem?_take, List.getElem?_take] at hm
            split at hm
            · split at hm
              · have hd : w.drew.heap[g]? = some (.cells cur 62 (0, 0)) := hheap
                simp [World.cell?, hd]
                simpa using hm
              · cases hm
            · cases hm)) .i64 (xs.length + 1 - j) hm1 (by rw [hjm, z3]; omega) (by omega)
          rw [hjm, ← hcap2] at h
          rw [show (xs.length : Int) + 1 - (j : Int) = ((xs.length + 1 - j : Nat) : Int) by omega, h, hW0, hC0]
          exact congrArg (fun c => Result.ok _ (w.drew.alloc (.cells c 62))) (Array.ext' (by simp))
        have hnew : W0.heap[w.heap.size]? = some (.cells C0.toArray 62 (0, 0)) := by rw [hW0]; exact heap_alloc_new w.drew _
        have hold : ∀ k, k < w.heap.size → W0.heap[k]? = w.heap[k]? := fun k hk => by rw [hW0]; exact heap_alloc_old w.drew _ hk
        have hgs : g < w.heap.size := (Array.getElem?_eq_some_iff.1 hheap).1
        have hvs : vb < w.heap.size := (Array.getElem?_eq_some_iff.1 HV.out).1
        obtain ⟨b2, hb2⟩ : ∃ b, b = w.heap.size := ⟨_, rfl⟩
        rw [← hb2] at hnew hap
        obtain ⟨W1, hW1⟩ : ∃ W1, W1 = W0.setRow b2 C1.toArray := ⟨_, rfl⟩
        have hW1n : W1.heap[b2]? = some (.cells C1.toArray 62 (0, 0)) := by rw [hW1]; exact setRow_heap W0 b2 _ _ 62 _ hnew
        have hW1o : ∀ k, k < b2 → W1.heap[k]? = w.heap[k]? := fun k hk => by rw [hW1, setRow_other W0 b2 k _ (by omega)]; exact hold k (by omega)
        have hcp1 : ∀ ty dl dc, 1 ≤ dl → (Builtin.copy_ #[60, 60] ty #[.slice (some ⟨b2, j * 2, none⟩) dl dc, .slice (some ⟨vb, 0, none⟩) 1 vc]).run Try.prog W0 = .ok (goInt (Nat.min 1 dl)) W1 := fun ty dl dc hm => by
          rw [hW1, hC1]
          exact Hand.run_copy_k (P := Try.prog) W0 60 60 ty 62 b2 (j * 2) dl dc ⟨vb, 0, none⟩ 1 vc 2 C0.toArray 62 cs Try.underlying60 hsz hnew (by rw [hcl, show Nat.min 1 dl = 1 from Nat.min_eq_left hm]) (fun m v h => by rw [Addr.add_lit]; simp [World.cell?, hold vb hvs, HV.out]; exact HCV.out m v h) (by rw [hcl]; simp only [List.size_toArray, hC0l]; have h3 : (j + 1) * 2 ≤ cap2 * 2 := Nat.mul_le_mul_right _ (by omega); omega) ((k62).K_one ((k62).K_of_M HK.out))
        have hcp2 : ∀ ty dl dc sl sc, Nat.min sl dl = xs.length - j → (Builtin.copy_ #[60, 60] ty #[.slice (some ⟨b2, (j + 1) * 2, none⟩) dl dc, .slice (some ⟨g, j * 2, none⟩) sl sc]).run Try.prog W1.drew = .ok (goInt (Nat.min sl dl)) (W1.drew.setRow b2 C2.toArray) := fun ty dl dc sl sc hm => by
          rw [hC2]
          exact Hand.run_copy_k W1.drew _ _ ty 62 b2 _ dl dc ⟨g, j * 2, none⟩ sl sc 2 C1.toArray 62 (inner.drop (j * 2)) Try.underlying60 hsz hW1n (by rw [hm]; exact hcs1) (fun m v h => by rw [Addr.add_lit]; exact htw W1.drew (hW1o g (by omega)) (hW1o vb (by omega)) m v h) (by rw [hcs1]; simp only [List.size_toArray, s3, Nat.sub_mul, Nat.add_mul]; have h3 : (xs.length + 1) * 2 ≤ cap2 * 2 := Nat.mul_le_mul_right _ hge; omega) (fun v hv => hone v (List.mem_of_mem_drop hv))
        have HS := Lib.hid s1
        have hS2 := Lib.hid s2
        have Hcp1 := Lib.hid hcp1
        have Hcp2 := Lib.hid hcp2
        have HW1n := Lib.hid hW1n
        have HW1o := Lib.hid hW1o
        have HW1 := Lib.hid hW1
        have HW0 := Lib.hid hW0
        have Hb2 := Lib.hid hb2
        have Hap := Lib.hid hap
        clear s1 s2 s3 hcp1 hcp2 hW1n hW1o hW1 hW0 htake hcs hheap hil htw hone hcs1 hsz hC1 hC2 hap hnew hold hb2 hC0 hC0l hC0t hpre hcap2 hm1 hjm hi0 z1 z2 z3 hgs hvs
        have hq1 : ¬ (cap2 = j + 1) := by omega
        have hq2 : ¬ (cap2 = j) := by omega
        have hq3 : ¬ (cap = j) := by omega
        have mixed : Try.prog.follows .mixedOrders = true := by kernel_rfl
        have hin : j ≤ xs.length := by omega
        have hb3 : (j : Int) ≤ (xs.length : Int) + 1 := by omega
        have hw1 : IntKind.i64.wrap ((j : Int) + 1) = (j : Int) + 1 := IntWalk.i64_in _ (by omega)
        have hb1 : (0 : Int) ≤ (j : Int) + 1 := by omega
        have htn : ((j : Int) + 1).toNat = j + 1 := by omega
        go_enter Try.func83, Try.ntmps83
        go_wp2_with (first
          | ((with_reducible refine gate_builtin (b := .append) (xs := #[.tmp 34, .tmp 39]) rfl ?_); refine Hand.wpList_append_run2 _ rfl _ _ 60 3 rfl _ _ rfl rfl (Hap.out _) ?_)
          | ((with_reducible refine gate_builtin (b := .copy) (xs := #[.tmp 43, .tmp 44]) rfl ?_); refine Hand.wpList_copy_run _ rfl _ _ 60 60 rfl _ _ rfl rfl (Hcp1.out _ (xs.length + 1 - j) (cap2 - j) (by omega)) ?_))
        go_region_law_o (refine Hand.step_copy_run rfl _ _ 60 60 rfl _ _ (by simp [Act.eval, Act.put]) (by simp [Act.eval, Act.put]) (Hcp2.out _ (xs.length + 1 - (j + 1)) (cap2 - (j + 1)) (xs.length - j) (cap - j) (by simp only [Nat.min_def]; split <;> omega)) ?_)
        go_wp2
        go_ret
        have hb2w : b2 = w.heap.size := Hb2.out
        refine ⟨_, rfl, ?_, ?_, ?_⟩
        · exact Hand.R_insert (inner := inner) (cs := cs) (Hand.reps_carry HREP.out (fun k hk hlt => by rw [setRow_other _ _ _ _ (by omega)]; exact HW1o.out k (by omega)) (fun k hk hlt => ⟨hk.1, by omega⟩)) (Hand.M_carry HK.out (fun k hk hlt => by rw [setRow_other _ _ _ _ (by omega)]; exact HW1o.out k (by omega)) (fun k hk hlt => ⟨hk.1, by omega⟩)) rfl hin (HF.out b2 (by omega)) (by rw [hb2w]; exact HB.out.size) (setRow_heap W1.drew b2 _ _ _ _ HW1n.out) hge hcm2 (by rw [List.size_toArray]; exact hS2.out) HS.out
        · refine below_setRow (B := w0.heap.size) ?_ (by rw [hb2w]; exact HB.out.size) _
          rw [HW1.out]
          refine Below.drew (below_setRow (B := w0.heap.size) ?_ (by rw [hb2w]; exact HB.out.size) _)
          rw [HW0.out]
          exact HB.out.drew.alloc HB.out.size _
        · rw [HW1.out, HW0.out]
          exact ⟨rfl, rfl, rfl, by simp [World.setRow], fun k hlt _ => by
            rw [setRow_other _ _ _ _ (by omega)]
            refine (setRow_other _ _ _ _ (by omega)).trans ?_
            exact heap_alloc_old w.drew _ hlt⟩
def api_Sample_83.f (l0 : List (S62)) (a1 : Int) (l2 : List (S62)) : Option (List (S62)) :=
  if l2.length = 1 ∧ 0 ≤ a1 ∧ a1 ≤ l0.length ∧ l0.length ≤ 1000000 then some (l0.take a1.toNat ++ l2 ++ l0.drop a1.toNat) else none
theorem api_Sample_83.calls (P0_ : Nat → Prop) (u9000_ : Value) (l0 : List (S62)) (a1 : Int) (P2_ : Nat → Prop) (u9001_ : Value) (l2 : List (S62)) (r : List (S62)) (w0 w : World) (hB : Below w0.heap.size w0 w) (ho0 : Kd.R k62 62 w w0.heap.size P0_ u9000_ l0) (hp0_2 : ∀ k_, P0_ k_ → ¬ P2_ k_) (ho2 : Kd.R k62 62 w w0.heap.size P2_ u9001_ l2) (hp2_0 : ∀ k_, P2_ k_ → ¬ P0_ k_) (h : api_Sample_83.f l0 a1 l2 = some r) :
    Calls Try.prog 83 #[u9000_, .int .i64 a1, u9001_] w fun e w' => ∃ v0_ : Value, e = .returned (v0_) ∧ Kd.R k62 62 w' w0.heap.size (fun k_ => ((P0_ k_ ∨ P2_ k_) ∨ w.heap.size ≤ k_)) v0_ r ∧ Below w0.heap.size w0 w' ∧ Kept w w' (fun k_ => P0_ k_ ∨ P2_ k_) := by
  unfold api_Sample_83.f at h
  split at h
  · rename_i hc
    rcases l2 with _ | ⟨x, _ | ⟨y, l⟩⟩
    · exact absurd hc.1 (by simp)
    rotate_left
    · exact absurd hc.1 (by simp)
    have hr : r = l0.take a1.toNat ++ x :: l0.drop a1.toNat := by
      have := Option.some.inj h
      rw [← this]
      simp
    subst hr
    clear h
    obtain ⟨vb, vc, cv, cs, rfl, hg, hcv, hM, hok⟩ := Hand.R_one ho2
    have h0 := ho0.1
    refine (api_Sample_83.walk u9000_ l0 vb vc x cv cs a1 (fun k_ => ((P0_ k_ ∨ P2_ k_) ∨ w.heap.size ≤ k_)) w0 w hB (Kd.R_mono ho0 (fun k hk => .inl (.inl hk))) hg hcv ((k62).M_mono (fun k hk => ⟨.inl (.inr hk.1), hk.2, fun he => hp2_0 k hk.1 (h0 k he.symm)⟩) hM) (fun he => hp2_0 vb hok (h0 vb he)) hc.2.1 hc.2.2.1 hc.2.2.2 (fun k hk => .inr hk)).mono ?_
    rintro e w' ⟨v', rfl, hR, hBB, hgr⟩
    exact ⟨v', rfl, hR, hBB, hgr.size, fun k hk hn => hgr.block k hk (fun he => hn (.inl (h0 k he.symm)))⟩
  · cases h

end Go.Proofs.Ytilgmccdpddeoaa.PSamplesMerge
