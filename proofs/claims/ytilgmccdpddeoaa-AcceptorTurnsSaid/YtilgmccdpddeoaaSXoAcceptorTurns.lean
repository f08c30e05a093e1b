/- What comes in, read by its type (written by wip/s/sl5.py). -/
import Derived.Test.YtilgmccdpddeoaaSX6
import Derived.Test.YtilgmccdpddeoaaSlO
import Derived.Test.YtilgmccdpddeoaaChecked
namespace Go.Proofs.Ytilgmccdpddeoaa.SX
open Go Go.RowKit Go.Proofs.Ytilgmccdpddeoaa.Sl
set_option linter.unusedVariables false
set_option linter.unusedSimpArgs false
open Go.WideShapes
set_option maxRecDepth 100000
def wf28 (x : S28) : Prop := ((Lit.int .i64 x.f0).wf = true) ∧ ((Lit.int .i64 x.f1).wf = true) ∧ ((Lit.int .i64 x.f2).wf = true) ∧ ((Lit.int .i64 x.f3).wf = true) ∧ ((Lit.int .i64 x.f4).wf = true) ∧ ((Lit.int .i64 x.f5).wf = true) ∧ (x.f6.length ≤ maxLen ∧ ∀ y ∈ x.f6, (Lit.int .i64 y).wf = true)
theorem opens28 (w : World) : Opens Try.prog w k28 28 wf28 := by
  intro H enc sp held fuel cs x h
  obtain ⟨xs, n, _, _, hl, hlen, hf⟩ := DataW.trod_struct Try.underlying28 h
  have hl' : cs.length = 7 := hl.trans (by kernel_rfl)
  have hlen' : xs.length = 7 := hlen
  obtain ⟨y0, e0, w0⟩ := seg (off := 0) (s := 1) (hf 0 _ rfl) (by omega) rfl rfl (by kernel_rfl : Try.prog.cellsOf 3 = 1) (opens_int Try.underlying3)
  obtain ⟨y1, e1, w1⟩ := seg (off := 1) (s := 1) (hf 1 _ rfl) (by omega) rfl rfl (by kernel_rfl : Try.prog.cellsOf 3 = 1) (opens_int Try.underlying3)
  obtain ⟨y2, e2, w2⟩ := seg (off := 2) (s := 1) (hf 2 _ rfl) (by omega) rfl rfl (by kernel_rfl : Try.prog.cellsOf 3 = 1) (opens_int Try.underlying3)
  obtain ⟨y3, e3, w3⟩ := seg (off := 3) (s := 1) (hf 3 _ rfl) (by omega) rfl rfl (by kernel_rfl : Try.prog.cellsOf 3 = 1) (opens_int Try.underlying3)
  obtain ⟨y4, e4, w4⟩ := seg (off := 4) (s := 1) (hf 4 _ rfl) (by omega) rfl rfl (by kernel_rfl : Try.prog.cellsOf 3 = 1) (opens_int Try.underlying3)
  obtain ⟨y5, e5, w5⟩ := seg (off := 5) (s := 1) (hf 5 _ rfl) (by omega) rfl rfl (by kernel_rfl : Try.prog.cellsOf 3 = 1) (opens_int Try.underlying3)
  obtain ⟨y6, ⟨A6_0, c6_0, e6, g6_0⟩, w6⟩ := seg (off := 6) (s := 1) (hf 6 _ rfl) (by omega) rfl rfl (by kernel_rfl : Try.prog.cellsOf 26 = 1) (opens_slice Try.underlying26 (opens_int Try.underlying3) (by kernel_rfl))
  have q := part_step (off := 0) (s := 1) (part_step (off := 1) (s := 1) (part_step (off := 2) (s := 1) (part_step (off := 3) (s := 1) (part_step (off := 4) (s := 1) (part_step (off := 5) (s := 1) (part_last (off := 6) (s := 1) hl'))))))
  rw [e0, e1, e2, e3, e4, e5, e6, List.drop_zero] at q
  exact ⟨⟨y0, y1, y2, y3, y4, y5, y6⟩, ⟨A6_0, c6_0, q, g6_0⟩, w0, w1, w2, w3, w4, w5, w6⟩

def wf49 (x : S49) : Prop := ((Lit.int .i64 x.f0).wf = true) ∧ (wf28 x.f1)
theorem opens49 (w : World) : Opens Try.prog w k49 49 wf49 := by
  intro H enc sp held fuel cs x h
  obtain ⟨xs, n, _, _, hl, hlen, hf⟩ := DataW.trod_struct Try.underlying49 h
  have hl' : cs.length = 8 := hl.trans (by kernel_rfl)
  have hlen' : xs.length = 2 := hlen
  obtain ⟨y0, e0, w0⟩ := seg (off := 0) (s := 1) (hf 0 _ rfl) (by omega) rfl rfl (by kernel_rfl : Try.prog.cellsOf 3 = 1) (opens_int Try.underlying3)
  obtain ⟨y1, ⟨A1_6, c1_6, e1, g1_6⟩, w1⟩ := seg (off := 1) (s := 7) (hf 1 _ rfl) (by omega) rfl rfl (by kernel_rfl : Try.prog.cellsOf 28 = 7) (opens28 w)
  have q := part_step (off := 0) (s := 1) (part_last (off := 1) (s := 7) hl')
  rw [e0, e1, List.drop_zero] at q
  exact ⟨⟨y0, y1⟩, ⟨A1_6, c1_6, q, g1_6⟩, w0, w1⟩

def wf24 (x : S24) : Prop := ((Lit.int .i64 x.f0).wf = true) ∧ (x.f1.length ≤ maxLen ∧ ∀ y ∈ x.f1, wf49 y)
theorem opens24 (w : World) : Opens Try.prog w k24 24 wf24 := by
  intro H enc sp held fuel cs x h
  obtain ⟨xs, n, _, _, hl, hlen, hf⟩ := DataW.trod_struct Try.underlying24 h
  have hl' : cs.length = 2 := hl.trans (by kernel_rfl)
  have hlen' : xs.length = 2 := hlen
  obtain ⟨y0, e0, w0⟩ := seg (off := 0) (s := 1) (hf 0 _ rfl) (by omega) rfl rfl (by kernel_rfl : Try.prog.cellsOf 3 = 1) (opens_int Try.underlying3)
  obtain ⟨y1, ⟨A1_0, c1_0, e1, g1_0⟩, w1⟩ := seg (off := 1) (s := 1) (hf 1 _ rfl) (by omega) rfl rfl (by kernel_rfl : Try.prog.cellsOf 22 = 1) (opens_slice Try.underlying22 (opens49 w) (by kernel_rfl))
  have q := part_step (off := 0) (s := 1) (part_last (off := 1) (s := 1) hl')
  rw [e0, e1, List.drop_zero] at q
  exact ⟨⟨y0, y1⟩, ⟨A1_0, c1_0, q, g1_0⟩, w0, w1⟩

def wf25 (x : S25) : Prop := ((Lit.int .i64 x.f0).wf = true) ∧ ((Lit.int .i64 x.f1).wf = true) ∧ ((Lit.int .i64 x.f2).wf = true)
theorem opens25 (w : World) : Opens Try.prog w k25 25 wf25 := by
  intro H enc sp held fuel cs x h
  obtain ⟨xs, n, _, _, hl, hlen, hf⟩ := DataW.trod_array Try.underlying25 h
  have hl' : cs.length = 3 := hl.trans (by kernel_rfl)
  have hlen' : xs.length = 3 := hlen
  obtain ⟨y0, e0, w0⟩ := sega (off := 0) (s := 1) (hf 0 (by decide)) (by omega) (by kernel_rfl) rfl (opens_int Try.underlying3)
  obtain ⟨y1, e1, w1⟩ := sega (off := 1) (s := 1) (hf 1 (by decide)) (by omega) (by kernel_rfl) rfl (opens_int Try.underlying3)
  obtain ⟨y2, e2, w2⟩ := sega (off := 2) (s := 1) (hf 2 (by decide)) (by omega) (by kernel_rfl) rfl (opens_int Try.underlying3)
  have q := part_step (off := 0) (s := 1) (part_step (off := 1) (s := 1) (part_last (off := 2) (s := 1) hl'))
  rw [e0, e1, e2, List.drop_zero] at q
  exact ⟨⟨y0, y1, y2⟩, q, w0, w1, w2⟩

/-- What the pure side must show. -/
def PureAcceptorTurns : Prop := ∀ (s0 : S24) (s1 : S25) (s2 : S28), (wf24 s0) → (wf25 s1) → (wf28 s2) → ∃ k, windroselaw16_AcceptorTurns.f k s0 s1 s2 = some true
end Go.Proofs.Ytilgmccdpddeoaa.SX
