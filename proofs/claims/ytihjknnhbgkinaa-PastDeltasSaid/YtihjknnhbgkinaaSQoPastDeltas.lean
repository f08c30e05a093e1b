/- What comes in, read by its type (written by wip/s/sl5.py). -/
import Derived.Test.YtihjknnhbgkinaaSQ2
import Derived.Test.YtihjknnhbgkinaaSlO
import Derived.Test.YtihjknnhbgkinaaChecked
namespace Go.Proofs.Ytihjknnhbgkinaa.SQ
open Go Go.RowKit Go.Proofs.Ytihjknnhbgkinaa.Sl
set_option linter.unusedVariables false
set_option linter.unusedSimpArgs false
open Go.WideShapes
set_option maxRecDepth 100000
def T_api_Delta.wf (x : T_api_Delta) : Prop := ((Lit.int .i64 x.f0).wf = true) ∧ ((Lit.int .i64 x.f1).wf = true) ∧ ((Lit.int .i64 x.f2).wf = true) ∧ ((Lit.int .i64 x.f3).wf = true) ∧ ((Lit.int .i64 x.f4).wf = true) ∧ ((Lit.int .i64 x.f5).wf = true) ∧ (x.f6.length ≤ maxLen ∧ ∀ y ∈ x.f6, (Lit.int .i64 y).wf = true)
theorem opens33 (w : World) : Opens Try.prog w T_api_Delta.k 33 T_api_Delta.wf := by
  intro H enc sp held fuel cs x h
  obtain ⟨xs, n, _, _, hl, hlen, hf⟩ := DataW.trod_struct Try.underlying33 h
  have hl' : cs.length = 7 := hl.trans (by kernel_rfl)
  have hlen' : xs.length = 7 := hlen
  obtain ⟨y0, e0, w0⟩ := seg (off := 0) (s := 1) (hf 0 _ rfl) (by omega) rfl rfl (by kernel_rfl : Try.prog.cellsOf 3 = 1) (opens_int Try.underlying3)
  obtain ⟨y1, e1, w1⟩ := seg (off := 1) (s := 1) (hf 1 _ rfl) (by omega) rfl rfl (by kernel_rfl : Try.prog.cellsOf 3 = 1) (opens_int Try.underlying3)
  obtain ⟨y2, e2, w2⟩ := seg (off := 2) (s := 1) (hf 2 _ rfl) (by omega) rfl rfl (by kernel_rfl : Try.prog.cellsOf 3 = 1) (opens_int Try.underlying3)
  obtain ⟨y3, e3, w3⟩ := seg (off := 3) (s := 1) (hf 3 _ rfl) (by omega) rfl rfl (by kernel_rfl : Try.prog.cellsOf 3 = 1) (opens_int Try.underlying3)
  obtain ⟨y4, e4, w4⟩ := seg (off := 4) (s := 1) (hf 4 _ rfl) (by omega) rfl rfl (by kernel_rfl : Try.prog.cellsOf 3 = 1) (opens_int Try.underlying3)
  obtain ⟨y5, e5, w5⟩ := seg (off := 5) (s := 1) (hf 5 _ rfl) (by omega) rfl rfl (by kernel_rfl : Try.prog.cellsOf 3 = 1) (opens_int Try.underlying3)
  obtain ⟨y6, ⟨A6_0, c6_0, e6, g6_0⟩, w6⟩ := seg (off := 6) (s := 1) (hf 6 _ rfl) (by omega) rfl rfl (by kernel_rfl : Try.prog.cellsOf 31 = 1) (opens_slice Try.underlying31 (opens_int Try.underlying3) (by kernel_rfl))
  have q := part_step (off := 0) (s := 1) (part_step (off := 1) (s := 1) (part_step (off := 2) (s := 1) (part_step (off := 3) (s := 1) (part_step (off := 4) (s := 1) (part_step (off := 5) (s := 1) (part_last (off := 6) (s := 1) hl'))))))
  rw [e0, e1, e2, e3, e4, e5, e6, List.drop_zero] at q
  exact ⟨⟨y0, y1, y2, y3, y4, y5, y6⟩, ⟨A6_0, c6_0, q, g6_0⟩, w0, w1, w2, w3, w4, w5, w6⟩

def T_api_Data.wf (x : T_api_Data) : Prop := (x.f0.length ≤ maxLen ∧ ∀ y ∈ x.f0, (Lit.int .i64 y).wf = true) ∧ (x.f1.length ≤ maxLen ∧ ∀ y ∈ x.f1, y.size ≤ maxLen)
theorem opens36 (w : World) : Opens Try.prog w T_api_Data.k 36 T_api_Data.wf := by
  intro H enc sp held fuel cs x h
  obtain ⟨xs, n, _, _, hl, hlen, hf⟩ := DataW.trod_struct Try.underlying36 h
  have hl' : cs.length = 2 := hl.trans (by kernel_rfl)
  have hlen' : xs.length = 2 := hlen
  obtain ⟨y0, ⟨A0_0, c0_0, e0, g0_0⟩, w0⟩ := seg (off := 0) (s := 1) (hf 0 _ rfl) (by omega) rfl rfl (by kernel_rfl : Try.prog.cellsOf 31 = 1) (opens_slice Try.underlying31 (opens_int Try.underlying3) (by kernel_rfl))
  obtain ⟨y1, ⟨A1_0, c1_0, e1, g1_0⟩, w1⟩ := seg (off := 1) (s := 1) (hf 1 _ rfl) (by omega) rfl rfl (by kernel_rfl : Try.prog.cellsOf 34 = 1) (opens_slice Try.underlying34 (opens_string Try.underlying9) (by kernel_rfl))
  have q := part_step (off := 0) (s := 1) (part_last (off := 1) (s := 1) hl')
  rw [e0, e1, List.drop_zero] at q
  exact ⟨⟨y0, y1⟩, ⟨A0_0, c0_0, A1_0, c1_0, q, g0_0, g1_0⟩, w0, w1⟩

/-- What the pure side must show. -/
def PurePastDeltas : Prop := ∀ (s0 : T_api_Delta) (s1 : T_api_Data), (T_api_Delta.wf s0) → (T_api_Data.wf s1) → ∃ k, windroselaw27_PastDeltas.f k s0 s1 = some true
end Go.Proofs.Ytihjknnhbgkinaa.SQ
