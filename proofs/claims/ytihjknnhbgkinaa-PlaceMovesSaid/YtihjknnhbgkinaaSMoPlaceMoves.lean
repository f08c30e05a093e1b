/- What comes in, read by its type (written by wip/s/sl5.py). -/
import Derived.Test.YtihjknnhbgkinaaSM4
import Derived.Test.YtihjknnhbgkinaaSlO
import Derived.Test.YtihjknnhbgkinaaChecked
namespace Go.Proofs.Ytihjknnhbgkinaa.SM
open Go Go.RowKit Go.Proofs.Ytihjknnhbgkinaa.Sl
set_option linter.unusedVariables false
set_option linter.unusedSimpArgs false
open Go.WideShapes
set_option maxRecDepth 100000
def T_api_Node.wf (x : T_api_Node) : Prop := ((Lit.int .i64 x.f0).wf = true) ∧ ((Lit.int .i64 x.f1).wf = true) ∧ ((Lit.int .i64 x.f2).wf = true) ∧ ((Lit.int .i64 x.f3).wf = true) ∧ (True) ∧ (True)
theorem opens102 (w : World) : Opens Try.prog w T_api_Node.k 102 T_api_Node.wf := by
  intro H enc sp held fuel cs x h
  obtain ⟨xs, n, _, _, hl, hlen, hf⟩ := DataW.trod_struct Try.underlying102 h
  have hl' : cs.length = 6 := hl.trans (by kernel_rfl)
  have hlen' : xs.length = 6 := hlen
  obtain ⟨y0, e0, w0⟩ := seg (off := 0) (s := 1) (hf 0 _ rfl) (by omega) rfl rfl (by kernel_rfl : Try.prog.cellsOf 3 = 1) (opens_int Try.underlying3)
  obtain ⟨y1, e1, w1⟩ := seg (off := 1) (s := 1) (hf 1 _ rfl) (by omega) rfl rfl (by kernel_rfl : Try.prog.cellsOf 3 = 1) (opens_int Try.underlying3)
  obtain ⟨y2, e2, w2⟩ := seg (off := 2) (s := 1) (hf 2 _ rfl) (by omega) rfl rfl (by kernel_rfl : Try.prog.cellsOf 3 = 1) (opens_int Try.underlying3)
  obtain ⟨y3, e3, w3⟩ := seg (off := 3) (s := 1) (hf 3 _ rfl) (by omega) rfl rfl (by kernel_rfl : Try.prog.cellsOf 3 = 1) (opens_int Try.underlying3)
  obtain ⟨y4, e4, w4⟩ := seg (off := 4) (s := 1) (hf 4 _ rfl) (by omega) rfl rfl (by kernel_rfl : Try.prog.cellsOf 4 = 1) (opens_bool Try.underlying4)
  obtain ⟨y5, e5, w5⟩ := seg (off := 5) (s := 1) (hf 5 _ rfl) (by omega) rfl rfl (by kernel_rfl : Try.prog.cellsOf 4 = 1) (opens_bool Try.underlying4)
  have q := part_step (off := 0) (s := 1) (part_step (off := 1) (s := 1) (part_step (off := 2) (s := 1) (part_step (off := 3) (s := 1) (part_step (off := 4) (s := 1) (part_last (off := 5) (s := 1) hl')))))
  rw [e0, e1, e2, e3, e4, e5, List.drop_zero] at q
  exact ⟨⟨y0, y1, y2, y3, y4, y5⟩, q, w0, w1, w2, w3, w4, w5⟩

/-- What the pure side must show. -/
def PurePlaceMoves : Prop := ∀ (s0 : List T_api_Node) (s1 : Int) (s2 : Int), (s0.length ≤ maxLen ∧ ∀ y ∈ s0, T_api_Node.wf y) → ((Lit.int .i64 s1).wf = true) → ((Lit.int .u8 s2).wf = true) → ∃ k, windroselaw07_PlaceMoves.f k s0 s1 s2 = some true
end Go.Proofs.Ytihjknnhbgkinaa.SM
