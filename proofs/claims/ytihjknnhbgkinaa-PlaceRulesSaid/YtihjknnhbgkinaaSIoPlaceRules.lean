/- What comes in, read by its type (written by wip/s/sl5.py). -/
import Derived.Test.YtihjknnhbgkinaaSI3
import Derived.Test.YtihjknnhbgkinaaSlO
import Derived.Test.YtihjknnhbgkinaaChecked
namespace Go.Proofs.Ytihjknnhbgkinaa.SI
open Go Go.RowKit Go.Proofs.Ytihjknnhbgkinaa.Sl
set_option linter.unusedVariables false
set_option linter.unusedSimpArgs false
open Go.WideShapes
set_option maxRecDepth 100000
def T_api_Step.wf (x : T_api_Step) : Prop := ((Lit.int .i64 x.f0).wf = true) ∧ ((Lit.int .i64 x.f1).wf = true) ∧ ((Lit.int .i64 x.f2).wf = true)
theorem opens148 (w : World) : Opens Try.prog w T_api_Step.k 148 T_api_Step.wf := by
  intro H enc sp held fuel cs x h
  obtain ⟨xs, n, _, _, hl, hlen, hf⟩ := DataW.trod_struct Try.underlying148 h
  have hl' : cs.length = 3 := hl.trans (by kernel_rfl)
  have hlen' : xs.length = 3 := hlen
  obtain ⟨y0, e0, w0⟩ := seg (off := 0) (s := 1) (hf 0 _ rfl) (by omega) rfl rfl (by kernel_rfl : Try.prog.cellsOf 3 = 1) (opens_int Try.underlying3)
  obtain ⟨y1, e1, w1⟩ := seg (off := 1) (s := 1) (hf 1 _ rfl) (by omega) rfl rfl (by kernel_rfl : Try.prog.cellsOf 3 = 1) (opens_int Try.underlying3)
  obtain ⟨y2, e2, w2⟩ := seg (off := 2) (s := 1) (hf 2 _ rfl) (by omega) rfl rfl (by kernel_rfl : Try.prog.cellsOf 3 = 1) (opens_int Try.underlying3)
  have q := part_step (off := 0) (s := 1) (part_step (off := 1) (s := 1) (part_last (off := 2) (s := 1) hl'))
  rw [e0, e1, e2, List.drop_zero] at q
  exact ⟨⟨y0, y1, y2⟩, q, w0, w1, w2⟩

/-- What the pure side must show. -/
def PurePlaceRules : Prop := ∀ (s0 : List T_api_Step) (s1 : Int), (s0.length ≤ maxLen ∧ ∀ y ∈ s0, T_api_Step.wf y) → ((Lit.int .i64 s1).wf = true) → ∃ k, windroselaw07_PlaceRules.f k s0 s1 = some true
end Go.Proofs.Ytihjknnhbgkinaa.SI
