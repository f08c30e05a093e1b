/- What comes in, read by its type (written by wip/s/sl5.py). -/
import Derived.Test.YtihjknnhbgkinaaSR6
import Derived.Test.YtihjknnhbgkinaaSlO
import Derived.Test.YtihjknnhbgkinaaChecked
namespace Go.Proofs.Ytihjknnhbgkinaa.SR
open Go Go.RowKit Go.Proofs.Ytihjknnhbgkinaa.Sl
set_option linter.unusedVariables false
set_option linter.unusedSimpArgs false
open Go.WideShapes
set_option maxRecDepth 100000
def T_api_Data.wf (x : T_api_Data) : Prop := (x.f0.length ≤ maxLen ∧ ∀ y ∈ x.f0, (Lit.int .i64 y).wf = true) ∧ (x.f1.length ≤ maxLen ∧ ∀ y ∈ x.f1, y.size ≤ maxLen)
theorem opens36 (w : World) : Opens Try.prog w T_api_Data.k 36 T_api_Data.wf := by
  intro H enc sp held fuel cs x h
  obtain ⟨xs, n, _, _, hl, hlen, hf⟩ := DataW.trod_struct Try.underlying36 h
  have hl' : cs.length = 2 := hl.trans (by kernel_rfl)
  have hlen' : xs.length = 2 := hlen
  obtain ⟨y0, ⟨A0_0, c0_0, e0, g0_0⟩, w0⟩ := seg (off := 0) (s := 1) (hf 0 _ rfl) (by omega) rfl rfl (by kernel_rfl : Try.prog.cellsOf 31 = 1) (opens_slice Try.underlying31 (opens_int Try.underlying3) (by kernel_rfl))
  obtain ⟨y1, ⟨A1_0, c1_0, e1, g1_0⟩, w1⟩ := seg (off := 1) (s := 1) (hf 1 _ rfl) (by omega) rfl rfl (by kernel_rfl : Try.prog.cellsOf 34 = 1) (opens_slice Try.underlying34 (opens_string Try.underlying9) (by kernel_rfl))
  have q := part_step (off := 0) (s := 1) (part_last (off := 1) (s := 1) hl')
  rw [e0, e1, List.drop_zero] at q
  exact ⟨⟨y0, y1⟩, ⟨A0_0, c0_0, A1_0, c1_0, q, g0_0, g1_0⟩, w0, w1⟩

/-- What the pure side must show. -/
def PurePastReads : Prop := ∀ (s0 : T_api_Data), (T_api_Data.wf s0) → ∃ k, windroselaw27_PastReads.f k s0 = some true
end Go.Proofs.Ytihjknnhbgkinaa.SR
