/- What comes in, read by its type. -/
import Derived.Test.YtilgmccdpddeoaaPDrawEachx3
import Derived.Test.YtilgmccdpddeoaaHandO
namespace Go.Proofs.Ytilgmccdpddeoaa.PDrawEach
open Go.RowKit Go.WideShapes Go.Proofs.YtilgmccdpddeoaaW.PrintWords
def wf85 (x : S85) : Prop := ((Lit.int .i64 x.f0).wf = true) ∧ ((Lit.int .i64 x.f1).wf = true)
theorem opens85 (w : World) : Hand.Opens Try.prog w k85 85 wf85 := by
  intro H enc sp held fuel cs x h
  obtain ⟨xs, n, _, _, hl, hlen, hf⟩ := DataW.trod_struct Try.underlying85 h
  have hl' : cs.length = 2 := hl.trans (by kernel_rfl)
  have hlen' : xs.length = 2 := hlen
  obtain ⟨y0, e0, w0⟩ := Hand.seg (off := 0) (hf 0 _ rfl) (by omega) rfl rfl (by kernel_rfl : Try.prog.cellsOf 3 = 1) (Hand.opens_int Try.underlying3)
  obtain ⟨y1, e1, w1⟩ := Hand.seg (off := 1) (hf 1 _ rfl) (by omega) rfl rfl (by kernel_rfl : Try.prog.cellsOf 3 = 1) (Hand.opens_int Try.underlying3)
  refine ⟨⟨y0, y1⟩, ?_, w0, w1⟩
  have q := Hand.K_seg (w := w) (a := (Kd.int .i64)) (b := (Kd.int .i64)) (o2 := 1) e0 (Hand.K_last e1 hl') rfl
  rw [List.drop_zero] at q
  exact q
end Go.Proofs.Ytilgmccdpddeoaa.PDrawEach
