/- What comes in, read by its type (written by wip/s/sl5.py). -/
import Derived.Test.YtpohepinmjmbkaaGreatQB7
import Derived.Test.YtpohepinmjmbkaaGreatSlO
import Derived.Test.YtpohepinmjmbkaaGreatChecked
namespace Go.Proofs.YtpohepinmjmbkaaGreat.QB
open Go Go.RowKit Go.Proofs.YtpohepinmjmbkaaGreat.Sl
set_option linter.unusedVariables false
set_option linter.unusedSimpArgs false
set_option maxHeartbeats 4000000
set_option maxRecDepth 100000
open Go.WideShapes
set_option maxRecDepth 100000
def T_api_Info.wf (x : T_api_Info) : Prop := ((Lit.int .i64 x.f0).wf = true) ∧ ((Lit.int .i64 x.f1).wf = true) ∧ ((Lit.int .i64 x.f2).wf = true) ∧ ((Lit.int .i64 x.f3).wf = true) ∧ ((Lit.int .i64 x.f4).wf = true)
theorem opens86 (w : World) : Opens Tryz.prog w T_api_Info.k 86 T_api_Info.wf := by
  intro H enc sp held fuel cs x h
  obtain ⟨xs, n, _, _, hl, hlen, hf⟩ := DataW.trod_struct Tryz.underlying86 h
  have hl' : cs.length = 5 := hl.trans (by kernel_rfl)
  have hlen' : xs.length = 5 := hlen
  obtain ⟨y0, e0, w0⟩ := seg (off := 0) (s := 1) (hf 0 _ rfl) (by omega) rfl rfl (by kernel_rfl : Tryz.prog.cellsOf 3 = 1) (opens_int Tryz.underlying3)
  obtain ⟨y1, e1, w1⟩ := seg (off := 1) (s := 1) (hf 1 _ rfl) (by omega) rfl rfl (by kernel_rfl : Tryz.prog.cellsOf 3 = 1) (opens_int Tryz.underlying3)
  obtain ⟨y2, e2, w2⟩ := seg (off := 2) (s := 1) (hf 2 _ rfl) (by omega) rfl rfl (by kernel_rfl : Tryz.prog.cellsOf 3 = 1) (opens_int Tryz.underlying3)
  obtain ⟨y3, e3, w3⟩ := seg (off := 3) (s := 1) (hf 3 _ rfl) (by omega) rfl rfl (by kernel_rfl : Tryz.prog.cellsOf 3 = 1) (opens_int Tryz.underlying3)
  obtain ⟨y4, e4, w4⟩ := seg (off := 4) (s := 1) (hf 4 _ rfl) (by omega) rfl rfl (by kernel_rfl : Tryz.prog.cellsOf 3 = 1) (opens_int Tryz.underlying3)
  have q := part_step (off := 0) (s := 1) (part_step (off := 1) (s := 1) (part_step (off := 2) (s := 1) (part_step (off := 3) (s := 1) (part_last (off := 4) (s := 1) hl'))))
  rw [e0, e1, e2, e3, e4, List.drop_zero] at q
  exact ⟨⟨y0, y1, y2, y3, y4⟩, q, w0, w1, w2, w3, w4⟩

/-- What the pure side must show. -/
def PureQuorumBest : Prop := ∀ (s0 : List T_api_Info) (s1 : T_api_Info) (s2 : T_api_Info), (s0.length ≤ maxLen ∧ ∀ y ∈ s0, T_api_Info.wf y) → (T_api_Info.wf s1) → (T_api_Info.wf s2) → ∃ k, windroselaw29_QuorumBest.f k s0 s1 s2 = some true
end Go.Proofs.YtpohepinmjmbkaaGreat.QB
