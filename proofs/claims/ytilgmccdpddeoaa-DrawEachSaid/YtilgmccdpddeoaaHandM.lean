/- Words of my own: a map from numbers to numbers that the call makes, as a function. -/
import Derived.Test.YtilgmccdpddeoaaHandS
import Derived.Maps.OwnOps
import Derived.Maps.Views
namespace Go.Proofs.Ytilgmccdpddeoaa.Hand
open Go.Shelf Go.RowKit Go.Lib Go.Sort Go.Maps Go.Proofs.YtilgmccdpddeoaaW.PrintWords
set_option linter.unusedVariables false
/-- Block b is a map of at most n numbers that tells g of a number. -/
def MapIs (P : Program) (ki : TypeId) (w : World) (b n : Nat) (g : Int → Int) : Prop :=
  ∃ D : DataW Unit, w.ownsMap P ki (plainElem P ki) b n D ∧ IsMap D ∧ ∀ a : Int, D.atKey (.int .i64 a) (.lit (.int .i64 0)) = .lit (.int .i64 (g a))
section
variable {P : Program} {ki t : TypeId} {w : World} {b n : Nat} {g : Int → Int}
theorem MapIs.made (w : World) : MapIs P ki (w.alloc (.map #[] 0)) w.heap.size 0 (fun _ => 0) := ⟨.map [], World.ownsMap_made _ _ _ _, ⟨_, rfl⟩, fun a => rfl⟩
theorem MapIs.kept {w' : World} {row : Option Nat} (h : MapIs P ki w b n g) (hg : w.grownBy w' row) (hne : some b ≠ row) : MapIs P ki w' b n g := by
  obtain ⟨D, h1, h2, h3⟩ := h
  exact ⟨D, h1.kept hg hne, h2, h3⟩
theorem MapIs.below {w' : World} (h : MapIs P ki w b n g) (hb : Below w.heap.size w w') : MapIs P ki w' b n g := h.kept (grownBy_of_below hb none) (by simp)
theorem MapIs.look (h : MapIs P ki w b n g) (hk : P.underlying ki = some (.int .i64)) (ht : P.underlying t = some (.map ki ki)) (hz : (zeroValue ki).run P w = .ok (.int .i64 0) w) (a : Int) (ha : (Lit.int .i64 a).wf = true) :
    (Instr.lookup t (.map (some b)) (.int .i64 a) false).run P w = .ok (.int .i64 (g a)) w := by
  obtain ⟨D, h1, h2, h3⟩ := h
  obtain ⟨c, hrun, hat, _⟩ := h1.lookup_int (int_keyed hk) ht hk hz (keyOf_int_mk hk ha)
  rw [h3 a] at hat
  have : g a = c := by injection hat with e; injection e
  rw [this]
  exact hrun
theorem MapIs.put (h : MapIs P ki w b n g) (hk : P.underlying ki = some (.int .i64)) (ht : P.underlying t = some (.map ki ki)) (hn : n < maxLen) (a v : Int) (ha : (Lit.int .i64 a).wf = true) (hv : (Lit.int .i64 v).wf = true) :
    ∃ w', (Instr.mapUpdate t (.map (some b)) (.int .i64 a) (.int .i64 v)).run P w = .ok () w' ∧ MapIs P ki w' b (n + 1) (fun x => if x = a then v else g x) ∧ w.grownBy w' (some b) := by
  obtain ⟨D, h1, h2, h3⟩ := h
  obtain ⟨w', hrun, h4, h5⟩ := h1.update (int_keyed hk) ht hn (keyOf_int_mk hk ha) (plainElem_int hk hv)
  refine ⟨w', hrun, ⟨_, h4, ?_, fun x => ?_⟩, h5⟩
  · exact h2.put _ _
  · by_cases e : x = a
    · subst e
      rw [atKey_put_same h2 (by trivial)]
      simp
    · rw [atKey_put_other (by intro h; injection h with _ h; exact e h), h3 x]
      simp [e]
end
end Go.Proofs.Ytilgmccdpddeoaa.Hand
