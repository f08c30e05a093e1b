/- Words of my own for the walks by hand: small laws of the machine that the walk lacks. -/
import Derived.WalkKit
import Derived.WalkSpells
import Derived.Shelf.Abstract
import Derived.Lib.Hide
import Derived.IntWalk
import Derived.Test.YtilgmccdpddeoaaWMore
namespace Go.Proofs.Ytilgmccdpddeoaa.Hand
open Go.RowKit Go.Proofs.YtilgmccdpddeoaaW.PrintWords
section
variable {P : Program}
theorem eql_nil {t e : TypeId} (h : P.underlying t = some (.slice e)) (a : Addr) (n c : Nat) (w : World) : (binOp .eql t (.slice (some a) n c) (.slice none 0 0)).run P w = .ok (.bool false) w := by
  simp only [binOp]
  simp [Op.equal, Op.maxDepth, Lib.run_equalIn_slice_nil w 9999 t e (some a) n c 0 0 h]
theorem eql_nil_nil {t e : TypeId} (h : P.underlying t = some (.slice e)) (n c : Nat) (w : World) : (binOp .eql t (.slice none n c) (.slice none 0 0)).run P w = .ok (.bool true) w := by
  simp only [binOp]
  simp [Op.equal, Op.maxDepth, Lib.run_equalIn_slice_nil w 9999 t e none n c 0 0 h]
end
/-- The walk stands still before what is put so. -/
structure Stop (p : Prop) : Prop where mk :: (out : p)
theorem drawn_trans {w v u : World} (h : Drawn0 w v) (g : Drawn0 v u) : Drawn0 w u := by
  obtain ⟨n, rfl⟩ := g.out
  exact h.step n
theorem cell_drawn {w w' : World} (h : Drawn0 w w') (p : Addr) : w'.cell? p = w.cell? p := by
  obtain ⟨n, rfl⟩ := h.out
  rfl
/-- Go's cmp.Compare at whole numbers. -/
def cmpI (x y : Int) : Int := if x < y then -1 else if x > y then 1 else 0
/-- A search by halves: lt tells of a place whether what is sought lies behind it. -/
def bsl (lt : Nat → Bool) : Nat → Nat → Nat → Nat
  | 0, i, _ => i
  | d + 1, i, j => if i < j then (if lt ((i + j) / 2) = true then bsl lt d ((i + j) / 2 + 1) j else bsl lt d i ((i + j) / 2)) else i
theorem bsl_end (lt : Nat → Bool) (d i j : Nat) (h : ¬ i < j) : bsl lt d i j = i := by
  cases d with
  | zero => rfl
  | succ d => simp only [bsl]; rw [if_neg h]
theorem bsl_le (lt : Nat → Bool) (d : Nat) : ∀ i j, i ≤ j → bsl lt d i j ≤ j ∧ i ≤ bsl lt d i j := by
  induction d with
  | zero => intro i j h; exact ⟨h, Nat.le_refl _⟩
  | succ d ih =>
    intro i j h
    simp only [bsl]
    split
    · split
      · have := ih ((i + j) / 2 + 1) j (by omega)
        omega
      · have := ih i ((i + j) / 2) (by omega)
        omega
    · exact ⟨h, Nat.le_refl _⟩
theorem bsl_int {lt : Nat → Bool} {d : Nat} {a b : Int} {R : Nat} (h : bsl lt (d + 1) a.toNat b.toNat = R) (h0 : 0 ≤ a) (hlt : a < b) :
    (lt ((a + b) / 2).toNat = true → bsl lt d ((a + b) / 2 + 1).toNat b.toNat = R) ∧ (lt ((a + b) / 2).toNat = false → bsl lt d a.toNat ((a + b) / 2).toNat = R) := by
  have e1 : (a.toNat + b.toNat) / 2 = ((a + b) / 2).toNat := by omega
  have e2 : ((a + b) / 2).toNat + 1 = ((a + b) / 2 + 1).toNat := by omega
  simp only [bsl] at h
  rw [if_pos (by omega), e1, e2] at h
  exact ⟨fun q => by rw [if_pos q] at h; exact h, fun q => by rw [if_neg (by rw [q]; decide)] at h; exact h⟩
/-- A row that is read, of which nothing is told: it is empty. -/
theorem C_none {α : Type} {d : Kd α} {w : World} {n : Nat} {xs : List α} (h : Kd.C d w none n xs) : xs = [] := by
  cases xs with
  | nil => rfl
  | cons x l =>
    obtain ⟨ad, e, _⟩ := h.2.2 (by have := h.1; simp at this; omega)
    cases e
end Go.Proofs.Ytilgmccdpddeoaa.Hand
