/- Rows: their elements read, their cuts; owned rows made, written, appended to: no condition. -/
import Derived.Test.YtpohepinmjmbkaaGreatSlC
namespace Go.Proofs.YtpohepinmjmbkaaGreat.Sl
open Go Go.RowKit
set_option linter.unusedVariables false
set_option linter.unusedSimpArgs false
/-- Element i of a list. -/
def nth {α : Type} (z : α) (l : List α) (i : Int) : α := l.getD i.toNat z
theorem add_add (a : Addr) (i j : Nat) : (a.add i).add j = a.add (i + j) := by
  unfold Addr.add
  by_cases h1 : i = 0
  · subst h1
    by_cases h2 : j = 0
    · simp [h2]
    · simp [h2]
  · by_cases h2 : j = 0
    · simp [h1, h2]
    · simp [h1, h2, Nat.add_assoc]
section
variable {P : Program} {E : Nat → Value} {o : Oper} {w w' : World} {α : Type} {d : Kn α} {F F' : World} {A : Option Addr} {c : Nat} {xs : List α}
/-! ### 1. rows that are only read -/
theorem Rd.addr (h : Rd d F A c xs) {i : Int} (h0 : 0 ≤ i) (h1 : i < xs.length) : ∃ ad, A = some ad := by
  obtain ⟨ad, e, _⟩ := h.2.2 (by omega)
  exact ⟨ad, e⟩
theorem Rd.el {ad : Addr} (h : Rd d F (some ad) c xs) (z : α) (i : Int) (h0 : 0 ≤ i) (h1 : i < xs.length) : ∃ cs, d.K F (nth z xs i) cs ∧ ∀ (j : Nat) (u : Value), cs[j]? = some u → F.cell? ((ad.add (i.toNat * d.sz)).add j) = some u := by
  obtain ⟨ad', cs, e, hK, hc⟩ := h.get z i h0 h1
  injection e with e
  subst e
  refine ⟨cs, hK, fun j u hj => ?_⟩
  rw [add_add]
  exact hc j u hj
theorem index_run {t e : TypeId} {sz n c : Nat} {ad : Addr} {k : IntKind} {i : Int} (ht : P.underlying t = some (.slice e)) (hs : sizeB P e = some sz) (h0 : 0 ≤ i) (h1 : i < n) (w : World) : (Instr.indexAt t (.slice (some ad) n c) (.int k i)).run P w = .ok (.pointer (some (ad.add (i.toNat * sz)))) w := by
  simp [Instr.indexAt, asIntOf, run_underlying ht, run_sizeOf' hs, h0, h1]
/-- The place of an element. -/
theorem ix {t e : TypeId} {x y : Operand} (sz : Nat) {n c : Nat} {ad : Addr} {k : IntKind} {i : Int} (ho : o.op = .indexAddr t x y) (hx : ev E x = .slice (some ad) n c) (hy : ev E y = .int k i) (ht : P.underlying t = some (.slice e)) (hs : sizeB P e = some sz) (h0 : 0 ≤ i) (h1 : i < n) :
    YA P E o (.pointer (some (ad.add (i.toNat * sz)))) := fun w => by
  unfold execOp
  simp [ho, hx, hy, index_run ht hs h0 h1]
theorem YA.s {S : World → Prop} {v : Value} (h : YA P E o v) : YS P S E o v := fun w _ => h w
/-- One cell of what is only read. -/
theorem lf1 {t : TypeId} {x : Operand} {a : Addr} (v : Value) (ho : o.op = .load t x) (hx : ev E x = .pointer (some a)) (ht : aggB P t = some false) (hs : Sub F w) (hv : F.cell? a = some v) : YS P (Agr w) E o v := fun w' hw => x_load ho hx (loadAt_one ht (hw.cell (hs.cell hv)))
/-- Some cells. -/
theorem lfn {t : TypeId} {x : Operand} {a : Addr} (vs : List Value) (ho : o.op = .load t x) (hx : ev E x = .pointer (some a)) (ht : aggB P t = some true) (hz : sizeB P t = some vs.length) (hs : Sub F w) (hv : ∀ (j : Nat) (u : Value), vs[j]? = some u → F.cell? (a.add j) = some u) : YS P (Agr w) E o (.agg vs.toArray) :=
  fun w' hw => x_load ho hx (loadAt_agg ht hz (fun j u hj => hw.cell (hs.cell (hv j u hj))))
theorem cells_part {a : Addr} {vs : List Value} (off : Nat) {us : List Value} (hv : ∀ (j : Nat) (u : Value), vs[j]? = some u → F.cell? (a.add j) = some u) (hu : (vs.drop off).take us.length = us) : ∀ (j : Nat) (u : Value), us[j]? = some u → F.cell? ((a.add off).add j) = some u := fun j u hj => by
  rw [add_add]
  refine hv _ u ?_
  rw [← hu, List.getElem?_take] at hj
  split at hj
  · rwa [List.getElem?_drop] at hj
  · cases hj
/-! ### 2. cuts -/
theorem bounds_run {isSlice : Bool} {len cap : Nat} {kl kh : IntKind} {lo hi : Int} (h0 : 0 ≤ lo) (h1 : lo ≤ hi) (h2 : hi ≤ cap) (w : World) : (Instr.sliceBounds isSlice len cap (some (.int kl lo)) (some (.int kh hi)) none).run P w = .ok (lo.toNat, hi.toNat, cap) w := by
  have : (0 : Int) ≤ hi := by omega
  simp [Instr.sliceBounds, Instr.sliceBound, asIntOf, h0, this, h2, h1]
  omega
theorem bounds_lo {isSlice : Bool} {len cap : Nat} {kl : IntKind} {lo : Int} (h0 : 0 ≤ lo) (h1 : lo ≤ len) (w : World) : (Instr.sliceBounds isSlice len cap (some (.int kl lo)) none none).run P w = .ok (lo.toNat, len, cap) w := by
  simp [Instr.sliceBounds, Instr.sliceBound, asIntOf, h0, h1]
theorem bounds_hi {isSlice : Bool} {len cap : Nat} {kh : IntKind} {hi : Int} (h1 : 0 ≤ hi) (h2 : hi ≤ cap) (w : World) : (Instr.sliceBounds isSlice len cap none (some (.int kh hi)) none).run P w = .ok (0, hi.toNat, cap) w := by
  simp [Instr.sliceBounds, Instr.sliceBound, asIntOf, h1, h2]
/-- What is cut out of a row that is only read. -/
theorem Rd.cut (h : Rd d F A c xs) {lo hi : Nat} (h1 : lo ≤ hi) (h2 : hi ≤ xs.length) : ((xs.take hi).drop lo).length = hi - lo ∧ Rd d F (if c = lo then A else A.map (·.add (lo * d.sz))) (c - lo) ((xs.take hi).drop lo) := by
  have hl : ((xs.take hi).drop lo).length = hi - lo := by
    rw [List.length_drop, List.length_take, Nat.min_eq_left h2]
  refine ⟨hl, by rw [hl]; have := h.1; omega, Nat.le_trans (Nat.sub_le _ _) h.2.1, fun hn => ?_⟩
  rw [hl] at hn
  have hcl : c ≠ lo := by have := h.1; omega
  obtain ⟨ad, e, hc⟩ := h.2.2 (by omega)
  refine ⟨ad.add (lo * d.sz), by rw [if_neg hcl, e]; rfl, fun j p hj => ?_⟩
  rw [List.getElem?_drop, List.getElem?_take] at hj
  split at hj
  · obtain ⟨cs, hK, hcs⟩ := hc (lo + j) p hj
    refine ⟨cs, hK, fun i u hi => ?_⟩
    rw [add_add, show lo * d.sz + (j * d.sz + i) = (lo + j) * d.sz + i by rw [Nat.add_mul, Nat.add_assoc]]
    exact hcs i u hi
  · cases hj
theorem slice_run {t e : TypeId} {sz len cap lo hi : Nat} {low high : Option Value} (ht : P.underlying t = some (.slice e)) (hs : sizeB P e = some sz) (hb : ∀ w : World, (Instr.sliceBounds true len cap low high none).run P w = .ok (lo, hi, cap) w) (w : World) :
    (Instr.sliceAt t (.slice A len cap) low high none).run P w = .ok (.slice (if cap = lo then A else A.map (·.add (lo * sz))) (hi - lo) (cap - lo)) w := by
  simp [Instr.sliceAt, Instr.slice, run_underlying ht, run_sizeOf' hs, hb]
/-- The elements from lo on, up to hi. -/
def cutl {α : Type} (xs : List α) (lo hi : Int) : List α := (xs.take hi.toNat).drop lo.toNat
theorem cut2 {lo hi : Int} (h : Rd d F A c xs) (hc : 0 ≤ lo ∧ lo ≤ hi ∧ hi ≤ (xs.length : Int)) {t e : TypeId} (ht : P.underlying t = some (.slice e)) (hs : sizeB P e = some d.sz) :
    ∃ A' c', Rd d F A' c' (cutl xs lo hi) ∧ ∀ {E : Nat → Value} {o : Oper} {x y z : Operand} {k k' : IntKind}, o.op = .slice t x (some y) (some z) none → ev E x = .slice A xs.length c → ev E y = .int k lo → ev E z = .int k' hi → YA P E o (.slice A' (cutl xs lo hi).length c') := by
  obtain ⟨h0, h1, h2⟩ := hc
  obtain ⟨h3, h4⟩ := h.cut (lo := lo.toNat) (hi := hi.toNat) (by omega) (by omega)
  refine ⟨_, _, h4, fun ho hx hy hz w => ?_⟩
  have hb := fun kl kh w => bounds_run (P := P) (isSlice := true) (len := xs.length) (cap := c) (kl := kl) (kh := kh) h0 h1 (by have := h.1; omega) w
  unfold execOp
  simp only [ho, hx, Option.map_some, Option.map_none, hy, hz, Sem.run_bind, slice_run ht hs (hb _ _), Result.andThen_ok]
  rw [← h3]
  rfl
theorem cutlo {lo : Int} (h : Rd d F A c xs) (hc : 0 ≤ lo ∧ lo ≤ (xs.length : Int)) {t e : TypeId} (ht : P.underlying t = some (.slice e)) (hs : sizeB P e = some d.sz) :
    ∃ A' c', Rd d F A' c' (cutl xs lo (xs.length : Int)) ∧ ∀ {E : Nat → Value} {o : Oper} {x y : Operand} {k : IntKind}, o.op = .slice t x (some y) none none → ev E x = .slice A xs.length c → ev E y = .int k lo → YA P E o (.slice A' (cutl xs lo (xs.length : Int)).length c') := by
  obtain ⟨h0, h1⟩ := hc
  obtain ⟨h3, h4⟩ := h.cut (lo := lo.toNat) (hi := xs.length) (by omega) (by omega)
  refine ⟨_, _, h4, fun ho hx hy w => ?_⟩
  have hb := fun kl w => bounds_lo (P := P) (isSlice := true) (len := xs.length) (cap := c) (kl := kl) h0 h1 w
  unfold execOp
  simp only [ho, hx, Option.map_some, Option.map_none, hy, Sem.run_bind, slice_run ht hs (hb _), Result.andThen_ok]
  rw [← h3]
  rfl
theorem cuthi {hi : Int} (h : Rd d F A c xs) (hc : 0 ≤ hi ∧ hi ≤ (xs.length : Int)) {t e : TypeId} (ht : P.underlying t = some (.slice e)) (hs : sizeB P e = some d.sz) :
    ∃ A' c', Rd d F A' c' (cutl xs 0 hi) ∧ ∀ {E : Nat → Value} {o : Oper} {x z : Operand} {k : IntKind}, o.op = .slice t x none (some z) none → ev E x = .slice A xs.length c → ev E z = .int k hi → YA P E o (.slice A' (cutl xs 0 hi).length c') := by
  obtain ⟨h0, h1⟩ := hc
  obtain ⟨h3, h4⟩ := h.cut (lo := 0) (hi := hi.toNat) (by omega) (by omega)
  refine ⟨_, _, h4, fun ho hx hz w => ?_⟩
  have hb := fun kh w => bounds_hi (P := P) (isSlice := true) (len := xs.length) (cap := c) (kh := kh) h0 (by have := h.1; omega) w
  unfold execOp
  simp only [ho, hx, Option.map_some, Option.map_none, hz, Sem.run_bind, slice_run ht hs (hb _), Result.andThen_ok]
  rw [← h3]
  rfl
theorem len_sl {t e : TypeId} {x : Operand} {n : Nat} (ho : o.op = .call { callee := .builtin .len, args := #[x], argTypes := #[t] }) (hx : ev E x = .slice A n c) (ht : P.underlying t = some (.slice e)) : YA P E o (.int .i64 n) := fun w => by
  unfold execOp
  simp [ho, resolve, invoke, builtin, Builtin.len_, run_underlying ht, hx, goInt]
theorem len_str {t : TypeId} {x : Operand} {s : ByteArray} (ho : o.op = .call { callee := .builtin .len, args := #[x], argTypes := #[t] }) (hx : ev E x = .string s) (ht : P.underlying t = some .string) : YA P E o (.int .i64 s.size) := fun w => by
  unfold execOp
  simp [ho, resolve, invoke, builtin, Builtin.len_, run_underlying ht, hx, goInt]
theorem cell_at {p : Addr} {cs : List Value} (hc : ∀ (j : Nat) (u : Value), cs[j]? = some u → F.cell? (p.add j) = some u) (i j : Nat) {u : Value} (h : cs[i + j]? = some u) : F.cell? ((p.add i).add j) = some u := by
  rw [add_add]
  exact hc _ u h
end
end Go.Proofs.YtpohepinmjmbkaaGreat.Sl
