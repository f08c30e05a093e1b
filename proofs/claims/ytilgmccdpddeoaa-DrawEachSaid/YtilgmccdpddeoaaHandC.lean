/- Words of my own: copy of elements of several cells into a row; zeros appended where there is no room; an element put in between. -/
import Derived.Test.YtilgmccdpddeoaaHandW
import Derived.Test.YtilgmccdpddeoaaWZeros
import Derived.Test.YtilgmccdpddeoaaWArr
import Derived.Laws.CopyRow
import Derived.Laws.CopyOwn
import Derived.Lib.Overlaps
import Derived.Lib.AppendZeros
import Derived.Laws.Externs
import Derived.Shelf.RegionOpenPlain
namespace Go.Proofs.Ytilgmccdpddeoaa.Hand
open Go.RowKit Go.Proofs.YtilgmccdpddeoaaW.PrintWords
section
variable {P : Program}
theorem run_copy_k (w : World) (dT sT ty elem : TypeId) (g o dLen dCap : Nat) (a : Addr) (sLen sCap sz : Nat) (cur : Array Value) (t : TypeId) (cs : List Value)
    (hu : P.underlying dT = some (.slice elem)) (hs : (P.info? elem).map (·.size) = some sz)
    (hg : w.heap[g]? = some (.cells cur t (0, 0))) (hn : cs.length = Nat.min sLen dLen * sz)
    (hsrc : ∀ j v, cs[j]? = some v → w.cell? (a.add j) = some v) (hfit : o + cs.length ≤ cur.size) (h1 : ∀ v ∈ cs, v.oneCell' = true) :
    (Builtin.copy_ #[dT, sT] ty #[.slice (some ⟨g, o, none⟩) dLen dCap, .slice (some a) sLen sCap]).run P w =
      .ok (goInt (Nat.min sLen dLen)) (w.setRow g (cur.toList.take o ++ cs ++ cur.toList.drop (o + cs.length)).toArray) := by
  have hl := run_loadCells_list (P := P) w a cs hsrc
  have hst := run_storeCells_at P g o t cs 0 cur w hg (by simpa using hfit) h1
  cases hq : P.info? elem with
  | none => simp [hq] at hs
  | some i =>
    have hi : i.size = sz := by simpa [hq] using hs
    simp [Builtin.copy_, run_underlying hu, Builtin.lenOf, Builtin.firstCells, sizeOf, typeInfo, hq, hi, ← hn, hl, hst]
theorem wpList_copy_run (w : World) {ops : Array Oper} {rest : List Oper} {o : Oper} {a : Act} {Q : Exit → Act → World → Prop} (hgd : o.guard = none) (d s : Operand) (t t' : TypeId)
    (ho : o.op = .call { callee := .builtin .copy, args := #[d, s], argTypes := #[t, t'] }) (v u : Value) (hd : a.eval d = v) (hs : a.eval s = u) {v' : Value} {w' : World}
    (hr : (Builtin.copy_ #[t, t'] o.type #[v, u]).run P w = .ok v' w') (h : wpList P ops Q rest (a.put o.dst v') w') : wpList P ops Q (o :: rest) a w := by
  refine wpList_plain hgd fun K hK => ?_
  unfold Oper.wp execOp
  simp only [ho, resolve, invoke, builtin, Sem.run_bind, Sem.run_pure, Result.andThen_ok, List.map_toArray, List.map_cons, List.map_nil, hd, hs, hr]
  exact hK _ _ h
theorem step_copy_run {ops : Array Oper} {o : Oper} {a : Act} {w : World} {K : Act → World → Prop} {Q : Exit → Act → World → Prop} {E : Prop}
    (hg : o.guard = none) (d x : Operand) (dT sT : TypeId) (hop : o.op = Op.call { callee := Callee.builtin Builtin.copy, args := #[d, x], argTypes := #[dT, sT] })
    (v u : Value) (hd : a.eval d = v) (hx : a.eval x = u) {v' : Value} {w' : World} (hr : (Builtin.copy_ #[dT, sT] o.type #[v, u]).run P w = .ok v' w') (hK : K (a.put o.dst v') w') :
    if Region.wanted o (yielded ops a.tmps) = true then Oper.wp P o a w K Q else E := by
  have hw : Region.wanted o (yielded ops a.tmps) = true := by simp [Region.wanted, hg]
  rw [if_pos hw]
  unfold Oper.wp
  simp [execOp, hop, resolve, invoke, builtin, hd, hx, hr, Result.andThen]
  exact hK
/-- append(s[:n], make(S, m)...) where there is no room: a new row. -/
theorem run_zeros_grow (w : World) (t ti ty e : TypeId) (i : TypeInfo) (z : Value) (ht : P.underlying t = some (.slice e)) {k : IntKind} (hti : P.underlying ti = some (.int k)) (hi : P.info? e = some i) (hz : i.zero = some z)
    (hsz : 0 < i.size) (hb0 : 0 < i.bytes) (A : Option Addr) (n cap : Nat) (xs : List Value) (hf : (Builtin.firstCells i.size n (.slice A n cap)).run P w.drew = .ok xs.toArray w.drew) (kx : IntKind) (m : Nat) (hm : m ≠ 0)
    (hbytes : (n + m) * i.bytes ≤ 140737488355328) (hcap : cap < n + m) :
    (Builtin.append_ #[t, ti] ty #[.slice A n cap, .int kx m]).run P w =
      .ok (.slice (some ⟨w.heap.size, 0, none⟩) (n + m) (grownCap w (n + m) cap e)) (w.drew.alloc (.cells (xs.toArray ++ Builtin.zeroCells z.cells m ++ Builtin.zeroCells z.cells (grownCap w (n + m) cap e - (n + m))) e)) := by
  have hle : n + m ≤ 140737488355328 := Nat.le_trans (Nat.le_mul_of_pos_right _ hb0) hbytes
  have hw : IntKind.i64.wrap (m : Int) = m := by rw [IntKind.wrap_i64]; omega
  have hneg : ¬ ((m : Int) < 0) := by omega
  have hmb : m * i.bytes ≤ 140737488355328 := Nat.le_trans (Nat.mul_le_mul_right _ (Nat.le_add_left m n)) hbytes
  have hbig : ¬ (281474976710656 < (m : Int) * (i.bytes : Int)) := by
    rw [← Int.natCast_mul]
    omega
  have hsn : i.size ≠ 0 := by omega
  have hn : ¬ (n + m ≤ cap) := by omega
  have h63' : ¬ (9223372036854775807 < ((n : Int) + (m : Int))) := by omega
  have hfit := growslice_fits hcap hbytes
  have h48' : ¬ (281474976710656 < Builtin.nextslicecap (n + m) cap * i.bytes) := by omega
  have hmz : ¬ (m * i.size = 0) := Nat.mul_ne_zero hm hsn
  obtain ⟨news, hnews⟩ : ∃ news, Builtin.zeroCells z.cells m = news := ⟨_, rfl⟩
  rw [hnews]
  simp [Builtin.append_, run_underlying ht, run_underlying hti, sizeOf, typeInfo, zeroValue, hi, hz, asInt, asIntOf, hw, hneg, hbig, hn, h63', h48', Question.forced, hf, newRow, grownCap, hmz, hnews]
theorem wpList_append_run2 (w : World) {ops : Array Oper} {rest : List Oper} {o : Oper} {a : Act} {Q : Exit → Act → World → Prop} (hgd : o.guard = none) (s x : Operand) (t tn : TypeId)
    (ho : o.op = .call { callee := .builtin .append, args := #[s, x], argTypes := #[t, tn] }) (v u : Value) (hs : a.eval s = v) (hx : a.eval x = u) {v' : Value} {w' : World}
    (hr : (Builtin.append_ #[t, tn] o.type #[v, u]).run P w = .ok v' w') (h : wpList P ops Q rest (a.put o.dst v') w') : wpList P ops Q (o :: rest) a w := by
  refine wpList_plain hgd fun K hK => ?_
  unfold Oper.wp execOp
  simp only [ho, resolve, invoke, builtin, Sem.run_bind, Sem.run_pure, Result.andThen_ok, List.map_toArray, List.map_cons, List.map_nil, hs, hx, hr]
  exact hK _ _ h
end
section
variable {α : Type} {d : Kd α} {e : Nat} {w : World}
/-- A row of one element, of which its block is known. -/
theorem C_one {vb : Nat} {x : α} {cs : List Value} {t : Nat} {fz : Nat × Nat} (h : w.heap[vb]? = some (.cells cs.toArray t fz)) (hK : d.K w x cs) : Kd.C d w (some ⟨vb, 0, none⟩) 1 [x] := by
  refine ⟨rfl, by omega, fun _ => ⟨_, rfl, fun j p hj => ?_⟩⟩
  have hj0 : j = 0 := by
    have := (List.getElem?_eq_some_iff.1 hj).1
    simp at this
    exact this
  subst hj0
  have hp : x = p := by simpa using hj
  subst hp
  refine ⟨cs, d.K_len hK, hK, fun i u hi => ?_⟩
  have : (⟨vb, 0, none⟩ : Addr).add (0 * d.sz + i) = ⟨vb, i, none⟩ := by unfold Addr.add; split <;> simp_all
  rw [this]
  simp [World.cell?, h, hi]
theorem M_carry {w' : World} {base : Nat} {ok ok' : Nat → Prop} {x : α} {cs : List Value} (h : d.M w base ok x cs) (hm : ∀ k, ok k → k < w.heap.size → w'.heap[k]? = w.heap[k]?) (hk : ∀ k, ok k → k < w.heap.size → ok' k) : d.M w' base ok' x cs :=
  d.M_mono (fun k h2 => hk k h2.1 h2.2.2.1) (d.M_move (fun k h2 => hm k h2.1 h2.2.2.1) (d.M_bound h))
theorem reps_carry {w' : World} {base : Nat} {ok ok' : Nat → Prop} {xs : List α} {cs : List Value} (h : Reps (d.M w base ok) d.sz xs cs) (hm : ∀ k, ok k → k < w.heap.size → w'.heap[k]? = w.heap[k]?) (hk : ∀ k, ok k → k < w.heap.size → ok' k) : Reps (d.M w' base ok') d.sz xs cs :=
  h.imp_ (fun _ _ hp => M_carry hp hm hk)
theorem reps_one' {w : World} {base : Nat} {ok : Nat → Prop} {xs : List α} {cs : List Value} (h : Reps (d.M w base ok) d.sz xs cs) (hs0 : 0 < d.sz) : ∀ u ∈ cs, u.oneCell' = true :=
  Kd.reps_one h hs0 (fun _ _ hp => d.K_one (d.K_of_M hp))
theorem reads_one {R : α → List Value → Prop} {sz vb : Nat} {x : α} {cs : List Value} {cv : Array Value} {t : Nat} {fz : Nat × Nat} (h : w.heap[vb]? = some (.cells cv t fz)) (hc : ∀ (m : Nat) (v : Value), cs[m]? = some v → cv[m]? = some v) (hl : cs.length = sz) (hR : R x cs) : ReadsRow R sz w (some ⟨vb, 0, none⟩) 1 [x] := by
  refine ⟨rfl, by omega, fun _ => ⟨_, rfl, fun j p hj => ?_⟩⟩
  have hj0 : j = 0 := by
    have := (List.getElem?_eq_some_iff.1 hj).1
    simp at this
    exact this
  subst hj0
  have hp : x = p := by simpa using hj
  subst hp
  refine ⟨cs, hl, hR, fun i u hi => ?_⟩
  have : (⟨vb, 0, none⟩ : Addr).add (0 * sz + i) = ⟨vb, i, none⟩ := by unfold Addr.add; split <;> simp_all
  rw [this]
  simp [World.cell?, h]
  exact hc i u hi
/-- A row of the call's own with one element: its block, its cells. -/
theorem R_one {base e : Nat} {ok : Nat → Prop} {v : Value} {x : α} (h : d.R e w base ok v [x]) : ∃ (vb vc : Nat) (cv : Array Value) (cs : List Value), v = .slice (some ⟨vb, 0, none⟩) 1 vc ∧ w.heap[vb]? = some (.cells cv e (0, 0)) ∧ (∀ (m : Nat) (u : Value), cs[m]? = some u → cv[m]? = some u) ∧ d.M w base (fun k => ok k ∧ k ≠ vb) x cs ∧ ok vb := by
  obtain ⟨h0, inner, ⟨hl, hf⟩, hr⟩ := h
  rcases hf with ⟨_, hn⟩ | ⟨g, cap, cur, rfl, hbg, hg, hnc, hcm, hcs, ht⟩
  · simp at hn
  · have h1 := hr.2 0 x rfl
    have hil : inner.length = d.sz := by simpa using hl
    rw [Nat.zero_mul, List.drop_zero, ← hil, List.take_length] at h1
    refine ⟨g, cap, cur, inner, rfl, hg, fun m u hm => ?_, d.M_mono (fun k hk => ⟨hk.1, fun h => hk.2 (by rw [h]; rfl)⟩) h1, h0 g rfl⟩
    rw [← ht, List.getElem?_take] at hm
    split at hm
    · simpa using hm
    · cases hm
/-- A row, out of its cells as they lie at last: an element put in between. -/
theorem R_insert {w' : World} {base : Nat} {ok : Nat → Prop} {g' n cap' i : Nat} {xs : List α} {x : α} {inner cs : List Value} {cur' : Array Value}
    (hrep : Reps (d.M w' base (fun k => ok k ∧ k ≠ g')) d.sz xs inner) (hx : d.M w' base (fun k => ok k ∧ k ≠ g') x cs) (hn : xs.length = n) (hi : i ≤ n) (hok : ok g') (hbase : base ≤ g')
    (hg : w'.heap[g']? = some (.cells cur' e (0, 0))) (hc : n + 1 ≤ cap') (hm : cap' ≤ maxLen) (hs : cur'.size = cap' * d.sz)
    (ht : cur'.toList.take ((n + 1) * d.sz) = inner.take (i * d.sz) ++ cs ++ inner.drop (i * d.sz)) :
    d.R e w' base ok (.slice (some ⟨g', 0, none⟩) (n + 1) cap') (xs.take i ++ x :: xs.drop i) := by
  have hcl : cs.length = d.sz := d.K_len (d.K_of_M hx)
  have hone : Reps (d.M w' base (fun k => ok k ∧ k ≠ g')) d.sz [x] cs := by
    have := (Reps.none (d.M w' base (fun k => ok k ∧ k ≠ g')) d.sz).snoc hx hcl
    simpa using this
  have hr := Kd.reps_append (Kd.reps_append (Kd.reps_take hrep (m := i) (by omega)) hone) (Kd.reps_drop hrep (m := i))
  have hlen : (xs.take i ++ x :: xs.drop i).length = n + 1 := by
    simp
    omega
  have he : ∀ k, some k = (Value.slice (some ⟨g', 0, none⟩) (n + 1) cap').ownBlock → k = g' := fun k hk => by
    simpa [Value.ownBlock] using hk
  refine ⟨fun k hk => by rw [he k hk.symm]; exact hok, inner.take (i * d.sz) ++ cs ++ inner.drop (i * d.sz), ⟨?_, .inr ⟨g', cap', cur', by rw [hlen], hbase, hg, by rw [hlen]; exact hc, hm, hs, by rw [hlen]; exact ht⟩⟩, ?_⟩
  · rw [hr.1]
    simp
  · have hr2 : Reps (d.M w' base (fun k => ok k ∧ k ≠ g')) d.sz (xs.take i ++ x :: xs.drop i) (inner.take (i * d.sz) ++ cs ++ inner.drop (i * d.sz)) := by simpa using hr
    exact hr2.imp_ (fun p c hp => d.M_mono (fun k hk => ⟨hk.1, fun h => hk.2 (he k h)⟩) hp)
/-- .. in place: what lay behind is moved, then the element is put. -/
theorem splice_in {sz n i cap : Nat} {cur inner cs : List Value} (ht : cur.take (n * sz) = inner) (hcl : cs.length = sz) (hi : i ≤ n) (hn : n + 1 ≤ cap) (hs : cur.length = cap * sz) :
    let c1 := cur.take ((i + 1) * sz) ++ inner.drop (i * sz) ++ cur.drop ((i + 1) * sz + (inner.drop (i * sz)).length)
    let c2 := c1.take (i * sz) ++ cs ++ c1.drop (i * sz + cs.length)
    c2.take ((n + 1) * sz) = inner.take (i * sz) ++ cs ++ inner.drop (i * sz) ∧ c2.length = cap * sz ∧ c1.length = cap * sz := by
  have h1 : n * sz + sz ≤ cap * sz := by rw [← Nat.succ_mul]; exact Nat.mul_le_mul_right _ hn
  have h2 : i * sz ≤ n * sz := Nat.mul_le_mul_right _ hi
  have hil : inner.length = n * sz := by rw [← ht, List.length_take, hs]; omega
  have hid : (inner.drop (i * sz)).length = n * sz - i * sz := by rw [List.length_drop, hil]
  rw [Nat.add_mul, Nat.one_mul, Nat.add_mul n 1, Nat.one_mul]
  intro c1 c2
  have hc1 : c1.length = cap * sz := by
    simp only [c1, List.length_append, List.length_take, List.length_drop, hs, hil]
    omega
  have hc2 : c2.length = cap * sz := by
    simp only [c2, List.length_append, List.length_take, List.length_drop, hc1, hcl]
    omega
  refine ⟨?_, hc2, hc1⟩
  apply List.ext_getElem?
  intro j
  have e1 : ∀ m, m < i * sz + sz → c1[m]? = cur[m]? := by
    intro m hm
    simp only [c1]
    rw [List.getElem?_append_left (by simp only [List.length_append, List.length_take, hs]; omega), List.getElem?_append_left (by simp only [List.length_take, hs]; omega), List.getElem?_take]
    rw [if_pos (by omega)]
  have e2 : ∀ m, i * sz + sz ≤ m → m < n * sz + sz → c1[m]? = inner[m - sz]? := by
    intro m hm hm2
    simp only [c1]
    rw [List.getElem?_append_left (by simp only [List.length_append, List.length_take, hs, hid]; omega), List.getElem?_append_right (by simp only [List.length_take, hs]; omega), List.getElem?_drop]
    congr 1
    simp only [List.length_take, hs]
    omega
  have e0 : ∀ m, m < n * sz → inner[m]? = cur[m]? := by
    intro m hm
    rw [← ht, List.getElem?_take, if_pos hm]
  have hlt : (inner.take (i * sz)).length = i * sz := by rw [List.length_take, hil]; omega
  rw [List.getElem?_take]
  by_cases hj : j < n * sz + sz
  · rw [if_pos hj]
    by_cases ha : j < i * sz
    · have l : c2[j]? = cur[j]? := by
        simp only [c2]
        rw [List.getElem?_append_left (by simp only [List.length_append, List.length_take, hc1]; omega), List.getElem?_append_left (by simp only [List.length_take, hc1]; omega), List.getElem?_take, if_pos ha, e1 j (by omega)]
      rw [l, List.getElem?_append_left (by rw [List.length_append, hlt]; omega), List.getElem?_append_left (by rw [hlt]; omega), List.getElem?_take, if_pos ha, e0 j (by omega)]
    · by_cases hb : j < i * sz + sz
      · have l : c2[j]? = cs[j - i * sz]? := by
          simp only [c2]
          rw [List.getElem?_append_left (by simp only [List.length_append, List.length_take, hc1]; omega), List.getElem?_append_right (by simp only [List.length_take, hc1]; omega)]
          congr 1
          simp only [List.length_take, hc1]
          omega
        rw [l, List.getElem?_append_left (by rw [List.length_append, hlt]; omega), List.getElem?_append_right (by rw [hlt]; omega), hlt]
      · have l : c2[j]? = inner[j - sz]? := by
          simp only [c2]
          rw [List.getElem?_append_right (by simp only [List.length_append, List.length_take, hc1]; omega), List.getElem?_drop, hcl]
          have e3 : i * sz + sz + (j - (c1.take (i * sz) ++ cs).length) = j := by
            simp only [List.length_append, List.length_take, hc1, hcl]
            omega
          rw [e3, e2 j (by omega) hj]
        rw [l, List.getElem?_append_right (by rw [List.length_append, hlt]; omega), List.getElem?_drop, List.length_append, hlt, hcl]
        congr 1
        omega
  · rw [if_neg hj, List.getElem?_eq_none (by simp only [List.length_append, hlt, hcl, hid]; omega)]
/-- .. in a new row: the elements ahead, zeros; then the element is put, then what lay behind. -/
theorem splice_new {sz n i cap : Nat} {c0 inner cs : List Value} (ht : c0.take (i * sz) = inner.take (i * sz)) (hil : inner.length = n * sz) (hcl : cs.length = sz) (hi : i ≤ n) (hn : n + 1 ≤ cap) (hs : c0.length = cap * sz) :
    let c1 := c0.take (i * sz) ++ cs ++ c0.drop (i * sz + cs.length)
    let c2 := c1.take ((i + 1) * sz) ++ inner.drop (i * sz) ++ c1.drop ((i + 1) * sz + (inner.drop (i * sz)).length)
    c2.take ((n + 1) * sz) = inner.take (i * sz) ++ cs ++ inner.drop (i * sz) ∧ c2.length = cap * sz ∧ c1.length = cap * sz := by
  have h1 : n * sz + sz ≤ cap * sz := by rw [← Nat.succ_mul]; exact Nat.mul_le_mul_right _ hn
  have h2 : i * sz ≤ n * sz := Nat.mul_le_mul_right _ hi
  have hid : (inner.drop (i * sz)).length = n * sz - i * sz := by rw [List.length_drop, hil]
  have hlt : (inner.take (i * sz)).length = i * sz := by rw [List.length_take, hil]; omega
  rw [Nat.add_mul, Nat.one_mul, Nat.add_mul n 1, Nat.one_mul]
  intro c1 c2
  have hc1 : c1.length = cap * sz := by
    simp only [c1, List.length_append, List.length_take, List.length_drop, hs, hcl]
    omega
  have hc2 : c2.length = cap * sz := by
    simp only [c2, List.length_append, List.length_take, List.length_drop, hc1, hil]
    omega
  refine ⟨?_, hc2, hc1⟩
  have t1 : c1.take (i * sz + sz) = inner.take (i * sz) ++ cs := by
    simp only [c1]
    rw [ht]
    exact List.take_left' (by rw [List.length_append, hlt, hcl])
  simp only [c2]
  rw [t1]
  exact List.take_left' (by rw [List.length_append, List.length_append, hlt, hcl, hid]; omega)
end
end Go.Proofs.Ytilgmccdpddeoaa.Hand
