/- Zeros appended to a row of one's own (append(s, make([]T, k)...)): no condition. -/
import Derived.Test.YtpohepinmjmbkaaGreatSlE
import Derived.Lib.AppendZerosOnto
namespace Go.Proofs.YtpohepinmjmbkaaGreat.Sl
open Go Go.RowKit
set_option linter.unusedVariables false
set_option linter.unusedSimpArgs false
section
variable {α : Type} {d : Kn α} {F : World}
/-- The cells of k zeros. -/
theorem zeros_get (z : Array Value) (k j : Nat) (h : j < k * z.size) : (Builtin.zeroCells z k).toList[j]? = z.toList[j % z.size]? := by
  have hp : 0 < z.size := by
    rcases Nat.eq_zero_or_pos z.size with h0 | h0
    · rw [h0] at h; simp at h
    · exact h0
  have hm := Nat.mod_lt j hp
  have hj : j < (Builtin.zeroCells z k).size := by rw [size_zeroCells]; exact h
  rw [Array.getElem?_toList, Array.getElem?_eq_getElem hj, Array.getElem?_toList, Array.getElem?_eq_getElem hm]
  simp only [Builtin.zeroCells, Array.getElem_map, Array.getElem_range]
  rw [getElem!_pos z (j % z.size) hm]
theorem zeros_reps {z : Array Value} (zd : α) (hK : d.K F zd z.toList) (k : Nat) : RepsK d F (List.replicate k zd) (Builtin.zeroCells z k).toList := by
  have hsz : z.size = d.sz := by have := d.len hK; simpa using this
  have hlen : (Builtin.zeroCells z k).toList.length = k * d.sz := by
    rw [Array.length_toList, size_zeroCells, hsz]
  refine ⟨by rw [hlen, List.length_replicate], fun j p hj => ?_⟩
  have hjk : j < k := by
    have := (List.getElem?_eq_some_iff.1 hj).1
    simpa using this
  rw [List.getElem?_replicate, if_pos hjk] at hj
  injection hj with hj
  subst hj
  have hle : j * d.sz + d.sz ≤ k * d.sz := by
    rw [← Nat.succ_mul]
    exact Nat.mul_le_mul_right _ hjk
  have e : ((Builtin.zeroCells z k).toList.drop (j * d.sz)).take d.sz = z.toList := by
    apply List.ext_getElem?
    intro i
    rw [List.getElem?_take]
    split
    · rename_i hi
      rw [List.getElem?_drop, zeros_get z k _ (by rw [hsz]; omega), hsz, Nat.add_comm, Nat.add_mul_mod_self_right, Nat.mod_eq_of_lt hi]
    · rw [List.getElem?_eq_none]
      simp only [Array.length_toList, hsz]
      omega
  rw [e]
  exact hK
variable {W0 W F0 w' : World} {N : Nat → Prop} {L : List Asrt} {P : Program} {E : Nat → Value} {o : Oper} {e : TypeId} {A : Option Addr} {c n : Nat} {xs : List α}
theorem run_zeros_room {t tn ty e : TypeId} {i : TypeInfo} {z : Value} {kq kn : IntKind} (ht : P.underlying t = some (.slice e)) (htn : P.underlying tn = some (.int kn)) (hi : P.info? e = some i) (hz : i.zero = some z) (hzs : z.cells.size = i.size) (hz1 : ∀ u ∈ z.cells.toList, u.oneCell' = true)
    {g sLen sCap : Nat} {cur : Array Value} (hg : W.heap[g]? = some (.cells cur e (0, 0))) {k : Nat} (h0 : 0 < k) (hs : 0 < i.size) (hroom : sLen + k ≤ sCap) (hfit : sLen * i.size + k * i.size ≤ cur.size) (hkm : k ≤ 9223372036854775807) (h48 : k * i.bytes ≤ 281474976710656) :
    (Builtin.append_ #[t, tn] ty #[.slice (some ⟨g, 0, none⟩) sLen sCap, .int kq k]).run P W =
      .ok (.slice (some ⟨g, 0, none⟩) (sLen + k) sCap) (W.setRow g (cur.toList.take (sLen * i.size) ++ (Builtin.zeroCells z.cells k).toList ++ cur.toList.drop (sLen * i.size + k * i.size)).toArray) := by
  have hk : k ≠ 0 := by omega
  have hw : IntKind.i64.wrap (k : Int) = k := by rw [IntKind.wrap_i64]; omega
  have h48i : ¬ (281474976710656 < (k : Int) * (i.bytes : Int)) := by
    rw [← Int.natCast_mul]
    omega
  have hneg : ¬ ((k : Int) < 0) := by omega
  have hns : ¬ (k * i.size = 0) := Nat.mul_ne_zero hk (by omega)
  have hzl : (Builtin.zeroCells z.cells k).toList.length = k * i.size := by rw [Array.length_toList, size_zeroCells, hzs]
  have hst := run_storeCells_at P g (sLen * i.size) e (Builtin.zeroCells z.cells k).toList 0 cur W hg (by rw [hzl]; simpa using hfit) (fun u hu => by
    obtain ⟨q, hq, rfl⟩ := List.mem_iff_getElem.1 hu
    have h1 := zeros_get z.cells k q (by rw [hzl] at hq; rw [hzs]; exact hq)
    rw [List.getElem?_eq_getElem hq] at h1
    exact hz1 _ (List.mem_of_getElem? h1.symm))
  rw [hzl] at hst
  simp only [Nat.add_zero] at hst
  simp [Builtin.append_, run_underlying ht, run_underlying htn, sizeOf, typeInfo, zeroValue, hi, hz, asInt, asIntOf, hw, hneg, hns, h48i, hroom, Addr.add_lit, hst]
/-- append(row, make([]T, k)...). -/
theorem e_append0 {t tn : TypeId} {x y : Operand} {k : Int} {kn : IntKind} {bytes : Nat} {z : Value} (zd : α) (h : St W0 N F0 W F (row d e (.slice A n c) xs :: L)) (ho : o.op = .call { callee := .builtin .append, args := #[x, y], argTypes := #[t, tn] }) (hx : ev E x = .slice A n c) (hy : ev E y = .int .i64 k)
    (ht : P.underlying t = some (.slice e)) (htn : P.underlying tn = some (.int kn)) (hi : (P.info? e).map (fun i => (i.zero, i.size, i.bytes)) = some (some z, d.sz, bytes)) (hs0 : Nat.blt 0 d.sz = true) (hb0 : Nat.blt 0 bytes = true) (hK : d.K F zd z.cells.toList)
    (hl : 0 ≤ k ∧ ((xs.length : Int) + k) * (bytes : Int) ≤ 140737488355328) :
    Eff P E o W (fun v w' => ∃ A' c', v = .slice A' (xs ++ List.replicate k.toNat zd).length c' ∧ St W0 N F0 w' F (row d e (.slice A' (xs ++ List.replicate k.toNat zd).length c') (xs ++ List.replicate k.toNat zd) :: L) ∧ W.heap.size ≤ w'.heap.size) := by
  obtain ⟨hk0, hl⟩ := hl
  obtain ⟨m, rfl⟩ : ∃ m : Nat, k = m := ⟨k.toNat, by omega⟩
  simp only [Int.toNat_natCast]
  obtain ⟨i0, hi0, hzz⟩ := Option.map_eq_some_iff.1 hi
  simp only [Prod.mk.injEq] at hzz
  obtain ⟨hz0, hz1, hz2⟩ := hzz
  have hs0 : 0 < d.sz := by simpa [Nat.blt_eq] using hs0
  have hb0 : 0 < bytes := by simpa [Nat.blt_eq] using hb0
  have hlN : (xs.length + m) * bytes ≤ 140737488355328 := by
    have : (((xs.length + m) * bytes : Nat) : Int) ≤ 140737488355328 := by
      rw [Int.natCast_mul, Int.natCast_add]
      exact hl
    omega
  have hlen : xs.length + m ≤ 140737488355328 := Nat.le_trans (Nat.le_mul_of_pos_right _ hb0) hlN
  have hmb : m * bytes ≤ 140737488355328 := Nat.le_trans (Nat.mul_le_mul_right _ (Nat.le_add_left _ _)) hlN
  have hzs : z.cells.size = d.sz := by have := d.len hK; simpa using this
  obtain ⟨hn, hxc, hcm, _⟩ := row_form h.own.head
  subst hn
  have hexec : ∀ v w1, (Builtin.append_ #[t, tn] o.type #[.slice A xs.length c, .int .i64 (m : Int)]).run P W = .ok v w1 → (execOp (ev E) o).run P W = .ok (.value v) w1 := fun v w1 hr => by
    unfold execOp
    simp [ho, resolve, invoke, builtin, hx, hy, hr]
  have hhead := h.own.head
  obtain ⟨inner, hown, hr⟩ := hhead
  have hzr := zeros_reps (F := F) zd hK m
  have hzl : (Builtin.zeroCells z.cells m).toList.length = m * d.sz := by rw [Array.length_toList, size_zeroCells, hzs]
  rcases Nat.eq_zero_or_pos m with h0 | h0
  · subst h0
    have hrun : (Builtin.append_ #[t, tn] o.type #[.slice A xs.length c, .int .i64 ((0 : Nat) : Int)]).run P W = .ok (.slice A xs.length c) W := by
      have hw0 : IntKind.i64.wrap 0 = 0 := by rw [IntKind.wrap_i64]; omega
      rcases A with _ | a
      · simp [Builtin.append_, run_underlying ht, run_underlying htn, sizeOf, typeInfo, hi0, asInt, asIntOf, hw0, hxc]
      · simp [Builtin.append_, run_underlying ht, run_underlying htn, sizeOf, typeInfo, hi0, asInt, asIntOf, hw0, hxc, storeCells]
    refine Eff.run (hexec _ _ hrun) ⟨A, c, ?_, ?_⟩
    · rw [List.replicate_zero, List.append_nil]
    · rw [List.replicate_zero, List.append_nil]
      exact ⟨h, Nat.le_refl _⟩
  · have hll : (xs ++ List.replicate m zd).length = xs.length + m := by simp
    by_cases hroom : xs.length + m ≤ c
    · obtain ⟨g, cur, rfl, hg, hcs, htk⟩ : ∃ g cur, A = some ⟨g, 0, none⟩ ∧ W.heap[g]? = some (.cells cur e (0, 0)) ∧ cur.size = c * d.sz ∧ cur.toList.take (xs.length * d.sz) = inner := by
        rcases hown.2 with ⟨hv, hq⟩ | ⟨g, cap, cur, hv, _, hg, _, _, hz, htk⟩
        · injection hv with _ _ h5
          omega
        · injection hv with h3 _ h5
          subst h5
          exact ⟨g, cur, h3, hg, hz, htk⟩
      have hfit : xs.length * i0.size + m * i0.size ≤ cur.size := by
        rw [hcs, hz1, ← Nat.add_mul]
        exact Nat.mul_le_mul_right _ hroom
      have hrun := run_zeros_room (P := P) (W := W) (ty := o.type) (kq := .i64) ht htn hi0 hz0 (by rw [hzs, hz1]) (d.one hK) hg h0 (by rw [hz1]; exact hs0) hroom hfit (by omega) (by rw [hz2]; omega)
      refine Eff.run (hexec _ _ hrun) ⟨some ⟨g, 0, none⟩, c, by rw [hll], ?_, (setRow_rest W g _).2.2.2⟩
      rw [hll]
      obtain ⟨q1, q2, q3, q4⟩ := setRow_rest W g (cur.toList.take (xs.length * i0.size) ++ (Builtin.zeroCells z.cells m).toList ++ cur.toList.drop (xs.length * i0.size + m * i0.size)).toArray
      refine h.turn _ q1 q2 q3 q4 (fun k _ hk => setRow_other W g k _ (fun he => hk (by simp [row, Value.ownBlock, he]))) (fun k hk => .inl hk) ⟨inner ++ (Builtin.zeroCells z.cells m).toList, ⟨?_, .inr ⟨g, c, _, by rw [hll], Nat.zero_le _, setRow_heap W g cur _ e (0, 0) hg, by rw [hll]; exact hroom, hcm, ?_, ?_⟩⟩, hr.append hzr⟩ (Nat.le_refl _)
      · rw [List.length_append, hown.1, hzl, hll, Nat.add_mul]
      · simp only [List.size_toArray, List.length_append, List.length_take, List.length_drop, Array.length_toList, size_zeroCells, hzs, hz1]
        rw [hz1] at hfit
        omega
      · rw [hll, hz1, htk]
        have e2 : (xs.length + m) * d.sz = (inner ++ (Builtin.zeroCells z.cells m).toList).length := by rw [List.length_append, hown.1, hzl, Nat.add_mul]
        simp only [List.toList_toArray]
        rw [e2]
        exact List.take_left
    · have hold : (Builtin.firstCells i0.size xs.length (.slice A xs.length c)).run P W.drew = .ok inner.toArray W.drew := by
        rcases A with _ | a
        · have hx0 : inner = [] := by
            rcases hown.2 with ⟨hv, hq⟩ | ⟨g, cap, cur, hv, _⟩
            · exact List.eq_nil_of_length_eq_zero (by rw [hown.1, hq, Nat.zero_mul])
            · injection hv with h3 _ _
              cases h3
          rw [hx0]
          exact run_firstCells_none _ _ _ _ _
        · refine run_firstCells_some (P := P) (w := W.drew) i0.size xs.length a xs.length c inner (by rw [hown.1, hz1]) (fun j u hj => ?_)
          have hlt := (List.getElem?_eq_some_iff.1 hj).1
          rw [hown.1] at hlt
          have hp : 0 < xs.length := by
            rcases Nat.eq_zero_or_pos xs.length with h5 | h5
            · rw [h5, Nat.zero_mul] at hlt; omega
            · exact h5
          rcases hown.2 with ⟨hv, hq⟩ | ⟨g, cap, cur, hv, _, hg, _, _, hz, htk⟩
          · omega
          · injection hv with h3 _ _
            injection h3 with h3
            subst h3
            rw [add_at, Nat.zero_add]
            exact cell_blk (w := W.drew) hg (take_cell htk hj)
      have hrun := Go.Lib.run_append_grow_zeros (P := P) W t tn o.type e i0 z .i64 kn ht htn hi0 hz0 A xs.length c inner hold m h0 (by rw [hz1]; exact hs0) (by omega) (by omega) (by rw [hz2]; omega) (by rw [hz2]; exact growslice_fits (by omega) hlN)
      have hge := grownCap_ge W (xs.length + m) c e
      have hgm := grownCap_le_maxLen W (xs.length + m) c e (by simp only [maxLen]; omega)
      refine Eff.run (hexec _ _ hrun) ⟨_, _, by rw [hll], ?_, by simp⟩
      rw [hll]
      refine h.turn _ rfl rfl rfl (by simp) (fun b hb _ => Below.heap_alloc W.drew _ b hb) (fun b hb => .inr (by simp [row, Value.ownBlock] at hb; omega)) ⟨inner ++ (Builtin.zeroCells z.cells m).toList, ⟨?_, .inr ⟨W.heap.size, _, _, by rw [hll], Nat.zero_le _, heap_alloc_new W.drew _, by rw [hll]; exact hge, hgm, ?_, ?_⟩⟩, hr.append hzr⟩ (Nat.le_succ _)
      · rw [List.length_append, hown.1, hzl, hll, Nat.add_mul]
      · simp only [Array.size_append, List.size_toArray, size_zeroCells, hzs, hown.1, ← Nat.add_mul]
        congr 1
        omega
      · rw [hll]
        have e2 : (xs.length + m) * d.sz = (inner ++ (Builtin.zeroCells z.cells m).toList).length := by rw [List.length_append, hown.1, hzl, Nat.add_mul]
        simp only [Array.toList_append, List.toList_toArray]
        rw [e2]
        exact List.take_left
theorem x_quo {t u : TypeId} {x y : Operand} {k : IntKind} {a b : Int} (ho : o.op = .binOp .quo t x y u) (hx : ev E x = .int k a) (hy : ev E y = .int k b) (h : b ≠ 0) : YA P E o (.int k (k.wrap (a.tdiv b))) := fun w => by
  unfold execOp
  simp [ho, hx, hy, eqGuard, binOp, Op.intDiv, h]
theorem x_rem {t u : TypeId} {x y : Operand} {k : IntKind} {a b : Int} (ho : o.op = .binOp .rem t x y u) (hx : ev E x = .int k a) (hy : ev E y = .int k b) (h : b ≠ 0) : YA P E o (.int k (a.tmod b)) := fun w => by
  unfold execOp
  simp [ho, hx, hy, eqGuard, binOp, Op.intDiv, h]
end
end Go.Proofs.YtpohepinmjmbkaaGreat.Sl
