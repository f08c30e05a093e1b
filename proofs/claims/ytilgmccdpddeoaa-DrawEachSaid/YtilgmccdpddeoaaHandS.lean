/- Words of my own: rows of k cells under slices.DeleteFunc and slices.SortFunc: what a row of the call's own holds, cell by cell; the sorted list as insertion sorts it. -/
import Derived.Test.YtilgmccdpddeoaaHandC
import Derived.Shelf.SlSortCmp.WholeK
import Derived.Shelf.SlSortCmp.NoneTotal
import Derived.Lib.SlKept
import Derived.Lib.SlicesCompact
import Derived.Shelf.SlicesE.DeleteFunc
import Derived.Shelf.SlicesQ.IndexFunc
namespace Go.Proofs.Ytilgmccdpddeoaa.Hand
open Go.Shelf Go.RowKit Go.Lib Go.Sort Go.Proofs.YtilgmccdpddeoaaW.PrintWords
set_option linter.unusedVariables false
section
variable {α : Type} [Inhabited α] {enc : α → List Value} {k : Nat} {w0 w W : World} {blk off : Nat} {dk : Array α}

theorem flatK_set (hk : ∀ x, (enc x).length = k) (d : Array α) (i : Nat) (hi : i < d.size) (u : α) : setMany (flatK enc k d) (i * k) (enc u) = flatK enc k (d.setIfInBounds i u) := by
  refine ext_get! (by simp) fun t ht => ?_
  have ht' : t < d.size * k := by simpa using ht
  have k0 : 0 < k := by
    rcases Nat.eq_zero_or_pos k with h | h
    · subst h; simp at ht'
    · exact h
  rw [get_setMany _ _ _ t (by simpa using ht'), get_flatK _ _ _ t ht', get_flatK _ _ _ t (by simpa using ht'), hk]
  by_cases a : t / k = i
  · rw [if_pos ((blk_iff k i t k0).2 a), show t - i * k = t % k by subst a; rw [Nat.mod_eq_sub_div_mul], a, getElem!_set_same d i u hi]
  · rw [if_neg (fun h => a ((blk_iff k i t k0).1 h))]
    rw [getElem!_set_other d i (t / k) u a]

theorem SWK_set (h : SWK enc k w0 blk off dk W) (hk : ∀ x, (enc x).length = k) (hblk : blk < w0.heap.size) (i : Nat) (hi : i < dk.size) (u : α) : SWK enc k w0 blk off (dk.setIfInBounds i u) (W.setCells blk (off + i * k) (enc u)) := by
  obtain ⟨n, os, rfl⟩ := h
  refine ⟨n, os, ?_⟩
  have hb : i * k + k ≤ dk.size * k := by
    have := Nat.mul_le_mul_right k (show i + 1 ≤ dk.size from hi); rwa [Nat.add_mul, Nat.one_mul] at this
  unfold sortWorldK
  rw [setCells_grow _ _ _ _ _ (by rw [size_putRowK]; exact hblk)]
  congr 1
  unfold putRowK
  rw [setCells_putRow _ _ _ _ _ _ (by rw [hk, size_flatK]; exact hb), flatK_set hk dk i hi u]

theorem setCells_append (b : Nat) : ∀ (xs ys : List Value) (o : Nat) (w : World), w.setCells b o (xs ++ ys) = (w.setCells b o xs).setCells b (o + xs.length) ys
  | [], ys, o, w => by simp [World.setCells]
  | x :: xs, ys, o, w => by
    rw [List.cons_append, World.setCells, World.setCells, setCells_append b xs ys (o + 1), List.length_cons, show o + 1 + xs.length = o + (xs.length + 1) by omega]

/-- Some elements' cells laid in one run from place i on. -/
theorem SWK_fill (hk : ∀ x, (enc x).length = k) (hblk : blk < w0.heap.size) (u : α) : ∀ (n i : Nat) (dk : Array α) (W : World), SWK enc k w0 blk off dk W → i + n ≤ dk.size → ∃ dk' : Array α, dk'.size = dk.size ∧ (∀ j, j < i → dk'[j]! = dk[j]!) ∧ SWK enc k w0 blk off dk' (W.setCells blk (off + i * k) (List.replicate n (enc u)).flatten)
  | 0, i, dk, W, h, _ => ⟨dk, rfl, fun _ _ => rfl, by simpa [World.setCells] using h⟩
  | n + 1, i, dk, W, h, hn => by
    have h1 := SWK_set h hk hblk i (by omega) u
    obtain ⟨dk', hs, hj, hW⟩ := SWK_fill hk hblk u n (i + 1) _ _ h1 (by simp; omega)
    refine ⟨dk', by simpa using hs, fun j hji => ?_, ?_⟩
    · rw [hj j (by omega), getElem!_set_other dk i j u (by omega)]
    · rw [List.replicate_succ, List.flatten_cons, setCells_append, hk, show off + i * k + k = off + (i + 1) * k by rw [Nat.add_mul, Nat.one_mul]; omega]
      exact hW

omit [Inhabited α] in
theorem below_grow {B : Nat} {a w : World} (h : Below B a w) (hB : B ≤ w.heap.size) (os : Array Obj) : Below B a (grow w os) :=
  ⟨h.os, h.tape, h.output, by rw [size_grow]; exact Nat.le_trans h.size (Nat.le_add_right _ _), fun k hk => by rw [heap_grow_old w os (Nat.lt_of_lt_of_le hk hB)]; exact h.block k hk⟩

omit [Inhabited α] in
theorem below_grown (w : World) (q : Nat) (os : Array Obj) : Below w.heap.size w (grow (w.drewN q) os) := below_grow (pw_below_drewN (Below.refl _ _) q) (Nat.le_refl _) os

/-- A world of the sort's: below the row's block nothing is turned. -/
theorem SWK_below {B : Nat} (h : SWK enc k w0 blk off dk W) (hb : B ≤ blk) (hB : B ≤ w0.heap.size) : Below B w0 W := by
  obtain ⟨n, os, rfl⟩ := h
  unfold sortWorldK
  refine below_grow ?_ (by rw [size_putRowK]; exact hB) os
  unfold putRowK putRow mapBlock
  refine ⟨rfl, rfl, rfl, by simp [Sort.ahead], fun j hj => ?_⟩
  show (Array.modify _ _ _)[j]? = _
  rw [Array.getElem?_modify, if_neg (by omega)]
  rfl

/-- .. and every block but the row's own. -/
theorem SWK_block (h : SWK enc k w0 blk off dk W) (j : Nat) (hj : j < w0.heap.size) (hne : j ≠ blk) : W.heap[j]? = w0.heap[j]? := by
  obtain ⟨n, os, rfl⟩ := h
  unfold sortWorldK
  rw [heap_grow_old _ _ (by rw [size_putRowK]; exact hj)]
  unfold putRowK putRow mapBlock
  show (Array.modify _ _ _)[j]? = _
  rw [Array.getElem?_modify, if_neg (fun h => hne h.symm)]
  rfl

theorem SWK_trans (h : SWK enc k w0 blk off dk w) (hblk : blk < w0.heap.size) {dk' : Array α} (hs : dk'.size = dk.size) (h2 : SWK enc k w blk off dk' W) : SWK enc k w0 blk off dk' W := by
  obtain ⟨n, os, rfl⟩ := h2
  exact h.on hblk n dk' os hs

/-- A row held, cell by cell, is read. -/
theorem C_of_holds {d : Kd α} (hsz : d.sz = k) (hK : ∀ (W : World) (x : α), d.K W x (enc x)) (hk : ∀ x, (enc x).length = k) (h : HoldsK enc k w blk 0 dk) (n : Nat) (hn : n ≤ dk.size) (hm : n ≤ 9223372036854775807) : d.C w (some ⟨blk, 0, none⟩) (dk.toList.take n).length (dk.toList.take n) := by
  have hl : (dk.toList.take n).length = n := by simp; omega
  refine ⟨rfl, by rw [hl]; exact hm, fun _ => ⟨_, rfl, fun j p hj => ⟨enc p, by rw [hk, hsz], hK _ _, fun i u hu => ?_⟩⟩⟩
  have hjn : j < n := by have := (List.getElem?_eq_some_iff.1 hj).1; omega
  have hik : i < k := by have := (List.getElem?_eq_some_iff.1 hu).1; rwa [hk] at this
  have hp : dk[j]! = p := by
    rw [List.getElem?_take_of_lt hjn, Array.getElem?_toList] at hj
    rw [getElem!_pos dk j (by omega)]
    have := Array.getElem?_eq_some_iff.1 hj
    exact this.2
  have hc := (h.cell (i := j) (c := i) (by omega) hik).1
  rw [hsz, Addr.add_lit]
  rw [hp, List.getElem!_eq_getElem?_getD, hu] at hc
  rw [← Nat.add_assoc]
  exact hc

theorem holds_of_R {d : Kd α} {e base : Nat} {ok : Nat → Prop} {v : Value} {xs : List α} (hsz : d.sz = k) (hM : ∀ (w : World) (base : Nat) (ok : Nat → Prop) (x : α) (cs : List Value), d.M w base ok x cs → cs = enc x) (hk : ∀ x, (enc x).length = k) (h : d.R e w base ok v xs) :
    (v = .slice none 0 0 ∧ xs = []) ∨ ∃ g cap cur, v = .slice (some ⟨g, 0, none⟩) xs.length cap ∧ base ≤ g ∧ g < w.heap.size ∧ xs.length ≤ cap ∧ cap ≤ maxLen ∧ w.heap[g]? = some (.cells cur e (0, 0)) ∧ cur.size = cap * k ∧ HoldsK enc k w g 0 xs.toArray := by
  obtain ⟨h0, inner, ⟨hil, hform⟩, hrep⟩ := h
  rcases hform with ⟨rfl, hn⟩ | ⟨g, cap, cur, rfl, hbg, hheap, hnc, hcm, hcs, htake⟩
  · exact .inl ⟨rfl, List.eq_nil_of_length_eq_zero hn⟩
  · refine .inr ⟨g, cap, cur, rfl, hbg, ?_, hnc, hcm, hheap, by rw [← hsz]; exact hcs, ?_⟩
    · exact (Array.getElem?_eq_some_iff.1 hheap).1
    · intro t ht
      have ht' : t < xs.length * k := by simpa using ht
      have k0 : 0 < k := by
        rcases Nat.eq_zero_or_pos k with h | h
        · subst h; simp at ht'
        · exact h
      have hj : t / k < xs.length := (Nat.div_lt_iff_lt_mul k0).2 ht'
      have hr := hrep.2 (t / k) xs[t / k] (List.getElem?_eq_getElem hj)
      have he := hM _ _ _ _ _ hr
      have hlt : t % k < k := Nat.mod_lt _ k0
      have hx : inner[t]? = (enc xs[t / k])[t % k]? := by
        rw [← he, hsz, List.getElem?_take_of_lt hlt, List.getElem?_drop, Nat.mul_comm, Nat.div_add_mod]
      have hc : w.cell? ⟨g, 0 + t, none⟩ = inner[t]? := by
        have hq : inner[t]? = cur.toList[t]? := by rw [← htake, hsz, List.getElem?_take_of_lt ht']
        rw [hq]
        simp [World.cell?, hheap]
      refine ⟨?_, by simp [World.frozen?, hheap]⟩
      rw [hc, hx, get_flatK _ _ _ _ (by simpa using ht')]
      have : xs.toArray[t / k]! = xs[t / k] := by
        rw [getElem!_pos xs.toArray (t / k) (by simpa using hj)]
        simp
      rw [this, List.getElem!_eq_getElem?_getD, List.getElem?_eq_getElem (by rw [hk]; exact hlt)]
      rfl

theorem R_of_holds {d : Kd α} {e base g c : Nat} {cur : Array Value} {l : List α} (hsz : d.sz = k) (hM : ∀ (w : World) (base : Nat) (ok : Nat → Prop) (x : α), d.M w base ok x (enc x)) (hk : ∀ x, (enc x).length = k) (hheap : w.heap[g]? = some (.cells cur e (0, 0))) (hcs : cur.size = c * k) (hlc : l.length ≤ c) (hcm : c ≤ maxLen) (hb : base ≤ g) (hH : HoldsK enc k w g 0 l.toArray) :
    d.R e w base (fun _ => True) (.slice (some ⟨g, 0, none⟩) l.length c) l := by
  have hle : l.length * k ≤ cur.size := by rw [hcs]; exact Nat.mul_le_mul_right k hlc
  have hil : (cur.toList.take (l.length * k)).length = l.length * k := by simp; omega
  refine ⟨fun _ _ => trivial, cur.toList.take (l.length * k), ⟨by rw [hsz]; exact hil, .inr ⟨g, c, cur, rfl, hb, hheap, hlc, hcm, by rw [hsz]; exact hcs, by rw [hsz]⟩⟩, by rw [hsz]; exact hil, fun j p hj => ?_⟩
  have hjl : j < l.length := (List.getElem?_eq_some_iff.1 hj).1
  have hjk : j * k + k ≤ l.length * k := by
    have := Nat.mul_le_mul_right k (show j + 1 ≤ l.length from hjl); rwa [Nat.add_mul, Nat.one_mul] at this
  have hp : l.toArray[j]! = p := by
    rw [getElem!_pos l.toArray j (by simpa using hjl)]
    have := (List.getElem?_eq_some_iff.1 hj).2
    simpa using this
  have e1 : ((cur.toList.take (l.length * k)).drop (j * d.sz)).take d.sz = enc p := by
    rw [hsz]
    apply List.ext_getElem?
    intro i
    by_cases hi : i < k
    · rw [List.getElem?_take_of_lt hi, List.getElem?_drop, List.getElem?_take_of_lt (by omega)]
      have hc := (hH.cell (i := j) (c := i) (by simpa using hjl) hi).1
      rw [hp] at hc
      have hcc : w.cell? ⟨g, 0 + j * k + i, none⟩ = cur[j * k + i]? := by simp [World.cell?, hheap]
      rw [hcc] at hc
      rw [Array.getElem?_toList, hc, List.getElem!_eq_getElem?_getD, List.getElem?_eq_getElem (by rw [hk]; exact hi)]
      rfl
    · rw [List.getElem?_eq_none (by simp; omega), List.getElem?_eq_none (by rw [hk]; omega)]
  rw [e1]
  exact hM _ _ _ _

theorem HoldsK_take (h : HoldsK enc k w blk off dk) (l : List α) (hl : dk.toList.take l.length = l) (hn : l.length ≤ dk.size) : HoldsK enc k w blk off l.toArray := by
  intro t ht
  have ht' : t < l.length * k := by simpa using ht
  have k0 : 0 < k := by
    rcases Nat.eq_zero_or_pos k with h | h
    · subst h; simp at ht'
    · exact h
  have hj : t / k < l.length := (Nat.div_lt_iff_lt_mul k0).2 ht'
  have h2 : t < dk.size * k := Nat.lt_of_lt_of_le ht' (Nat.mul_le_mul_right k hn)
  have := h t (by rw [size_flatK]; exact h2)
  rw [get_flatK _ _ _ _ h2] at this
  rw [get_flatK _ _ _ _ (by simpa using ht')]
  have e : l.toArray[t / k]! = dk[t / k]! := by
    have h3 : l[t / k]? = dk.toList[t / k]? := by conv => lhs; rw [← hl]; rw [List.getElem?_take_of_lt hj]
    rw [List.getElem?_eq_getElem hj, Array.getElem?_toList, getElem?_pos dk (t / k) (by omega)] at h3
    rw [getElem!_pos dk (t / k) (by omega), getElem!_pos l.toArray (t / k) (by simpa using hj)]
    simpa using h3
  rw [e]
  exact this
omit [Inhabited α] in
theorem heap_last (w : World) (o : Obj) : (w.alloc o).heap[w.heap.size]? = some o := by show (w.heap.push o)[w.heap.size]? = some o; simp
omit [Inhabited α] in
theorem heap_last1 (w : World) (o p : Obj) : ((w.alloc o).alloc p).heap[w.heap.size + 1]? = some p := by
  have := heap_last (w.alloc o) p
  rwa [show (w.alloc o).heap.size = w.heap.size + 1 by show (w.heap.push o).size = _; simp] at this
omit [Inhabited α] in
theorem heap_last2 (w : World) (o p : Obj) : ((w.alloc o).alloc p).heap[w.heap.size]? = some o := by
  rw [Below.heap_alloc _ _ _ (by show _ < (w.heap.push o).size; simp)]
  exact heap_last w o
omit [Inhabited α] in
theorem size_alloc1 (w : World) (o : Obj) : (w.alloc o).heap.size = w.heap.size + 1 := by show (w.heap.push o).size = _; simp
omit [Inhabited α] in
theorem size_alloc2 (w : World) (o p : Obj) : ((w.alloc o).alloc p).heap.size = w.heap.size + 2 := by show ((w.heap.push o).push p).size = _; simp
omit [Inhabited α] in
theorem grow_drewN3 (w : World) (os os' : Array Obj) (n : Nat) : grow ((grow w os).drewN n) os' = grow (w.drewN n) (os ++ os') := by rw [← grow_grow]; rfl
omit [Inhabited α] in
theorem grow_after {w W : World} (h : ∃ q os, W = grow (w.drewN q) os) (n : Nat) : ∃ q os, W.drewN n = grow (w.drewN q) os := by
  obtain ⟨q, os, rfl⟩ := h
  exact ⟨q + n, os, by rw [← World.drewN_drewN]; rfl⟩
omit [Inhabited α] in
theorem grow_two {w W W' : World} (h : ∃ q os, W = grow (w.drewN q) os) (h2 : ∃ q os, W' = grow (W.drewN q) os) : ∃ q os, W' = grow (w.drewN q) os := by
  obtain ⟨q, os, rfl⟩ := h
  obtain ⟨q2, os2, rfl⟩ := h2
  exact ⟨q + q2, os ++ os2, by rw [grow_drewN3, World.drewN_drewN]⟩

omit [Inhabited α] in
theorem grownBy_trans {a b c : World} {row : Option Nat} (h : a.grownBy b row) (h2 : b.grownBy c row) : a.grownBy c row :=
  ⟨h2.os.trans h.os, h2.tape.trans h.tape, h2.output.trans h.output, Nat.le_trans h.size h2.size, fun k hk hne => (h2.block k (Nat.lt_of_lt_of_le hk h.size) hne).trans (h.block k hk hne)⟩
omit [Inhabited α] in
theorem grownBy_of_below {a b : World} (h : Below a.heap.size a b) (row : Option Nat) : a.grownBy b row :=
  ⟨h.os, h.tape, h.output, h.size, fun k hk _ => h.block k hk⟩

/-- A row in block blk holds dk; else nothing that lay in w is turned. -/
structure RowAt (enc : α → List Value) (k : Nat) (w : World) (blk : Nat) (dk : Array α) (W : World) : Prop where
  grown : w.grownBy W (some blk)
  holds : HoldsK enc k W blk 0 dk
  lt : blk < w.heap.size
  kept : ∀ c t fz, w.heap[blk]? = some (.cells c t fz) → ∃ c', W.heap[blk]? = some (.cells c' t fz) ∧ c'.size = c.size

theorem RowAt.start (h : HoldsK enc k w blk 0 dk) (hb : blk < w.heap.size) : RowAt enc k w blk dk w := ⟨⟨rfl, rfl, rfl, Nat.le_refl _, fun _ _ _ => rfl⟩, h, hb, fun c t fz hc => ⟨c, hc, rfl⟩⟩
theorem RowAt.below {W' : World} (h : RowAt enc k w blk dk W) (hb : Below W.heap.size W W') : RowAt enc k w blk dk W' := by
  have hlt : blk < W.heap.size := Nat.lt_of_lt_of_le h.lt h.grown.size
  exact ⟨grownBy_trans h.grown (grownBy_of_below hb _), fun j hj => by rw [hb.cell (p := ⟨blk, 0 + j, none⟩) hlt, hb.frozen (p := ⟨blk, 0 + j, none⟩) hlt]; exact h.holds j hj, h.lt, fun c t fz hc => by rw [hb.block blk hlt]; exact h.kept c t fz hc⟩
theorem RowAt.trans {W' : World} {dk' : Array α} (h : RowAt enc k w blk dk W) (h2 : RowAt enc k W blk dk' W') : RowAt enc k w blk dk' W' := ⟨grownBy_trans h.grown h2.grown, h2.holds, h.lt, fun c t fz hc => by
  obtain ⟨c1, e1, s1⟩ := h.kept c t fz hc
  obtain ⟨c2, e2, s2⟩ := h2.kept c1 t fz e1
  exact ⟨c2, e2, s2.trans s1⟩⟩
omit [Inhabited α] in
theorem setCells_grownBy (blk : Nat) : ∀ (vs : List Value) (o : Nat) (W : World), W.grownBy (W.setCells blk o vs) (some blk)
  | [], _, _ => ⟨rfl, rfl, rfl, Nat.le_refl _, fun _ _ _ => rfl⟩
  | v :: r, o, W => by
    rw [World.setCells]
    have h1 : W.grownBy (W.setCell ⟨blk, o, none⟩ v) (some blk) := ⟨rfl, rfl, rfl, by simp, fun k hk hne => Below.heap_setCell _ _ _ _ (fun h => hne (by rw [h]))⟩
    exact grownBy_trans h1 (setCells_grownBy blk r (o + 1) _)
omit [Inhabited α] in
theorem setCells_kept (blk : Nat) : ∀ (vs : List Value) (o : Nat) (W : World) c t fz, W.heap[blk]? = some (.cells c t fz) → ∃ c', (W.setCells blk o vs).heap[blk]? = some (.cells c' t fz) ∧ c'.size = c.size
  | [], _, _, c, _, _, h => ⟨c, h, rfl⟩
  | v :: r, o, W, c, t, fz, h => by
    rw [World.setCells]
    have h1 : (W.setCell ⟨blk, o, none⟩ v).heap[blk]? = some (.cells (c.setIfInBounds o v) t fz) := by
      rw [setCell_eq]
      unfold mapBlock
      show (Array.modify _ _ _)[blk]? = _
      rw [Array.getElem?_modify, if_pos rfl, h]
      rfl
    obtain ⟨c', e, s⟩ := setCells_kept blk r (o + 1) _ _ _ _ h1
    exact ⟨c', e, s.trans (by simp)⟩
theorem RowAt.set (h : RowAt enc k w blk dk W) (hk : ∀ x, (enc x).length = k) (i : Nat) (hi : i < dk.size) (u : α) : RowAt enc k w blk (dk.setIfInBounds i u) (W.setCells blk (i * k) (enc u)) := by
  have hb : i * k + k ≤ dk.size * k := by
    have := Nat.mul_le_mul_right k (show i + 1 ≤ dk.size from hi); rwa [Nat.add_mul, Nat.one_mul] at this
  refine ⟨grownBy_trans h.grown (setCells_grownBy _ _ _ _), ?_, h.lt, fun c t fz hc => by
    obtain ⟨c1, e1, s1⟩ := h.kept c t fz hc
    obtain ⟨c2, e2, s2⟩ := setCells_kept blk (enc u) (i * k) W _ _ _ e1
    exact ⟨c2, e2, s2.trans s1⟩⟩
  have := holds_setCells_c h.holds (i * k) (enc u) (by rw [hk, size_flatK]; exact hb)
  rw [flatK_set hk dk i hi u, Nat.zero_add] at this
  exact this
theorem RowAt.fill (hk : ∀ x, (enc x).length = k) (u : α) : ∀ (n i : Nat) (dk : Array α) (W : World), RowAt enc k w blk dk W → i + n ≤ dk.size → ∃ dk' : Array α, dk'.size = dk.size ∧ (∀ j, j < i → dk'[j]! = dk[j]!) ∧ RowAt enc k w blk dk' (W.setCells blk (i * k) (List.replicate n (enc u)).flatten)
  | 0, i, dk, W, h, _ => ⟨dk, rfl, fun _ _ => rfl, by simpa [World.setCells] using h⟩
  | n + 1, i, dk, W, h, hn => by
    have h1 := h.set hk i (by omega) u
    obtain ⟨dk', hs, hj, hW⟩ := RowAt.fill hk u n (i + 1) _ _ h1 (by simp; omega)
    refine ⟨dk', by simpa using hs, fun j hji => ?_, ?_⟩
    · rw [hj j (by omega), getElem!_set_other dk i j u (by omega)]
    · rw [List.replicate_succ, List.flatten_cons, setCells_append, hk, show i * k + k = (i + 1) * k by rw [Nat.add_mul, Nat.one_mul]]
      exact hW
theorem RowAt.of_swk (h : SWK enc k w blk 0 dk W) {d0 : Array α} (hH : HoldsK enc k w blk 0 d0) (hs : dk.size = d0.size) (hb : blk < w.heap.size) : RowAt enc k w blk dk W := by
  refine ⟨?_, h.holds hb hH hs, hb, fun c t fz hc => ?_⟩
  rotate_left
  · obtain ⟨n, os, rfl⟩ := h
    unfold sortWorldK
    rw [heap_grow_old _ _ (by rw [size_putRowK]; exact hb)]
    unfold putRowK putRow mapBlock
    refine ⟨putCells id 0 (flatK enc k dk) c, ?_, ?_⟩
    · show (Array.modify _ _ _)[blk]? = _
      rw [Array.getElem?_modify, if_pos rfl, show (Sort.ahead w n).heap[blk]? = _ from hc]
      rfl
    · simp [putCells]
  have h0 := SWK_below (B := 0) h (Nat.zero_le _) (Nat.zero_le _)
  exact ⟨h0.os, h0.tape, h0.output, h0.size, fun j hj hne => SWK_block h j hj (fun e => hne (by rw [e]))⟩
theorem RowAt.sub {B : Nat} {a : World} (h : RowAt enc k w blk dk W) (hb : Below B a w) (hB : B ≤ w.heap.size) (hblk : B ≤ blk) : Below B a W :=
  hb.grown h.grown hB (fun j hj => by cases hj; exact hblk)

omit [Inhabited α] in
/-- Of what is kept, laid at a row's head. -/
theorem grow_drewN2 (w : World) (os : Array Obj) (n m : Nat) : ((grow w os).drewN n).drewN m = grow (w.drewN (n + m)) os := by rw [World.drewN_drewN]; rfl
end

theorem kept_take {α : Type} [Inhabited α] {kp : Nat → Bool} {d dk dk' : Array α} {n i : Nat} (h : KeptInv kp d n i dk) (hs : dk'.size = dk.size) (hn : i ≤ dk.size) (hj : ∀ j, j < i → dk'[j]! = dk[j]!) : dk'.toList.take (keptUpTo kp d n).length = keptUpTo kp d n := by
  rw [h.len]
  apply List.ext_getElem?
  intro t
  by_cases ht : t < i
  · rw [List.getElem?_take_of_lt ht, h.low t ht, ← hj t ht, Array.getElem?_toList, getElem?_pos dk' t (by omega), getElem!_pos dk' t (by omega)]
  · rw [List.getElem?_eq_none (by simp; omega), List.getElem?_eq_none (by rw [h.len]; omega)]

theorem comp_take {α : Type} [Inhabited α] [DecidableEq α] {d dk dk' : Array α} {n i : Nat} (h : CompInv d n i dk) (hs : dk'.size = dk.size) (hn : i ≤ dk.size) (hj : ∀ j, j < i → dk'[j]! = dk[j]!) : dk'.toList.take (compactUpTo d n).length = compactUpTo d n := by
  rw [h.len]
  apply List.ext_getElem?
  intro t
  by_cases ht : t < i
  · rw [List.getElem?_take_of_lt ht, h.low t ht, ← hj t ht, Array.getElem?_toList, getElem?_pos dk' t (by omega), getElem!_pos dk' t (by omega)]
  · rw [List.getElem?_eq_none (by simp; omega), List.getElem?_eq_none (by rw [h.len]; omega)]

/-- 'clear' over a row of elements of several cells. -/
theorem run_clear_k (P : Program) (w : World) (t e ty : TypeId) (z : Value) (cs : List Value) (ht : P.underlying t = some (.slice e)) (hv : ∀ w, (zeroValue e).run P w = .ok z w) (hz : z.cells = cs.toArray) (h1 : ∀ v ∈ cs, v.oneCell' = true) (b o n c : Nat) (hn : 0 < n)
    (hc : ∀ j, j < n * cs.length → (w.cell? ⟨b, o + j, none⟩).isSome = true) (hf : ∀ j, j < n * cs.length → w.frozen? ⟨b, o + j, none⟩ = false) :
    (Builtin.clear_ #[t] ty #[.slice (some ⟨b, o, none⟩) n c]).run P w = .ok (.tuple #[]) (w.setCells b o (List.replicate n cs).flatten) := by
  have hzc : (Builtin.zeroCells z.cells n).toList = (List.replicate n cs).flatten := by
    rw [hz]
    apply List.ext_getElem?
    intro i
    by_cases hi : i < n * cs.length
    · have k0 : 0 < cs.length := Nat.pos_of_ne_zero (fun h => by rw [h] at hi; simp at hi)
      have e1 : (List.replicate n cs).flatten[i]? = cs[i % cs.length]? := by
        clear hc hf hn
        induction n generalizing i with
        | zero => simp at hi
        | succ m ih =>
          rw [List.replicate_succ, List.flatten_cons]
          by_cases h : i < cs.length
          · rw [List.getElem?_append_left h, Nat.mod_eq_of_lt h]
          · rw [List.getElem?_append_right (by omega), ih _ (by rw [Nat.add_mul, Nat.one_mul] at hi; omega), Nat.mod_eq_sub_mod (a := i) (by omega)]
      rw [e1, List.getElem?_eq_getElem (Nat.mod_lt _ k0)]
      simp [Builtin.zeroCells, hi]
      rw [List.getElem?_eq_getElem (Nat.mod_lt _ k0)]
      rfl
    · rw [List.getElem?_eq_none (by simp [Builtin.zeroCells]; omega), List.getElem?_eq_none (by simp; omega)]
  have hl : ((List.replicate n cs).flatten).length = n * cs.length := by simp
  have hst := run_storeCells_cells (P := P) b o (List.replicate n cs).flatten 0 w (by rw [hl]; simpa using hc) (by rw [hl]; simpa using hf) (by
    intro v hv'
    obtain ⟨l, hl1, hl2⟩ := List.mem_flatten.1 hv'
    rw [List.eq_of_mem_replicate hl1] at hl2
    exact h1 v hl2)
  simp only [Nat.add_zero] at hst
  obtain ⟨m, rfl⟩ : ∃ m, n = m + 1 := ⟨n - 1, by omega⟩
  simp [Builtin.clear_, run_underlying ht, hv, hzc, hst]

theorem C_two {W : World} {vb t : Nat} {fz : Nat × Nat} {a b : Int} (h : W.heap[vb]? = some (Obj.cells #[.int .i64 a, .int .i64 b] t fz)) : Kd.C (Kd.int .i64) W (some ⟨vb, 0, none⟩) ([a, b] : List Int).length [a, b] := by
  refine ⟨rfl, by simp, fun _ => ⟨_, rfl, fun j p hj => ⟨[.int .i64 p], rfl, rfl, fun i u hu => ?_⟩⟩⟩
  have hi : i = 0 := by
    have := (List.getElem?_eq_some_iff.1 hu).1
    simp at this
    exact this
  subst hi
  simp at hu
  subst hu
  rw [Addr.add_lit]
  have hj2 : j < 2 := (List.getElem?_eq_some_iff.1 hj).1
  rcases (by omega : j = 0 ∨ j = 1) with rfl | rfl
  · simp at hj
    subst hj
    simp [World.cell?, h, show (Kd.int IntKind.i64).sz = 1 from rfl]
  · simp at hj
    subst hj
    simp [World.cell?, h, show (Kd.int IntKind.i64).sz = 1 from rfl]
theorem grow_alloc {w W : World} (h : ∃ q os, W = grow (w.drewN q) os) (n : Nat) (o : Obj) (m : Nat) : ∃ q os, ((W.drewN n).alloc o).drewN m = grow (w.drewN q) os := by
  obtain ⟨q, os, rfl⟩ := h
  exact ⟨q + n + m, os ++ #[o], by rw [alloc_eq_grow, grow_drewN3, ← World.drewN_drewN, ← World.drewN_drewN]; rfl⟩

/-! ### Insertion sort on lists -/
section
variable {α : Type}
def insertL (lt : α → α → Bool) (x : α) : List α → List α
  | [] => [x]
  | y :: r => if lt x y then x :: y :: r else y :: insertL lt x r
def sortL (lt : α → α → Bool) : List α → List α
  | [] => []
  | x :: r => insertL lt x (sortL lt r)
theorem insertL_perm (lt : α → α → Bool) (x : α) : ∀ l : List α, (insertL lt x l).Perm (x :: l)
  | [] => List.Perm.refl _
  | y :: r => by
    unfold insertL
    split
    · exact List.Perm.refl _
    · exact ((insertL_perm lt x r).cons y).trans (List.Perm.swap x y r)
theorem sortL_perm (lt : α → α → Bool) : ∀ l : List α, (sortL lt l).Perm l
  | [] => List.Perm.refl _
  | x :: r => (insertL_perm lt x _).trans ((sortL_perm lt r).cons x)
/-- What is asked of a 'less' on the elements that there are. -/
structure SWOn (ok : α → Prop) (lt : α → α → Bool) : Prop where
  irrefl : ∀ x, ok x → lt x x = false
  trans : ∀ x y z, ok x → ok y → ok z → lt x y = true → lt y z = true → lt x z = true
  ntrans : ∀ x y z, ok x → ok y → ok z → lt x y = false → lt y z = false → lt x z = false
theorem SWOn.asym {ok : α → Prop} {lt : α → α → Bool} (h : SWOn ok lt) {x y : α} (hx : ok x) (hy : ok y) (hxy : lt x y = true) : lt y x = false := by
  cases hc : lt y x with
  | false => rfl
  | true => have := h.trans x y x hx hy hx hxy hc; rw [h.irrefl x hx] at this; cases this
theorem insertL_mem (lt : α → α → Bool) (x : α) (l : List α) {y : α} : y ∈ insertL lt x l ↔ y = x ∨ y ∈ l := by rw [(insertL_perm lt x l).mem_iff]; simp
theorem sortL_mem (lt : α → α → Bool) (l : List α) {y : α} : y ∈ sortL lt l ↔ y ∈ l := (sortL_perm lt l).mem_iff
theorem insertL_sorted {ok : α → Prop} {lt : α → α → Bool} (h : SWOn ok lt) (x : α) (hx : ok x) : ∀ l : List α, (∀ y ∈ l, ok y) → l.Pairwise (fun a b => lt b a = false) → (insertL lt x l).Pairwise (fun a b => lt b a = false)
  | [], _, _ => by simp [insertL]
  | y :: r, ho, hp => by
    have hy := ho y (by simp)
    have hr : ∀ z ∈ r, ok z := fun z hz => ho z (by simp [hz])
    obtain ⟨h1, h2⟩ := List.pairwise_cons.1 hp
    unfold insertL
    split
    · rename_i hxy
      refine List.pairwise_cons.2 ⟨fun z hz => ?_, hp⟩
      rcases List.mem_cons.1 hz with rfl | hz
      · exact h.asym hx hy hxy
      · exact h.ntrans z y x (hr z hz) hy hx (h1 z hz) (h.asym hx hy hxy)
    · rename_i hxy
      have hxy : lt x y = false := by simpa using hxy
      refine List.pairwise_cons.2 ⟨fun z hz => ?_, insertL_sorted h x hx r hr h2⟩
      rcases (insertL_mem lt x r).1 hz with rfl | hz
      · exact hxy
      · exact h1 z hz
theorem sortL_sorted {ok : α → Prop} {lt : α → α → Bool} (h : SWOn ok lt) : ∀ l : List α, (∀ y ∈ l, ok y) → (sortL lt l).Pairwise (fun a b => lt b a = false)
  | [], _ => List.Pairwise.nil
  | x :: r, ho => insertL_sorted h x (ho x (by simp)) _ (fun y hy => ho y (by simp [(sortL_mem lt r).1 hy])) (sortL_sorted h r (fun y hy => ho y (by simp [hy])))
end

/-! ### slices.SortFunc, at the elements that there are -/
section
variable {P : Program} {ρ : Ren} {α : Type} [Inhabited α]

theorem flatK_map {β : Type} [Inhabited β] (f : β → α) (enc : α → List Value) (k : Nat) (d : Array β) : flatK (fun x => enc (f x)) k d = flatK enc k (d.map f) := by
  refine ext_get! (by simp) fun t ht => ?_
  have ht' : t < d.size * k := by simpa using ht
  have k0 : 0 < k := by
    rcases Nat.eq_zero_or_pos k with h | h
    · subst h; simp at ht'
    · exact h
  have hj : t / k < d.size := (Nat.div_lt_iff_lt_mul k0).2 ht'
  rw [get_flatK _ _ _ t ht', get_flatK _ _ _ t (by simpa using ht')]
  rw [getElem!_pos d (t / k) hj, getElem!_pos (d.map f) (t / k) (by simpa using hj), Array.getElem_map]

theorem swk_map {β : Type} [Inhabited β] (f : β → α) (enc : α → List Value) (k : Nat) (w : World) (blk off n : Nat) (d : Array β) (os : Array Obj) : sortWorldK (fun x => enc (f x)) k w blk off n d os = sortWorldK enc k w blk off n (d.map f) os := by
  unfold sortWorldK putRowK
  rw [flatK_map f enc k d]

theorem cmp_sub {ok : α → Prop} [Inhabited { x : α // ok x }] {k : Nat} {enc : α → List Value} {cf : α → α → Int} {g : Nat} {cb : Array Value} {blk n : Nat} {w : World}
    (hcmp : ∀ (m : Nat) (os : Array Obj) (dk : Array α), dk.size = n → ∀ x y : α, ok x → ok y → Calls P g (#[.agg (enc x).toArray, .agg (enc y).toArray] ++ cb) (sortWorldK enc k w blk 0 m dk os) fun e w' => e = .returned (.int .i64 (cf x y)) ∧ ∃ q os', w' = grow ((sortWorldK enc k w blk 0 m dk os).drewN q) os') :
    CmpLays P g cb (fun x : { x : α // ok x } => enc x.1) k (fun x y => cf x.1 y.1) blk 0 n w := by
  intro m os dk hs x y
  have e : sortWorldK (fun x : { x : α // ok x } => enc x.1) k w blk 0 m dk os = sortWorldK enc k w blk 0 m (dk.map Subtype.val) os := swk_map Subtype.val enc k w blk 0 m dk os
  have h := hcmp m os (dk.map Subtype.val) (by simpa using hs) x.1 y.1 x.2 y.2
  rw [← e] at h
  exact h

set_option maxHeartbeats 1000000 in
theorem sortFunc_sub (L : SlLaysF0.n6 P ρ) (k : Nat) (aE : ∀ w, (isAgg (ρ.t 24)).run P w = .ok true w) (zE : ∀ w, (Go.sizeOf (ρ.t 24)).run P w = .ok k w) (enc : α → List Value) (hk : ∀ x, (enc x).length = k) (h1 : ∀ x, ∀ v ∈ enc x, v.oneCell' = true) (ok : α → Prop) [Inhabited { x : α // ok x }] (cf : α → α → Int) (hO : SWOn ok (ltOf cf)) (g : Nat) (cb : Array Value) (blk cap : Nat) (D : List { x : α // ok x }) (w : World)
    (eg : ∀ args w, (callFunc g args).run P w = .ok (.enter g args) w)
    (hcmp : ∀ (m : Nat) (os : Array Obj) (dk : Array α), dk.size = D.length → ∀ x y : α, ok x → ok y → Calls P g (#[.agg (enc x).toArray, .agg (enc y).toArray] ++ cb) (sortWorldK enc k w blk 0 m dk os) fun e w' => e = .returned (.int .i64 (cf x y)) ∧ ∃ q os', w' = grow ((sortWorldK enc k w blk 0 m dk os).drewN q) os')
    (hH : HoldsK enc k w blk 0 (D.map Subtype.val).toArray) (hblk : blk < w.heap.size) (hsz : D.length < 4611686018427387904) :
    Calls P (ρ.f 6) #[.slice (some ⟨blk, 0, none⟩) D.length cap, .func (.func g) #[] cb] w fun e w' => e = .returned (.tuple #[]) ∧ ∃ d : Array { x : α // ok x }, d.size = D.length ∧ d.toList.Perm D ∧ d.toList.Pairwise (fun a b => ltOf cf b.1 a.1 = false) ∧ SWK enc k w blk 0 (d.map Subtype.val) w' := by
  have hSW : SWO (ltOf fun x y : { x : α // ok x } => cf x.1 y.1) := ⟨fun x => hO.irrefl x.1 x.2, fun x y z => hO.trans x.1 y.1 z.1 x.2 y.2 z.2, fun x y z => hO.ntrans x.1 y.1 z.1 x.2 y.2 z.2⟩
  have hH' : HoldsK (fun x : { x : α // ok x } => enc x.1) k w blk 0 D.toArray := by
    unfold HoldsK
    rw [flatK_map (fun x : { x : α // ok x } => x.1) enc, List.map_toArray]
    exact hH
  have hc := AnyQ.slices_SortFunc L k aE zE (fun x : { x : α // ok x } => enc x.1) (fun x => hk x.1) (fun x => h1 x.1) (fun x y : { x : α // ok x } => cf x.1 y.1) hSW g cb blk 0 cap D.toArray w eg (by rw [List.size_toArray]; exact cmp_sub hcmp) hH' hblk (by simpa using hsz)
  rw [List.size_toArray] at hc
  refine hc.mono ?_
  rintro e w' ⟨rfl, d', n, os, hp, hs, rfl⟩
  obtain ⟨hz, _, hperm⟩ := hp
  have hz' : d'.size = D.length := by rw [hz]; simp
  have e1 : (d'.extract 0 D.length) = d' := by rw [← hz']; simp
  have e2 : (D.toArray.extract 0 D.length) = D.toArray := by simp
  rw [e1, e2] at hperm
  refine ⟨rfl, d', hz', hperm, ?_, n, os, ?_⟩
  · rw [List.pairwise_iff_getElem]
    intro i j hi hj hij
    have := hs i j (Nat.zero_le _) hij (by rw [← hz']; simpa using hj)
    rw [getElem!_pos d' i (by simpa using hi), getElem!_pos d' j (by simpa using hj)] at this
    simp only [Array.getElem_toList]
    exact this
  · exact swk_map Subtype.val enc k w blk 0 n d' os

/-- A row of the call's own, sorted: it holds what insertion makes of it, where no two of its elements are alike to the order. -/
theorem sortFunc (L : SlLaysF0.n6 P ρ) (k : Nat) (aE : ∀ w, (isAgg (ρ.t 24)).run P w = .ok true w) (zE : ∀ w, (Go.sizeOf (ρ.t 24)).run P w = .ok k w) (enc : α → List Value) (hk : ∀ x, (enc x).length = k) (h1 : ∀ x, ∀ v ∈ enc x, v.oneCell' = true) (ok : α → Prop) (cf : α → α → Int) (hO : SWOn ok (ltOf cf)) (g : Nat) (cb : Array Value) (blk cap : Nat) (l : List α) (w : World)
    (eg : ∀ args w, (callFunc g args).run P w = .ok (.enter g args) w) (hok : ∀ x ∈ l, ok x) (huni : ∀ x ∈ l, ∀ y ∈ l, ltOf cf x y = false → ltOf cf y x = false → x = y)
    (hcmp : ∀ (m : Nat) (os : Array Obj) (dk : Array α), dk.size = l.length → ∀ x y : α, ok x → ok y → Calls P g (#[.agg (enc x).toArray, .agg (enc y).toArray] ++ cb) (sortWorldK enc k w blk 0 m dk os) fun e w' => e = .returned (.int .i64 (cf x y)) ∧ ∃ q os', w' = grow ((sortWorldK enc k w blk 0 m dk os).drewN q) os')
    (hH : HoldsK enc k w blk 0 l.toArray) (hblk : blk < w.heap.size) (hsz : l.length < 4611686018427387904) :
    Calls P (ρ.f 6) #[.slice (some ⟨blk, 0, none⟩) l.length cap, .func (.func g) #[] cb] w fun e w' => e = .returned (.tuple #[]) ∧ SWK enc k w blk 0 (sortL (ltOf cf) l).toArray w' := by
  cases l with
  | nil =>
    refine (AnyF.slices_SortFunc_none L (some ⟨blk, 0, none⟩) cap _ w).mono ?_
    rintro e w' ⟨rfl, rfl⟩
    exact ⟨rfl, SWK.start hH⟩
  | cons x0 r0 =>
    obtain ⟨l, hl⟩ : ∃ l, l = x0 :: r0 := ⟨_, rfl⟩
    have hx0 : ok x0 := hok x0 (by simp)
    rw [← hl] at hok huni hcmp hH hsz ⊢
    clear hl
    haveI : Inhabited { x : α // ok x } := ⟨⟨x0, hx0⟩⟩
    obtain ⟨D, hD⟩ : ∃ D : List { x : α // ok x }, D.map Subtype.val = l := ⟨l.attachWith ok hok, List.attachWith_map_subtype_val ..⟩
    have hDl : D.length = l.length := by rw [← hD, List.length_map]
    have hc := sortFunc_sub L k aE zE enc hk h1 ok cf hO g cb blk cap D w eg (by rw [hDl]; exact hcmp) (by rw [hD]; exact hH) hblk (by rw [hDl]; exact hsz)
    rw [hDl] at hc
    refine hc.mono ?_
    rintro e w' ⟨rfl, d', hz', hperm, hsort, hW⟩
    refine ⟨rfl, ?_⟩
    have hperm2 : (d'.toList.map Subtype.val).Perm l := by
      have := hperm.map Subtype.val
      rwa [hD] at this
    have he : (d'.map Subtype.val).toList = sortL (ltOf cf) l := by
      rw [Array.toList_map]
      refine List.Perm.eq_of_pairwise (le := fun a b => ltOf cf b a = false) (fun a b ha hb h1 h2 => ?_) ?_ (sortL_sorted hO l hok) (hperm2.trans (sortL_perm _ l).symm)
      · exact huni a (hperm2.mem_iff.1 ha) b ((sortL_mem _ l).1 hb) h2 h1
      · rw [List.pairwise_map]
        exact hsort
    rw [← he, Array.toArray_toList]
    exact hW
end
end Go.Proofs.Ytilgmccdpddeoaa.Hand
