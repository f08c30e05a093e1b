-- written by wip/pp.py
import Derived.Test.YtilgmccdpddeoaaPDrawEachx0
import Derived.Test.YtilgmccdpddeoaaPDrawEachx1
namespace Go.Proofs.Ytilgmccdpddeoaa.PDrawEach
open Go.RowKit Go.Proofs.YtilgmccdpddeoaaW.PrintWords Go.Proofs.YtilgmccdpddeoaaW.PrintLast Go.Proofs.YtilgmccdpddeoaaW.PrintMore
attribute [local go_sem] max2_int min2_int max_two min_two max_three min_three max_four min_four   -- for this text's walks alone
set_option linter.unusedVariables false
set_option linter.unusedSimpArgs false

/-! ### draw_compare: function 90 -/
instance : Inhabited S85 := ⟨z85⟩
/-- A choice's two cells. -/
def draw_compare.enc (x : S85) : List Value := [.int .i64 x.f0, .int .i64 x.f1]
set_option maxHeartbeats 1000000 in
set_option maxRecDepth 100000 in
theorem draw_Cost.callsG (k : Nat) (a0 : Int) (a1 : Int) (r : Int) (w : World) (h : draw_Cost.f k a0 a1 = some r) :
    Calls Try.prog 51 #[.int .u64 a0, .int .i64 a1] w fun e w' => e = .returned (.int .i64 r) ∧ ∃ q os, w' = Sort.grow (w.drewN q) os := by
  unfold draw_Cost.f at h
  obtain ⟨t, h1, h⟩ := Option.bind_eq_some_iff.mp h
  obtain ⟨u, h2, h⟩ := Option.bind_eq_some_iff.mp h
  cases h
  have H1 := Lib.hid h1
  have H2 := Lib.hid h2
  clear h1 h2
  have hF : Calls Try.prog 93 #[.int .u64 a0, .slice (some ⟨w.heap.size, 0, none⟩) 1 1] (w.alloc (Obj.cells #[.int .u64 (IntKind.u64.wrap a1)] 75)) fun e w' => e = .returned (.int .u64 t) ∧ ∃ n, w' = (w.alloc (Obj.cells #[.int .u64 (IntKind.u64.wrap a1)] 75)).drewN n :=
    (mix_Fold.calls k a0 (some ⟨w.heap.size, 0, none⟩) 1 [IntKind.u64.wrap a1] t _ (Hand.C_one (cs := [.int .u64 (IntKind.u64.wrap a1)]) (Hand.heap_last _ _) rfl) (by simp) H1.out).mono fun _ _ ⟨he, ⟨hw⟩⟩ => ⟨he, hw⟩
  have hN : ∀ W, Calls Try.prog 92 #[.int .i64 (wrap64 (1 + wrap64 (t / 281474976710656)))] W fun e w' => e = .returned (.int .i64 r) ∧ ∃ n, w' = W.drewN n :=
    fun W => (neglog_Cost.calls k _ r W H2.out).mono fun _ _ ⟨he, ⟨hw⟩⟩ => ⟨he, hw⟩
  generalize hW1 : w.alloc (Obj.cells #[.int .u64 (IntKind.u64.wrap a1)] 75) = W1 at hF
  go_enter Try.func51, Try.ntmps51
  go_wp2_with (first | (go_at_call 93; refine hF.mono ?_; rintro e w' ⟨rfl, nd, rfl⟩) | (go_at_call 92; refine (hN _).mono ?_; rintro e w' ⟨rfl, nd2, rfl⟩))
  go_ret
  exact ⟨rfl, nd + nd2, _, by rw [← hW1, Sort.alloc_eq_grow]; rfl⟩
/-- A choice's cost for a key. -/
def draw_compare.cost (k : Nat) (key : Int) (x : S85) : Int := (draw_Cost.f k key x.f0).getD 0
/-- The choices of which the order speaks. -/
def draw_compare.okc (k : Nat) (key : Int) (x : S85) : Bool := (draw_Cost.f k key x.f0).isSome && (decide (0 ≤ draw_compare.cost k key x) && decide (draw_compare.cost k key x ≤ 2147483647)) && (decide (0 ≤ x.f0) && decide (x.f0 ≤ 2147483647)) && (decide (0 < x.f1) && decide (x.f1 ≤ 65536))
def draw_compare.cmp (k : Nat) (key : Int) (x y : S85) : Int := if draw_compare.cost k key x * y.f1 < draw_compare.cost k key y * x.f1 then -1 else if draw_compare.cost k key y * x.f1 < draw_compare.cost k key x * y.f1 then 1 else x.f0 - y.f0
theorem draw_compare.okc_open {k : Nat} {key : Int} {x : S85} (h : draw_compare.okc k key x = true) : draw_Cost.f k key x.f0 = some (draw_compare.cost k key x) ∧ (0 ≤ draw_compare.cost k key x ∧ draw_compare.cost k key x ≤ 2147483647) ∧ (0 ≤ x.f0 ∧ x.f0 ≤ 2147483647) ∧ 0 < x.f1 ∧ x.f1 ≤ 65536 := by
  unfold draw_compare.okc at h
  simp only [Bool.and_eq_true, decide_eq_true_eq] at h
  obtain ⟨⟨⟨h0, h1⟩, h2⟩, h3⟩ := h
  obtain ⟨v, hv⟩ := Option.isSome_iff_exists.mp h0
  refine ⟨?_, h1, h2, h3⟩
  unfold draw_compare.cost
  rw [hv]
  rfl
theorem draw_compare.prod {a b : Int} (h0 : 0 ≤ a) (h1 : a ≤ 2147483647) (h2 : 0 < b) (h3 : b ≤ 65536) : 0 ≤ a * b ∧ a * b ≤ 140737488289792 := by
  refine ⟨Int.mul_nonneg h0 (by omega), ?_⟩
  have := Int.mul_le_mul h1 h3 (by omega) (by omega)
  omega
theorem draw_compare.better (a x b y : Int) (h0 : 0 ≤ a) (h1 : a ≤ 2147483647) (h2 : 0 < x) (h3 : x ≤ 65536) (h4 : 0 ≤ b) (h5 : b ≤ 2147483647) (h6 : 0 < y) (h7 : y ≤ 65536) : neglog_Better.f a x b y = some (decide (a * y < b * x)) := by
  have i : ∀ n : Int, 0 ≤ n → n ≤ 2147483647 → neglog_in.f n = some true := fun n p q => by
    unfold neglog_in.f
    rw [if_pos p, decide_eq_true q]
  obtain ⟨p1, p2⟩ := draw_compare.prod h0 h1 h6 h7
  obtain ⟨p3, p4⟩ := draw_compare.prod h4 h5 h2 h3
  unfold neglog_Better.f
  rw [i a h0 h1, Option.bind_some, if_pos rfl, i x (by omega) (by omega), Option.bind_some, if_pos rfl, i b h4 h5, Option.bind_some, if_pos rfl, i y (by omega) (by omega), Option.bind_some, if_pos rfl, if_pos h2, if_pos h6]
  generalize a * y = p at p1 p2 ⊢
  generalize b * x = q at p3 p4 ⊢
  rw [show wrap64 p = p by unfold wrap64; omega, show wrap64 q = q by unfold wrap64; omega]
set_option maxHeartbeats 1000000 in
set_option maxRecDepth 100000 in
theorem draw_compare.callsG (k : Nat) (key : Int) (x y : S85) (w : World) (hx : draw_compare.okc k key x = true) (hy : draw_compare.okc k key y = true) :
    Calls Try.prog 90 #[.int .u64 key, .agg #[.int .i64 x.f0, .int .i64 x.f1], .agg #[.int .i64 y.f0, .int .i64 y.f1]] w fun e w' => e = .returned (.int .i64 (draw_compare.cmp k key x y)) ∧ ∃ q os, w' = Sort.grow (w.drewN q) os := by
  obtain ⟨cx, ⟨x0, x1⟩, ⟨x2, x3⟩, x4, x5⟩ := draw_compare.okc_open hx
  obtain ⟨cy, ⟨y0, y1⟩, ⟨y2, y3⟩, y4, y5⟩ := draw_compare.okc_open hy
  have b1 := draw_compare.better _ _ _ _ x0 x1 x4 x5 y0 y1 y4 y5
  have b2 := draw_compare.better _ _ _ _ y0 y1 y4 y5 x0 x1 x4 x5
  unfold draw_compare.cmp
  generalize draw_compare.cost k key x = X at cx b1 b2 ⊢
  generalize draw_compare.cost k key y = Y at cy b1 b2 ⊢
  obtain ⟨R, hR⟩ : ∃ R, R = if X * y.f1 < Y * x.f1 then -1 else if Y * x.f1 < X * y.f1 then 1 else x.f0 - y.f0 := ⟨_, rfl⟩
  rw [← hR]
  have HR := Lib.hid hR
  clear hR
  have hsub : wrap64 (x.f0 - y.f0) = x.f0 - y.f0 := by unfold wrap64; omega
  clear hx hy x0 x1 x2 x3 x4 x5 y0 y1 y2 y3 y4 y5
  have hK := fun z V W h => draw_Cost.callsG k key z V W h
  have HB1 := Lib.hid b1
  have HB2 := Lib.hid b2
  have HS := Lib.hid hsub
  clear b1 b2
  obtain ⟨W2, hW2⟩ : ∃ W2, W2 = ((w.alloc (Obj.cells #[.int .i64 x.f0, .int .i64 x.f1] 85)).alloc (Obj.cells #[.int .i64 y.f0, .int .i64 y.f1] 85)) := ⟨_, rfl⟩
  have hs2 : W2.heap.size = w.heap.size + 2 := by rw [hW2]; exact Hand.size_alloc2 _ _ _
  have a1 : W2.heap[w.heap.size]? = some (Obj.cells #[.int .i64 x.f0, .int .i64 x.f1] 85) := by rw [hW2]; exact Hand.heap_last2 _ _ _
  have a2 : W2.heap[w.heap.size + 1]? = some (Obj.cells #[.int .i64 y.f0, .int .i64 y.f1] 85) := by rw [hW2]; exact Hand.heap_last1 _ _ _
  have g1 : ∀ n os, (Sort.grow (W2.drewN n) os).heap[w.heap.size]? = some (Obj.cells #[.int .i64 x.f0, .int .i64 x.f1] 85) := fun n os => by rw [Sort.heap_grow_old _ _ (by show _ < W2.heap.size; omega)]; exact a1
  have g2 : ∀ n os, (Sort.grow (W2.drewN n) os).heap[w.heap.size + 1]? = some (Obj.cells #[.int .i64 y.f0, .int .i64 y.f1] 85) := fun n os => by rw [Sort.heap_grow_old _ _ (by show _ < W2.heap.size; omega)]; exact a2
  have c1 : ∀ n os, (Sort.grow (W2.drewN n) os).cell? ⟨w.heap.size, 0, none⟩ = some (.int .i64 x.f0) := fun n os => by simp [World.cell?, g1]
  have c2 : ∀ n os, (Sort.grow (W2.drewN n) os).cell? ⟨w.heap.size, 1, none⟩ = some (.int .i64 x.f1) := fun n os => by simp [World.cell?, g1]
  have c3 : ∀ n os, (Sort.grow (W2.drewN n) os).cell? ⟨w.heap.size + 1, 0, none⟩ = some (.int .i64 y.f0) := fun n os => by simp [World.cell?, g2]
  have c4 : ∀ n os, (Sort.grow (W2.drewN n) os).cell? ⟨w.heap.size + 1, 1, none⟩ = some (.int .i64 y.f1) := fun n os => by simp [World.cell?, g2]
  have HE := Lib.hid (show ∀ n os, ∃ q os', Sort.grow (W2.drewN n) os = Sort.grow (w.drewN q) os' from fun n os => ⟨n, _, by rw [hW2, Sort.alloc_eq_grow, Sort.alloc_eq_grow, Sort.grow_grow]; exact Hand.grow_drewN3 _ _ _ _⟩)
  have HW2 := Lib.hid hW2
  have mixed : Try.prog.follows .mixedOrders = true := by kernel_rfl
  clear a1 a2 g1 g2 hs2 hW2 hsub
  go_enter Try.func90, Try.ntmps90
  go_wp2_with fail
  rw [← HW2.out]
  go_quiet_grown (first | (go_at_call 51; refine Calls.grown_of (hK _ _ _ (by assumption))))
  have HE2 := Lib.hid (HE.out nq osq)
  have d1 := c1 nq osq
  have d2 := c2 nq osq
  have d3 := c3 nq osq
  have d4 := c4 nq osq
  clear c1 c2 c3 c4 HE HW2
  generalize Sort.grow (W2.drewN nq) osq = W3 at d1 d2 d3 d4 HE2 ⊢
  by_cases q1 : X * y.f1 < Y * x.f1
  · obtain rfl : R = -1 := by rw [HR.out, if_pos q1]
    clear HR
    have B1 := Lib.hid (show neglog_Better.f X x.f1 Y y.f1 = some true by rw [HB1.out, decide_eq_true q1])
    go_wp2_with (go_at_call 118; with_reducible refine (neglog_Better.calls _ _ _ _ true _ B1.out).mono ?_; rintro e w' ⟨rfl, ⟨nd, rfl⟩⟩)
    go_ret
    exact ⟨rfl, Hand.grow_after HE2.out _⟩
  · have B1 := Lib.hid (show neglog_Better.f X x.f1 Y y.f1 = some false by rw [HB1.out, decide_eq_false q1])
    by_cases q2 : Y * x.f1 < X * y.f1
    · obtain rfl : R = 1 := by rw [HR.out, if_neg q1, if_pos q2]
      clear HR
      have B2 := Lib.hid (show neglog_Better.f Y y.f1 X x.f1 = some true by rw [HB2.out, decide_eq_true q2])
      go_wp2_with (first | (go_at_call 118; with_reducible refine (neglog_Better.calls X x.f1 Y y.f1 false _ B1.out).mono ?_; rintro e w' ⟨rfl, ⟨nd, rfl⟩⟩) | (go_at_call 118; with_reducible refine (neglog_Better.calls Y y.f1 X x.f1 true _ B2.out).mono ?_; rintro e w' ⟨rfl, ⟨nd2, rfl⟩⟩))
      go_ret
      exact ⟨rfl, Hand.grow_after HE2.out _⟩
    · obtain rfl : R = x.f0 - y.f0 := by rw [HR.out, if_neg q1, if_neg q2]
      clear HR
      have B2 := Lib.hid (show neglog_Better.f Y y.f1 X x.f1 = some false by rw [HB2.out, decide_eq_false q2])
      go_wp2_with (first | (go_at_call 118; with_reducible refine (neglog_Better.calls X x.f1 Y y.f1 false _ B1.out).mono ?_; rintro e w' ⟨rfl, ⟨nd, rfl⟩⟩) | (go_at_call 118; with_reducible refine (neglog_Better.calls Y y.f1 X x.f1 false _ B2.out).mono ?_; rintro e w' ⟨rfl, ⟨nd2, rfl⟩⟩))
      go_ret
      exact ⟨by rw [HS.out]; rfl, Hand.grow_after HE2.out _⟩

/-! ### api_Choice_85: function 85 -/
set_option maxHeartbeats 2000000 in
set_option maxRecDepth 100000 in
theorem api_Choice_85.walk (g : Nat) (eg : Go.Proofs.Enters Try.prog g) (p : S85 → Bool) (blk cap : Nat) (l : List (S85)) (w : World)
    (hp : ∀ (W : World) (x : S85), Calls Try.prog g (#[.agg (draw_compare.enc x).toArray] ++ #[]) W fun e w' => e = .returned (.bool (p x)) ∧ Below W.heap.size W w')
    (hH : Sort.HoldsK draw_compare.enc 2 w blk 0 l.toArray) (hblk : blk < w.heap.size) (hsz : l.length ≤ 1000000) (hcap : l.length ≤ cap) :
    Calls Try.prog 85 #[.slice (some ⟨blk, 0, none⟩) l.length cap, .func (.func g) #[] #[]] w fun e w' => e = .returned (.slice (some ⟨blk, 0, none⟩) (l.filter fun x => !p x).length cap) ∧
      ∃ d : Array (S85), d.size = l.length ∧ d.toList.take (l.filter fun x => !p x).length = (l.filter fun x => !p x) ∧ Hand.RowAt draw_compare.enc 2 w blk d w' := by
  have henc : ∀ x, (draw_compare.enc x).length = 2 := fun _ => rfl
  have h1c : ∀ x, ∀ v ∈ draw_compare.enc x, v.oneCell' = true := fun x v hv => by
    simp only [draw_compare.enc, List.mem_cons, List.not_mem_nil, or_false] at hv
    rcases hv with rfl | rfl <;> rfl
  have hR0 : Hand.RowAt draw_compare.enc 2 w blk l.toArray w := Hand.RowAt.start hH hblk
  have hrow : ∀ (W : World) (dk : Array (S85)), Sort.HoldsK draw_compare.enc 2 W blk 0 dk → ∀ j, j < dk.size → W.cell? ⟨blk, j * 2, none⟩ = some (.int .i64 dk[j]!.f0) ∧ W.cell? ⟨blk, j * 2 + 1, none⟩ = some (.int .i64 dk[j]!.f1) ∧ W.frozen? ⟨blk, j * 2, none⟩ = false ∧ W.frozen? ⟨blk, j * 2 + 1, none⟩ = false := fun W dk h j hj => by
    have q0 := h.cell (i := j) (c := 0) hj (by omega)
    have q1 := h.cell (i := j) (c := 1) hj (by omega)
    simp only [Nat.zero_add, Nat.add_zero] at q0 q1
    exact ⟨q0.1, q1.1, q0.2, q1.2⟩
  have hIF := AnyQ.slices_IndexFunc Try.idxChoice 2 Try.isAgg85 Try.sizeOf85 draw_compare.enc henc p g #[] eg blk 0 l.length cap l w (fun W x hb => (hp W x).mono fun _ _ ⟨he, h2⟩ => ⟨he, hb.trans (h2.mono hb.size)⟩) (Nat.le_refl _) (by omega) hblk (fun j hj i v hi => by
    have hc := hH.cell (i := j) (c := i) (by simpa using hj) (by have := (List.getElem?_eq_some_iff.1 hi).1; rwa [henc] at this)
    rw [hc.1]
    have e : l.toArray[j]! = l[j]! := by rw [getElem!_pos l.toArray j (by simpa using hj), getElem!_pos l j hj]; simp
    rw [e, List.getElem!_eq_getElem?_getD, hi]
    rfl)
  rw [List.take_length] at hIF
  change Calls Try.prog 115 _ _ _ at hIF
  obtain ⟨kp, HK⟩ : ∃ kp : Nat → Bool, Hid (kp = fun j => !p l.toArray[j]!) := ⟨_, rfl⟩
  have hfil : (l.filter fun x => !p x) = Lib.keptUpTo kp l.toArray l.length := by
    have := (Lib.keptUpTo_filter (fun x => !p x) l.toArray).symm
    rw [HK.out]
    simpa using this
  rw [hfil]
  have hkl : ∀ j, j < l.length → l.toArray[j]! = l[j]! := fun j hj => by rw [getElem!_pos l.toArray j (by simpa using hj), getElem!_pos l j hj]; simp
  rcases idxByFrom_spec (fun _ y => p y) default l 0 with ⟨e1, hall⟩ | ⟨k0, hk0, e1, ht, hall⟩
  · have e2 : Lib.idxBy (fun _ y => p y) l default = -1 := e1
    rw [e2] at hIF
    have e3 : Lib.keptUpTo kp l.toArray l.length = l := by
      rw [← hfil, List.filter_eq_self]
      intro x hx
      obtain ⟨j, hj, rfl⟩ := List.mem_iff_getElem.1 hx
      have := hall j hj
      rw [getElem!_pos l j hj] at this
      rw [this]
      rfl
    rw [e3]
    have HR0 := Lib.hid hR0
    clear hR0 hH hp hall e1 e2 hrow hfil hkl e3
    go_enter Try.func85, Try.ntmps85
    go_wp2_with (go_at_call 115; refine hIF.mono ?_; rintro e w' ⟨rfl, hb⟩; have HB := Lib.hid hb; clear hb)
    go_ret
    exact ⟨rfl, l.toArray, by simp, by simp, HR0.out.below HB.out⟩
  · have e2 : Lib.idxBy (fun _ y => p y) l default = (k0 : Int) := by unfold Lib.idxBy; rw [e1]; simp
    rw [e2] at hIF
    have hkeep : ∀ j, j < k0 → kp j = true := fun j hj => by rw [HK.out]; show (!p l.toArray[j]!) = true; rw [hkl j (by omega), hall j hj]; rfl
    have hdrop : kp k0 = false := by rw [HK.out]; show (!p l.toArray[k0]!) = false; rw [hkl k0 hk0]; rw [show p l[k0]! = true from ht]; rfl
    have hne1 : ((k0 : Int) == -1) = false := beq_eq_false_iff_ne.2 (by omega)
    have eg2 : ∀ args w, (callFunc g args).run Try.prog w = .ok (.enter g args) w := eg
    have HR0 := Lib.hid hR0
    have HP := Lib.hid hp
    have HROW := Lib.hid hrow
    have HS0 := Lib.hid (Lib.KeptInv.start (d := l.toArray) hkeep hdrop)
    clear hR0 hH hp hall e1 e2 hrow hfil hkl hkeep hdrop ht eg
    go_enter Try.func85, Try.ntmps85
    go_wp2_with (go_at_call 115; refine hIF.mono ?_; rintro e w' ⟨rfl, hb⟩; have HB := Lib.hid hb; clear hb)
    clear hIF
    go_loopg [5, 6, 7] l.length (fun gg s5 s6 _ wr => ∃ (i j : Nat) (dk : Array (S85)), s5 = .int .i64 i ∧ s6 = .int .i64 j ∧ j ≤ l.length ∧ l.length - j ≤ gg ∧ Hid (Lib.KeptInv kp l.toArray j i dk) ∧ Hid (Hand.RowAt draw_compare.enc 2 w blk dk wr))
    case atStart => exact ⟨k0, k0 + 1, l.toArray, rfl, by go_num, by omega, by omega, HS0, Lib.hid (HR0.out.below HB.out)⟩
    case round =>
      obtain ⟨i, j, dk, rfl, rfl, hjd, hgg, I2, R2⟩ := hrel
      have hij := I2.out.lt
      have hds : dk.size = l.length := by have := I2.out.size; simpa using this
      by_cases hlt : j < l.length
      · have hltz : (j : Int) < (l.length : Int) := by omega
        obtain ⟨cj0, cj1, _, _⟩ := HROW.out _ _ R2.out.holds j (by omega)
        rw [I2.out.high j (by omega)] at cj0 cj1
        generalize hu : l.toArray[j]! = u at cj0 cj1
        have C := Lib.hid hu
        clear hu
        obtain ⟨W2, hW2⟩ : ∃ W2, wr.alloc (Obj.cells #[.int .i64 u.f0, .int .i64 u.f1] 85) = W2 := ⟨_, rfl⟩
        have ha : W2.heap[wr.heap.size]? = some (Obj.cells #[.int .i64 u.f0, .int .i64 u.f1] 85) := by rw [← hW2]; exact Hand.heap_last _ _
        have hRW : Hand.RowAt draw_compare.enc 2 w blk dk W2 := by rw [← hW2]; exact R2.out.below (below_alloc (Below.refl _ _) _)
        have c1 : W2.cell? ⟨wr.heap.size, 0, none⟩ = some (.int .i64 u.f0) := by simp [World.cell?, ha]
        have c2 : W2.cell? ⟨wr.heap.size, 1, none⟩ = some (.int .i64 u.f1) := by simp [World.cell?, ha]
        have hcall := HP.out W2 u
        have HRW := Lib.hid hRW
        have hsz2 : wr.heap.size < W2.heap.size := by rw [← hW2]; show _ < (wr.heap.push _).size; simp
        clear hRW ha
        change Calls Try.prog g #[.agg #[.int .i64 u.f0, .int .i64 u.f1]] W2 _ at hcall
        have hiz : (i : Int) < (l.length : Int) := by omega
        cases hq : p u with
        | true =>
          rw [hq] at hcall
          go_wp2_with (go_at_fn g; refine hcall.mono ?_; rintro e w' ⟨rfl, hb⟩; have HR' := Lib.hid (HRW.out.below hb); clear hb)
          go_roundg (l.length - (j + 1))
          case measure => omega
          case rel => exact ⟨i, j + 1, dk, rfl, by go_num, by omega, Nat.le_refl _, Lib.hid (I2.out.skip (by rw [HK.out]; show (!p l.toArray[j]!) = false; rw [C.out, hq]; rfl)), HR'⟩
        | false =>
          rw [hq] at hcall
          go_wp2_with (go_at_fn g; refine hcall.mono ?_; rintro e w' ⟨rfl, hb⟩; have HR' := Lib.hid (HRW.out.below hb); replace c1 := (hb.cell (p := ⟨wr.heap.size, 0, none⟩) hsz2).trans c1; replace c2 := (hb.cell (p := ⟨wr.heap.size, 1, none⟩) hsz2).trans c2; clear hb; obtain ⟨t0, t1, f0, f1⟩ := HROW.out _ _ HR'.out.holds i (by omega); generalize dk[i]!.f0 = o0 at t0; generalize dk[i]!.f1 = o1 at t1)
          go_roundg (l.length - (j + 1))
          case measure => omega
          case rel =>
            refine ⟨i + 1, j + 1, dk.setIfInBounds i u, by go_num, by go_num, by omega, Nat.le_refl _, Lib.hid ?_, Lib.hid (HR'.out.set henc i (by omega) u)⟩
            have := I2.out.keep (by simpa using hlt) (by rw [HK.out]; show (!p l.toArray[j]!) = true; rw [C.out, hq]; rfl)
            rwa [C.out] at this
      · obtain rfl : j = l.length := by omega
        have hltz : ¬ (l.length : Int) < (l.length : Int) := by omega
        have hcl : ∀ ty, (Builtin.clear_ #[76] ty #[.slice (some ⟨blk, i * 2, none⟩) (l.length - i) (cap - i)]).run Try.prog wr = .ok (.tuple #[]) (wr.setCells blk (i * 2) (List.replicate (l.length - i) (draw_compare.enc z85)).flatten) := fun ty =>
          Hand.run_clear_k Try.prog wr 76 85 ty _ (draw_compare.enc z85) Try.underlying76 Try.zeroValue85 rfl (h1c _) blk (i * 2) _ _ (by omega) (fun t ht => by
            have h2 := R2.out.holds (i * 2 + t) (by rw [Sort.size_flatK, hds]; rw [henc, Nat.sub_mul] at ht; omega)
            rw [Nat.zero_add] at h2
            rw [h2.1]; rfl) (fun t ht => by
            have h2 := R2.out.holds (i * 2 + t) (by rw [Sort.size_flatK, hds]; rw [henc, Nat.sub_mul] at ht; omega)
            rw [Nat.zero_add] at h2
            exact h2.2)
        obtain ⟨dk', hs', hj', hF⟩ := Hand.RowAt.fill henc z85 (l.length - i) i dk wr R2.out (by omega)
        have HF := Lib.hid hF
        have HJ := Lib.hid hj'
        generalize wr.setCells blk (i * 2) (List.replicate (l.length - i) (draw_compare.enc z85)).flatten = W9 at hcl HF
        have hile : (i : Int) ≤ (l.length : Int) := by omega
        clear hF hj'
        go_wp2
        go_ret
        exact ⟨by rw [I2.out.len]; rfl, dk', by omega, Hand.kept_take I2.out hs' (by omega) HJ.out, HF.out⟩

/-! ### api_Choice_86: function 86 -/
def api_Choice_86.f (l0 : List (S85)) : Option (List (S85)) := if l0.length < 8796093022208 then some l0 else none
set_option maxHeartbeats 1000000 in
set_option maxRecDepth 100000 in
theorem api_Choice_86.calls (A0 : Option Addr) (c0 : Nat) (l0 : List (S85)) (r : List (S85)) (w : World) (hr0 : Kd.C k85 w A0 l0.length l0) (hc0 : l0.length ≤ c0) (h : api_Choice_86.f l0 = some r) :
    Calls Try.prog 86 #[.slice A0 l0.length c0] w fun e w' => ∃ v0_ : Value, e = .returned (v0_) ∧ Kd.R k85 85 w' w.heap.size (fun _ => True) v0_ r ∧ Below w.heap.size w w' := by
  unfold api_Choice_86.f at h
  split at h
  rotate_left
  · cases h
  rename_i hl
  cases h
  have HL := Aside0.mk hl
  have HR := Aside0.mk hr0
  clear hl hr0
  cases A0 with
  | none =>
    obtain rfl := Hand.C_none HR.out
    have q1 := fun W => Hand.eql_nil_nil Try.underlying76 0 c0 W
    go_enter Try.func86, Try.ntmps86
    go_wp2
    go_ret
    exact ⟨_, rfl, Kd.R_nil _ _ _ _ _, Below.refl _ _⟩
  | some a0 =>
    have q1 := fun W => Hand.eql_nil Try.underlying76 a0 l0.length c0 W
    go_enter Try.func86, Try.ntmps86
    go_wp2_with (first
      | ((with_reducible refine gate_dst (N := 5) rfl ?_); refine Kd.R_lit k85 _ 85 ?hg (N := 5) ?hd (xs := ([] : List (S85))) (inner := []) (ok := fun _ => True) (okp := fun _ => True) ?hr ?hp (fun _ hk => hk) trivial (Below.refl _ _) (Nat.le_refl _) (by simp) ?_; (case hd => rfl); (case hg => rfl); (case hr => first | (go_simp; done) | (go_simp; rfl)); (case hp => exact (Reps.none _ _)); intro v5 w5 HO5 HB5 hg_ hnew_; clear hg_ hnew_; simp only [Act.put, List.setIfInBounds_toArray, List.set_cons_zero, List.set_cons_succ])
      | ((with_reducible refine gate_builtin (b := .append) (xs := #[.tmp 5, .tmp 6]) rfl ?_); at_builtin; refine Kd.R_append_rows k85 (w0 := w) w.heap.size rfl (.tmp 5) (.tmp 6) 76 85 (.agg #[(.int .i64 0), (.int .i64 0)]) 16 rfl Try.underlying76 info85 rfl (by decide) (by decide) v5 [] l0 (some a0) l0.length c0 (fun _ => True) (fun k => some k ≠ v5.ownBlock) rfl rfl HO5 (Kd.C_below HR.out HB5) (fun x cs h => ?hM) (fun k hk => ⟨trivial, hk⟩) (fun _ _ => trivial) HB5 HB5.size (by have := HL.out; simp only [List.length_nil]; omega) ?_; (case hM => (obtain rfl := k85_open h; exact k85_mkM _ _ _ x)); intro v6 w6 HO6 HB6 hg6 hat6; clear hg6 hat6; have HO6' := Aside0.mk HO6; clear HO6; have HB6' := Aside0.mk HB6; clear HB6))
    go_ret
    exact ⟨_, rfl, HO6'.out, HB6'.out⟩

/-! ### draw_Order_1: function 87 -/
theorem draw_Order_1.callsB (x : S85) (w : World) :
    Calls Try.prog 87 (#[.agg (draw_compare.enc x).toArray] ++ #[]) w fun e w' => e = .returned (.bool (decide (x.f1 = 0))) ∧ Below w.heap.size w w' := by
  show Calls Try.prog 87 #[.agg #[.int .i64 x.f0, .int .i64 x.f1]] w _
  go_enter Try.func87, Try.ntmps87
  go_wp2
  go_ret
  exact ⟨by congr 2, by repeat (first | exact Below.refl _ _ | apply below_alloc | apply pw_below_drewN | apply below_drew1)⟩

/-! ### draw_Order_2: function 89 -/
theorem draw_Order_2.callsG (k : Nat) (key : Int) (x y : S85) (kb : Nat) (w : World) (hkey : w.cell? ⟨kb, 0, none⟩ = some (.int .u64 key)) (hx : draw_compare.okc k key x = true) (hy : draw_compare.okc k key y = true) :
    Calls Try.prog 89 (#[.agg (draw_compare.enc x).toArray, .agg (draw_compare.enc y).toArray] ++ #[.pointer (some ⟨kb, 0, none⟩)]) w fun e w' => e = .returned (.int .i64 (draw_compare.cmp k key x y)) ∧ ∃ q os, w' = Sort.grow (w.drewN q) os := by
  show Calls Try.prog 89 #[.agg #[.int .i64 x.f0, .int .i64 x.f1], .agg #[.int .i64 y.f0, .int .i64 y.f1], .pointer (some ⟨kb, 0, none⟩)] w _
  obtain ⟨W2, hW2⟩ : ∃ W2, ((w.alloc (Obj.cells #[.int .i64 x.f0, .int .i64 x.f1] 85)).alloc (Obj.cells #[.int .i64 y.f0, .int .i64 y.f1] 85)) = W2 := ⟨_, rfl⟩
  have a1 : W2.heap[w.heap.size]? = some (Obj.cells #[.int .i64 x.f0, .int .i64 x.f1] 85) := by rw [← hW2]; exact Hand.heap_last2 _ _ _
  have a2 : W2.heap[w.heap.size + 1]? = some (Obj.cells #[.int .i64 y.f0, .int .i64 y.f1] 85) := by rw [← hW2]; exact Hand.heap_last1 _ _ _
  have c0 : W2.cell? ⟨kb, 0, none⟩ = some (.int .u64 key) := by
    have hb := World.block_lt_of_cell? w _ hkey
    rw [← hW2, (((Below.refl _ w).alloc (Nat.le_refl _) _).alloc (by show _ ≤ (w.heap.push _).size; simp) _).cell (p := ⟨kb, 0, none⟩) hb]
    exact hkey
  have c1 : W2.cell? ⟨w.heap.size, 0, none⟩ = some (.int .i64 x.f0) := by simp [World.cell?, a1]
  have c2 : W2.cell? ⟨w.heap.size, 1, none⟩ = some (.int .i64 x.f1) := by simp [World.cell?, a1]
  have c3 : W2.cell? ⟨w.heap.size + 1, 0, none⟩ = some (.int .i64 y.f0) := by simp [World.cell?, a2]
  have c4 : W2.cell? ⟨w.heap.size + 1, 1, none⟩ = some (.int .i64 y.f1) := by simp [World.cell?, a2]
  have hE : ∃ q os, W2 = Sort.grow (w.drewN q) os := ⟨0, _, by rw [← hW2, Sort.alloc_eq_grow, Sort.alloc_eq_grow, Sort.grow_grow]; rfl⟩
  have HE := Lib.hid hE
  have hcmp := fun W => draw_compare.callsG k key x y W hx hy
  generalize draw_compare.cmp k key x y = R at hcmp ⊢
  clear a1 a2 hE hx hy hkey
  go_enter Try.func89, Try.ntmps89
  go_wp2_with (go_at_call 90; with_reducible refine (hcmp _).mono ?_; rintro e w' ⟨rfl, HG⟩; have HG' := Lib.hid HG; clear HG)
  go_ret
  exact ⟨rfl, Hand.grow_two HE.out HG'.out⟩

/-! ### draw_Order: function 44 -/
-- draw_Order_1 draw_Order_2 api_Choice_85 api_Choice_86
def draw_Order.asc : List (S85) → Bool
  | [] => true
  | x :: r => r.all (fun y => decide (x.f0 < y.f0)) && draw_Order.asc r
/-! The order is one: cross multiplied, then the number. -/
theorem draw_Order.cross {a b c x y z : Int} (hx : 0 < x) (hy : 0 < y) (hz : 0 < z) (h1 : a * y ≤ b * x) (h2 : b * z ≤ c * y) : a * z ≤ c * x := by
  have e1 := Int.mul_le_mul_of_nonneg_right h1 (Int.le_of_lt hz)
  have e2 := Int.mul_le_mul_of_nonneg_right h2 (Int.le_of_lt hx)
  have e3 : a * z * y ≤ c * x * y := by
    have q1 : a * z * y = a * y * z := by rw [Int.mul_assoc, Int.mul_comm z y, ← Int.mul_assoc]
    have q2 : c * x * y = c * y * x := by rw [Int.mul_assoc, Int.mul_comm x y, ← Int.mul_assoc]
    have q3 : b * x * z = b * z * x := by rw [Int.mul_assoc, Int.mul_comm x z, ← Int.mul_assoc]
    rw [q1, q2]
    omega
  exact Int.le_of_mul_le_mul_right e3 hy
theorem draw_Order.cross_lt {a b c x y z : Int} (hx : 0 < x) (hy : 0 < y) (hz : 0 < z) (h1 : a * y < b * x) (h2 : b * z ≤ c * y) : a * z < c * x := by
  have e1 := Int.mul_lt_mul_of_pos_right h1 hz
  have e2 := Int.mul_le_mul_of_nonneg_right h2 (Int.le_of_lt hx)
  have e3 : a * z * y < c * x * y := by
    have q1 : a * z * y = a * y * z := by rw [Int.mul_assoc, Int.mul_comm z y, ← Int.mul_assoc]
    have q2 : c * x * y = c * y * x := by rw [Int.mul_assoc, Int.mul_comm x y, ← Int.mul_assoc]
    have q3 : b * x * z = b * z * x := by rw [Int.mul_assoc, Int.mul_comm x z, ← Int.mul_assoc]
    rw [q1, q2]
    omega
  exact Int.lt_of_mul_lt_mul_right e3 (Int.le_of_lt hy)
theorem draw_Order.cross_lt2 {a b c x y z : Int} (hx : 0 < x) (hy : 0 < y) (hz : 0 < z) (h1 : a * y ≤ b * x) (h2 : b * z < c * y) : a * z < c * x := by
  have e1 := Int.mul_le_mul_of_nonneg_right h1 (Int.le_of_lt hz)
  have e2 := Int.mul_lt_mul_of_pos_right h2 hx
  have e3 : a * z * y < c * x * y := by
    have q1 : a * z * y = a * y * z := by rw [Int.mul_assoc, Int.mul_comm z y, ← Int.mul_assoc]
    have q2 : c * x * y = c * y * x := by rw [Int.mul_assoc, Int.mul_comm x y, ← Int.mul_assoc]
    have q3 : b * x * z = b * z * x := by rw [Int.mul_assoc, Int.mul_comm x z, ← Int.mul_assoc]
    rw [q1, q2]
    omega
  exact Int.lt_of_mul_lt_mul_right e3 (Int.le_of_lt hy)
def draw_Order.lt (k : Nat) (key : Int) (x y : S85) : Bool := decide (draw_compare.cmp k key x y < 0)
def draw_Order.f (k : Nat) (a0 : Int) (l1 : List (S85)) : Option (List Int) :=
  (draw_Check.f k l1).bind fun t => if t = 0 then
    (if l1.length ≤ 1000000 then (if draw_Order.asc l1 = true then (if (l1.filter fun x => !decide (x.f1 = 0)).all (draw_compare.okc 1000 a0) = true then some ((Hand.sortL (draw_Order.lt 1000 a0) (l1.filter fun x => !decide (x.f1 = 0))).map fun x => x.f0) else none) else none) else none)
  else some []
theorem draw_Order.mono : ∀ a0 a1 k, LeO (draw_Order.f k a0 a1) (draw_Order.f (k + 1) a0 a1) := by
  intro a0 a1 k r h
  unfold draw_Order.f at h ⊢
  obtain ⟨t, h1, h2⟩ := Option.bind_eq_some_iff.mp h
  rw [draw_Check.mono _ _ _ h1]
  exact h2
theorem draw_Order.lt_iff (k : Nat) (key : Int) (x y : S85) : draw_Order.lt k key x y = true ↔ draw_compare.cost k key x * y.f1 < draw_compare.cost k key y * x.f1 ∨ (draw_compare.cost k key x * y.f1 = draw_compare.cost k key y * x.f1 ∧ x.f0 < y.f0) := by
  unfold draw_Order.lt draw_compare.cmp
  rw [decide_eq_true_eq]
  generalize draw_compare.cost k key x * y.f1 = A
  generalize draw_compare.cost k key y * x.f1 = B
  split
  · omega
  · split <;> omega
theorem draw_Order.lt_not (k : Nat) (key : Int) (x y : S85) : draw_Order.lt k key x y = false ↔ draw_compare.cost k key y * x.f1 < draw_compare.cost k key x * y.f1 ∨ (draw_compare.cost k key y * x.f1 = draw_compare.cost k key x * y.f1 ∧ y.f0 ≤ x.f0) := by
  rw [← Bool.not_eq_true, draw_Order.lt_iff]
  omega
theorem draw_Order.swo (k : Nat) (key : Int) : Hand.SWOn (fun x => draw_compare.okc k key x = true) (draw_Order.lt k key) where
  irrefl x _ := by rw [draw_Order.lt_not]; omega
  trans x y z hx hy hz h1 h2 := by
    rw [draw_Order.lt_iff] at h1 h2 ⊢
    obtain ⟨_, _, _, x1, _⟩ := draw_compare.okc_open hx
    obtain ⟨_, _, _, y1, _⟩ := draw_compare.okc_open hy
    obtain ⟨_, _, _, z1, _⟩ := draw_compare.okc_open hz
    rcases h1 with h1 | ⟨h1, h1'⟩
    · exact .inl (draw_Order.cross_lt x1 y1 z1 h1 (by rcases h2 with h2 | ⟨h2, _⟩ <;> omega))
    · rcases h2 with h2 | ⟨h2, h2'⟩
      · exact .inl (draw_Order.cross_lt2 x1 y1 z1 (by omega) h2)
      · have e1 := draw_Order.cross x1 y1 z1 (Int.le_of_eq h1) (Int.le_of_eq h2)
        have e2 := draw_Order.cross z1 y1 x1 (Int.le_of_eq h2.symm) (Int.le_of_eq h1.symm)
        exact .inr ⟨by omega, by omega⟩
  ntrans x y z hx hy hz h1 h2 := by
    rw [draw_Order.lt_not] at h1 h2 ⊢
    obtain ⟨_, _, _, x1, _⟩ := draw_compare.okc_open hx
    obtain ⟨_, _, _, y1, _⟩ := draw_compare.okc_open hy
    obtain ⟨_, _, _, z1, _⟩ := draw_compare.okc_open hz
    rcases h2 with h2 | ⟨h2, h2'⟩
    · exact .inl (draw_Order.cross_lt z1 y1 x1 h2 (by rcases h1 with h1 | ⟨h1, _⟩ <;> omega))
    · rcases h1 with h1 | ⟨h1, h1'⟩
      · exact .inl (draw_Order.cross_lt2 z1 y1 x1 (by omega) h1)
      · have e1 := draw_Order.cross z1 y1 x1 (Int.le_of_eq h2) (Int.le_of_eq h1)
        have e2 := draw_Order.cross x1 y1 z1 (Int.le_of_eq h1.symm) (Int.le_of_eq h2.symm)
        exact .inr ⟨by omega, by omega⟩
theorem draw_Order.uni {k : Nat} {key : Int} {x y : S85} (h1 : draw_Order.lt k key x y = false) (h2 : draw_Order.lt k key y x = false) : x.f0 = y.f0 := by
  rw [draw_Order.lt_not] at h1 h2
  omega
theorem draw_Order.asc_one : ∀ {l : List (S85)}, draw_Order.asc l = true → ∀ x ∈ l, ∀ y ∈ l, x.f0 = y.f0 → x = y
  | [], _, x, hx, _, _, _ => by simp at hx
  | z :: r, h, x, hx, y, hy, he => by
    unfold draw_Order.asc at h
    rw [Bool.and_eq_true, List.all_eq_true] at h
    have hz := fun u hu => of_decide_eq_true (h.1 u hu)
    rcases List.mem_cons.1 hx with hx1 | hx1
    · rcases List.mem_cons.1 hy with hy1 | hy1
      · rw [hx1, hy1]
      · have := hz y hy1; rw [hx1] at he; omega
    · rcases List.mem_cons.1 hy with hy1 | hy1
      · have := hz x hx1; rw [hy1] at he; omega
      · exact draw_Order.asc_one h.2 x hx1 y hy1 he
/-- A row of the call's own, or none. -/
def draw_Order.Own (B : Nat) (A : Option Addr) (l : List (S85)) (w : World) : Prop := (A = none ∧ l = []) ∨ ∃ g, A = some ⟨g, 0, none⟩ ∧ B ≤ g ∧ g < w.heap.size ∧ Sort.HoldsK draw_compare.enc 2 w g 0 l.toArray
set_option maxHeartbeats 1000000 in
theorem draw_Order.idx_nil (w : World) : Calls Try.prog 115 #[.slice none 0 0, .func (.func 87) #[] #[]] w fun e w' => e = .returned (.int .i64 (-1)) ∧ Below w.heap.size w w' := by
  go_enter Try.func115, Try.ntmps115
  go_wp2
  go_loopg [5, 8] 0 (fun gg s5 s8 wr => s8 = .int .i64 0 ∧ Hid (Below w.heap.size w wr))
  case atStart => exact ⟨rfl, Lib.hid (Below.refl _ _)⟩
  case round =>
    obtain ⟨rfl, HB⟩ := hrel
    go_wp2
    go_ret
    exact ⟨rfl, HB.out⟩
set_option maxHeartbeats 1000000 in
theorem draw_Order.del_nil (w : World) : Calls Try.prog 85 #[.slice none 0 0, .func (.func 87) #[] #[]] w fun e w' => e = .returned (.slice none 0 0) ∧ Below w.heap.size w w' := by
  have hi := draw_Order.idx_nil w
  go_enter Try.func85, Try.ntmps85
  go_wp2_with (go_at_call 115; refine hi.mono ?_; rintro e w' ⟨rfl, hb⟩; have HB := Lib.hid hb; clear hb)
  go_ret
  exact ⟨rfl, HB.out⟩
theorem draw_Order.enc_len : ∀ x, (draw_compare.enc x).length = 2 := fun _ => rfl
theorem draw_Order.enc_one : ∀ x, ∀ v ∈ draw_compare.enc x, v.oneCell' = true := fun x v hv => by
  simp only [draw_compare.enc, List.mem_cons, List.not_mem_nil, or_false] at hv
  rcases hv with rfl | rfl <;> rfl
theorem draw_Order.del (W1 w : World) (v : Value) (l : List (S85)) (hB : Below W1.heap.size W1 w) (hv : Kd.R k85 85 w W1.heap.size (fun _ => True) v l) (hl : l.length ≤ 1000000) :
    Calls Try.prog 85 #[v, .func (.func 87) #[] #[]] w fun e w' => ∃ A c, e = .returned (.slice A (l.filter fun x => !decide (x.f1 = 0)).length c) ∧ Below W1.heap.size W1 w' ∧ draw_Order.Own W1.heap.size A (l.filter fun x => !decide (x.f1 = 0)) w' := by
  rcases Hand.holds_of_R (enc := draw_compare.enc) (k := 2) rfl (fun _ _ _ _ _ h => k85_openM h) draw_Order.enc_len hv with ⟨rfl, rfl⟩ | ⟨g, cap, cur, rfl, hbg, hgw, hlc, _, _, _, hH⟩
  · refine (draw_Order.del_nil w).mono ?_
    rintro e w' ⟨rfl, hb⟩
    exact ⟨none, 0, rfl, hB.trans (hb.mono hB.size), .inl ⟨rfl, rfl⟩⟩
  · refine (api_Choice_85.walk 87 (Go.Proofs.enters_of Try.func87 (by kernel_rfl) rfl) (fun x => decide (x.f1 = 0)) g cap l w (fun W x => draw_Order_1.callsB x W) hH hgw hl hlc).mono ?_
    rintro e w' ⟨rfl, d, hds, hdt, hR⟩
    refine ⟨_, _, rfl, hR.sub hB hB.size hbg, .inr ⟨g, rfl, hbg, Nat.lt_of_lt_of_le hgw hR.grown.size, ?_⟩⟩
    exact Hand.HoldsK_take hR.holds _ hdt (by have := List.length_filter_le (fun x : S85 => !decide (x.f1 = 0)) l; omega)
theorem draw_Order.srt (k : Nat) (key : Int) (W1 w : World) (kb : Nat) (A : Option Addr) (c : Nat) (l : List (S85)) (hB : Below W1.heap.size W1 w) (hO : draw_Order.Own W1.heap.size A l w) (hkey : W1.cell? ⟨kb, 0, none⟩ = some (.int .u64 key)) (hl : l.length ≤ 1000000) (hok : l.all (draw_compare.okc k key) = true) (huni : ∀ x ∈ l, ∀ y ∈ l, x.f0 = y.f0 → x = y) :
    Calls Try.prog 88 #[.slice A l.length c, .func (.func 89) #[] #[.pointer (some ⟨kb, 0, none⟩)]] w fun e w' => e = .returned (.tuple #[]) ∧ Below W1.heap.size W1 w' ∧ Kd.C k85 w' A (Hand.sortL (draw_Order.lt k key) l).length (Hand.sortL (draw_Order.lt k key) l) := by
  have hkb := World.block_lt_of_cell? W1 _ hkey
  have hlen : (Hand.sortL (draw_Order.lt k key) l).length = l.length := (Hand.sortL_perm _ l).length_eq
  rcases hO with ⟨rfl, rfl⟩ | ⟨g, rfl, hbg, hgw, hH⟩
  · have hc := AnyF.slices_SortFunc_none Try.sortChoice none c (.func (.func 89) #[] #[.pointer (some ⟨kb, 0, none⟩)]) w
    refine Calls.mono (show Calls Try.prog 88 _ w _ from hc) ?_
    rintro e w' ⟨rfl, rfl⟩
    exact ⟨rfl, hB, ⟨rfl, by simp [Hand.sortL], fun h => absurd h (by simp [Hand.sortL])⟩⟩
  · have hc := Hand.sortFunc Try.sortChoice 2 Try.isAgg85 Try.sizeOf85 draw_compare.enc draw_Order.enc_len draw_Order.enc_one (fun x => draw_compare.okc k key x = true) (draw_compare.cmp k key) (draw_Order.swo k key) 89 #[.pointer (some ⟨kb, 0, none⟩)] g c l w (Go.Proofs.enters_of Try.func89 (by kernel_rfl) rfl)
      (fun x hx => List.all_eq_true.1 hok x hx) (fun x hx y hy h1 h2 => huni x hx y hy (draw_Order.uni h1 h2))
      (fun m os dk hs x y hx hy => draw_Order_2.callsG k key x y kb _ (by
        have hsw : SWK draw_compare.enc 2 w g 0 dk (sortWorldK draw_compare.enc 2 w g 0 m dk os) := ⟨m, os, rfl⟩
        rw [World.cell?_of_block (a := ⟨kb, 0, none⟩) (Hand.SWK_block hsw kb (Nat.lt_of_lt_of_le hkb hB.size) (by have : kb < W1.heap.size := hkb; omega)), hB.cell (p := ⟨kb, 0, none⟩) hkb]
        exact hkey) hx hy) hH hgw (by omega)
    refine Calls.mono (show Calls Try.prog 88 _ w _ from hc) ?_
    rintro e w' ⟨rfl, hS⟩
    have hR := Hand.RowAt.of_swk hS hH (by simp [(Hand.sortL_perm _ l).length_eq]) hgw
    refine ⟨rfl, hR.sub hB hB.size hbg, ?_⟩
    have hC := Hand.C_of_holds (d := k85) rfl (fun W x => k85_mk W x) draw_Order.enc_len hR.holds l.length (by simp [(Hand.sortL_perm _ l).length_eq]) (by omega)
    have e : (Hand.sortL (ltOf (draw_compare.cmp k key)) l).toArray.toList.take l.length = Hand.sortL (draw_Order.lt k key) l := by
      rw [← hlen]
      exact List.take_length
    rw [e] at hC
    exact hC
set_option maxHeartbeats 2000000 in
set_option maxRecDepth 100000 in
theorem draw_Order.calls (k : Nat) (a0 : Int) (A1 : Option Addr) (c1 : Nat) (l1 : List (S85)) (r : List Int) (w : World) (hr1 : Kd.C k85 w A1 l1.length l1) (hc1 : l1.length ≤ c1) (h : draw_Order.f k a0 l1 = some r) :
    Calls Try.prog 44 #[.int .u64 a0, .slice A1 l1.length c1] w fun e w' => ∃ v0_ : Value, e = .returned (v0_) ∧ Kd.R (Kd.int .i64) 3 w' w.heap.size (fun _ => True) v0_ r ∧ Below w.heap.size w w' := by
  unfold draw_Order.f at h
  obtain ⟨t, h1, h⟩ := Option.bind_eq_some_iff.mp h
  have H1 := Lib.hid h1
  have HR1 := Lib.hid hr1
  clear h1 hr1
  obtain ⟨W1, hW1⟩ : ∃ W1, w.alloc (Obj.cells #[.int .u64 a0] 75) = W1 := ⟨_, rfl⟩
  have ha : W1.heap[w.heap.size]? = some (Obj.cells #[.int .u64 a0] 75) := by rw [← hW1]; exact Hand.heap_last _ _
  have hB1 : Below w.heap.size w W1 := by rw [← hW1]; exact below_alloc (Below.refl _ _) _
  have hkey : W1.cell? ⟨w.heap.size, 0, none⟩ = some (.int .u64 a0) := by simp [World.cell?, ha]
  have hs1 : w.heap.size ≤ W1.heap.size := hB1.size
  have HCK := Lib.hid (draw_Check.calls k A1 c1 l1 t W1 (Kd.C_below HR1.out hB1) hc1 H1.out)
  have HB1 := Lib.hid hB1
  have HKEY := Lib.hid hkey
  clear ha hB1 hkey
  by_cases ht : t = 0
  · rw [if_pos ht] at h
    by_cases hl : l1.length ≤ 1000000
    · rw [if_pos hl] at h
      by_cases hasc : draw_Order.asc l1 = true
      · rw [if_pos hasc] at h
        by_cases hall : (l1.filter fun x => !decide (x.f1 = 0)).all (draw_compare.okc 1000 a0) = true
        · rw [if_pos hall] at h
          have hr := (Option.some.inj h).symm
          subst ht
          obtain ⟨l2, hl2⟩ : ∃ l2, l2 = l1.filter fun x => !decide (x.f1 = 0) := ⟨_, rfl⟩
          rw [← hl2] at hall hr
          obtain ⟨l3, hl3⟩ : ∃ l3, l3 = Hand.sortL (draw_Order.lt 1000 a0) l2 := ⟨_, rfl⟩
          rw [← hl3] at hr
          have hl2le : l2.length ≤ 1000000 := by rw [hl2]; have := List.length_filter_le (fun x : S85 => !decide (x.f1 = 0)) l1; omega
          have hl32 : l3.length = l2.length := by rw [hl3]; exact (Hand.sortL_perm _ l2).length_eq
          have HHALL := Lib.hid hall
          have HUNI := Lib.hid (show ∀ x ∈ l2, ∀ y ∈ l2, x.f0 = y.f0 → x = y from fun x hx y hy => by rw [hl2] at hx hy; exact draw_Order.asc_one hasc x (List.mem_filter.1 hx).1 y (List.mem_filter.1 hy).1)
          have HR := Lib.hid hr
          have HL2 := Lib.hid hl2
          have HL3 := Lib.hid hl3
          clear h hall hasc hr hl2 hl3
          go_enter Try.func44, Try.ntmps44
          go_wp2_with (first
            | (go_at_call 46; refine HCK.out.mono ?_; rintro e w2 ⟨rfl, hb⟩; have HB2 := Lib.hid hb; clear hb)
            | (go_at_call 86; refine (api_Choice_86.calls A1 c1 l1 l1 _ (Kd.C_below (Kd.C_below HR1.out HB1.out) HB2.out) hc1 (by unfold api_Choice_86.f; rw [if_pos (by omega)])).mono ?_; rintro e w3 ⟨v3, rfl, hr3, hb⟩; have HR3 := Lib.hid (Kd.R_lower hr3 HB2.out.size); have HB3 := Lib.hid (HB2.out.trans (hb.mono HB2.out.size)); clear hb hr3)
            | (go_at_call 85; refine (draw_Order.del W1 _ _ l1 HB3.out HR3.out hl).mono ?_; rintro e w4 ⟨A4, c4, rfl, hb, ho⟩; rw [← HL2.out] at ho ⊢; have HB4 := Lib.hid hb; have HO4 := Lib.hid ho; clear hb ho)
            | (go_at_call 88; refine (draw_Order.srt 1000 a0 W1 _ w.heap.size A4 c4 l2 HB4.out HO4.out HKEY.out hl2le HHALL.out HUNI.out).mono ?_; rintro e w5 ⟨rfl, hb, hc⟩; rw [← HL3.out] at hc; have HB5 := Lib.hid hb; have HC5 := Lib.hid hc; clear hb hc))
          go_loopg [5, 19] l2.length (fun gg v5 v19 wr => ∃ (x : Int) (xs : List Int), v19 = .int .i64 x ∧ 0 ≤ x ∧ x ≤ l2.length ∧ Hid (l2.length - x.toNat ≤ gg) ∧ Hid (xs = (l3.take x.toNat).map fun x => x.f0) ∧ xs.length ≤ 1000000 ∧ Hid (Kd.R (Kd.int .i64) 3 wr w5.heap.size (fun _ => True) v5 xs) ∧ Hid (Below w5.heap.size w5 wr))
          case atStart => exact ⟨0, [], rfl, by omega, by omega, Lib.hid (by omega), Lib.hid (by simp), by simp, Lib.hid (Kd.R_nil _ _ _ _ _), Lib.hid (Below.refl _ _)⟩
          case round =>
            obtain ⟨x, xs, rfl, hx0, hxl, hgg, HX, hxs, HRo, HBr⟩ := hrel
            by_cases hlt : x < (l2.length : Int)
            · obtain ⟨ad, eA, cx0, cx1⟩ := at_T85 (Kd.C_below HC5.out HBr.out) x hx0 (by omega)
              have HU := Lib.hid (show l3[x.toNat]? = some (rd_T85 l3 x) by unfold rd_T85; rw [List.getD_eq_getElem?_getD, List.getElem?_eq_getElem (by omega)]; rfl)
              subst eA
              generalize rd_T85 l3 x = u at cx0 cx1 HU
              go_wp2_with (first | ((with_reducible refine gate_builtin (b := .append) (xs := #[.tmp 23, .tmp 26]) rfl ?_); at_builtin; (refine Kd.R_append (Kd.int .i64) (w0 := w5) w5.heap.size rfl (.tmp 23) (.tmp 26) 26 3 (.int .i64 0) 8 rfl Try.underlying26 info3 rfl (by decide) (by omega) u5 xs u.f0 [.int .i64 u.f0] (fun _ => True) (fun _ => False) rfl (by rw [Hand.size_alloc1]; rfl) ?aP (fun _ hk => hk.elim) ?aF ?aO ?aB ?aS ?aL ?_); (case aP => exact rfl); (case aB => exact (by repeat (first | (with_reducible first | exact HBr.out | apply below_alloc | apply pw_below_drewN | apply below_drew1) | exact HBr.out))); (case aF => exact (fun _ _ => trivial)); (case aO => exact (by (with_reducible repeat (first | apply Kd.R_alloc | apply Kd.R_drewN | apply Kd.R_drew)); exact HRo.out)); (case aS => exact (below_size (by repeat (first | (with_reducible first | exact HBr.out | apply below_alloc | apply pw_below_drewN | apply below_drew1) | exact HBr.out)))); (case aL => omega); intro v9 w9 ho hb hg hat; have HO9 := Lib.hid ho; have HB9 := Lib.hid hb; clear ho hb hg hat))
              go_roundg (l2.length - (x.toNat + 1))
              case measure => have := hgg.out; omega
              case rel => exact ⟨x + 1, xs ++ [u.f0], rfl, by omega, by omega, Lib.hid (by omega), Lib.hid (by
                rw [show (x + 1).toNat = x.toNat + 1 by omega, List.take_add_one, HU.out, HX.out]
                simp), by have := HX.out; simp only [List.length_append, this, List.length_map, List.length_take, List.length_singleton]; omega, Lib.hid (by (with_reducible repeat (first | apply Kd.R_alloc | apply Kd.R_drewN | apply Kd.R_drew)); exact HO9.out), Lib.hid (by repeat (first | (with_reducible first | exact HB9.out | apply below_alloc | apply pw_below_drewN | apply below_drew1) | exact HB9.out))⟩
            · obtain rfl : x = (l2.length : Int) := by omega
              go_wp2
              go_ret
              refine ⟨_, rfl, ?_, HB1.out.trans ((HB5.out.trans (HBr.out.mono HB5.out.size)).mono hs1)⟩
              have e : r = xs := by rw [HR.out, HX.out, Int.toNat_natCast, ← hl32, List.take_length]
              rw [e]
              exact Kd.R_lower HRo.out (Nat.le_trans hs1 HB5.out.size)
        · rw [if_neg hall] at h; cases h
      · rw [if_neg hasc] at h; cases h
    · rw [if_neg hl] at h; cases h
  · rw [if_neg ht] at h
    obtain rfl := Option.some.inj h
    have ht0 : (t == 0) = false := beq_eq_false_iff_ne.2 ht
    clear h
    go_enter Try.func44, Try.ntmps44
    go_wp2_with (go_at_call 46; refine HCK.out.mono ?_; rintro e w2 ⟨rfl, hb⟩; have HB2 := Lib.hid hb; clear hb)
    go_ret
    exact ⟨_, rfl, Kd.R_nil _ _ _ _ _, HB1.out.trans (HB2.out.mono hs1)⟩

/-! ### draw_Best: function 45 -/
def draw_Best.f (k : Nat) (a0 : Int) (l1 : List (S85)) : Option (Int × Bool) := (draw_Order.f k a0 l1).bind fun t116 => (if (t116.length : Int) = 0 then (some (0, false)) else (if 0 < (t116.length : Int) then (some (rd t116 0, true)) else (none)))
theorem draw_Best.mono : ∀ a0 a1 k, LeO (draw_Best.f k a0 a1) (draw_Best.f (k + 1) a0 a1) := by
  intro a0 a1 k
  unfold draw_Best.f
  repeat' first
      | (with_reducible exact draw_Order.mono _ _ _)
      | (with_reducible exact LeO.refl _)
      | (with_reducible exact LeO.none _)
      | (with_reducible refine LeO.ite ?_ ?_)
      | (with_reducible refine LeO.bind ?_ (fun _ => ?_))
      | exact draw_Order.mono _ _ _
      | exact LeO.none _
      | refine LeO.ite ?_ ?_
      | refine LeO.bind ?_ (fun _ => ?_)
set_option maxHeartbeats 8000000 in
set_option maxRecDepth 100000 in
theorem draw_Best.calls (k : Nat) (a0 : Int) (A1 : Option Addr) (c1 : Nat) (l1 : List (S85)) (r1 : Int) (r2 : Bool) (w : World) (hr1 : Kd.C k85 w A1 l1.length l1) (hc1 : l1.length ≤ c1) (h : draw_Best.f k a0 l1 = some (r1, r2)) :
    Calls Try.prog 45 #[.int .u64 a0, .slice A1 l1.length c1] w fun e w' => e = .returned (.tuple #[.int .i64 r1, .bool r2]) ∧ Below w.heap.size w w' := by
  have HR1 := Aside0.mk hr1
  have HC1 := Aside0.mk hc1
  clear hr1 hc1
  have HB := Aside0.mk (Below.refl w.heap.size w)
  have H : ((draw_Order.f k a0 l1).bind fun t116 => (if (t116.length : Int) = 0 then (some (0, false)) else (if 0 < (t116.length : Int) then (some (rd t116 0, true)) else (none)))) = some (r1, r2) := h
  clear h
  replace H := Option.bind_eq_some_iff.mp H
  obtain ⟨t116, A30, H⟩ := H
  replace H : (if (t116.length : Int) = 0 then (some (0, false)) else (if 0 < (t116.length : Int) then (some (rd t116 0, true)) else (none))) = some (r1, r2) := H
  have A3 := Aside0.mk A30
  clear A30
  by_cases c4 : (t116.length : Int) = 0
  · rw [if_pos c4] at H
    have c4b0 : ((t116.length : Int) == 0) = true := beq_iff_eq.mpr c4
    have c4b1 : ((t116.length : Int) != 0) = false := bne_eq_false_iff_eq.mpr c4
    clear c4
    simp only [Option.some.injEq, Prod.mk.injEq] at H
    obtain ⟨rfl, rfl⟩ := H
    go_enter Try.func45, Try.ntmps45
    go_wp2_with (first | ((with_reducible refine gate_callee (f := 44) rfl ?_); refine goesL_ (some 9) rfl rfl Try.func44 (by kernel_rfl) rfl #[.int .u64 a0, .slice A1 l1.length c1] rfl (by (try simp only [List.map_toArray, List.map_cons, List.map_nil]); first | done | rfl | (simp only [List.length_drop, List.length_take]; rfl)) ?_; (with_reducible refine (draw_Order.calls k a0 _ _ l1 t116 _ ?side1 ?side2 A3.out).mono ?_); (case side1 => repeat (first | exact HR1.out | (with_reducible refine Kd.C_alloc ?_ _) | (with_reducible refine Kd.C_drewN ?_ _) | (with_reducible refine Kd.C_drew ?_))); (case side2 => exact HC1.out); rintro e w5 ⟨v117, rfl, ho0, hb⟩; refine ⟨_, rfl, ?_⟩; have n0_ := Aside0.mk (Kd.R_lower ho0 (below_size (by repeat (first | (with_reducible first | exact HB.out | apply below_alloc | apply pw_below_drewN | apply below_drew1) | exact HB.out)))); have n1_ := Aside0.mk (below_step (by repeat (first | (with_reducible first | exact HB.out | apply below_alloc | apply pw_below_drewN | apply below_drew1) | exact HB.out)) hb); clear HB; have HO118 := n0_; have HB := n1_; clear n0_ n1_; (try clear hb); (try clear hb2); (try clear hk); (try clear hi); (try clear ho0); obtain ⟨Ao6, co6, eo6⟩ := Kd.R_slice HO118.out; subst eo6))
    go_ret2
    exact ⟨by first | rfl | (simp [errW_none, errW_some] <;> rfl) | (simp [*, errW_none, errW_some] <;> rfl), by repeat (first | (with_reducible first | exact HB.out | apply below_alloc | apply pw_below_drewN | apply below_drew1) | exact HB.out)⟩
  · rw [if_neg c4] at H
    have c4b0 : ((t116.length : Int) == 0) = false := beq_eq_false_iff_ne.mpr c4
    have c4b1 : ((t116.length : Int) != 0) = true := bne_iff_ne.mpr c4
    have c4b2 : ¬ (t116 = []) := fun h_ => c4 (by rw [h_]; rfl)
    by_cases c7 : 0 < (t116.length : Int)
    · rw [if_pos c7] at H
      have c7b0 : decide (0 < (t116.length : Int)) = true := decide_eq_true c7
      have c7b1 : decide (0 < t116.length) = true := decide_eq_true (by omega)
      clear c7
      simp only [Option.some.injEq, Prod.mk.injEq] at H
      obtain ⟨rfl, rfl⟩ := H
      go_enter Try.func45, Try.ntmps45
      go_wp2_with (first | ((with_reducible refine gate_callee (f := 44) rfl ?_); refine goesL_ (some 9) rfl rfl Try.func44 (by kernel_rfl) rfl #[.int .u64 a0, .slice A1 l1.length c1] rfl (by (try simp only [List.map_toArray, List.map_cons, List.map_nil]); first | done | rfl | (simp only [List.length_drop, List.length_take]; rfl)) ?_; (with_reducible refine (draw_Order.calls k a0 _ _ l1 t116 _ ?side1 ?side2 A3.out).mono ?_); (case side1 => repeat (first | exact HR1.out | (with_reducible refine Kd.C_alloc ?_ _) | (with_reducible refine Kd.C_drewN ?_ _) | (with_reducible refine Kd.C_drew ?_))); (case side2 => exact HC1.out); rintro e w8 ⟨v117, rfl, ho0, hb⟩; refine ⟨_, rfl, ?_⟩; have n0_ := Aside0.mk (Kd.R_lower ho0 (below_size (by repeat (first | (with_reducible first | exact HB.out | apply below_alloc | apply pw_below_drewN | apply below_drew1) | exact HB.out)))); have n1_ := Aside0.mk (below_step (by repeat (first | (with_reducible first | exact HB.out | apply below_alloc | apply pw_below_drewN | apply below_drew1) | exact HB.out)) hb); clear HB; have HO118 := n0_; have HB := n1_; clear n0_ n1_; (try clear hb); (try clear hb2); (try clear hk); (try clear hi); (try clear ho0); obtain ⟨Ao9, co9, eo9⟩ := Kd.R_slice HO118.out; subst eo9; have p119 : 0 ≤ (0 : Int) := (by omega); have q119 : 0 < (t116.length : Int) := of_decide_eq_true (by first | (with_reducible assumption) | assumption); obtain ⟨ad119, e119, hx119_0⟩ := Kd.at_int (Kd.R_reads' HO118.out).2.2 0 p119 q119; cases e119; have qi119 : (0 < t116.length) = True := eq_true (by omega); (try rw [show ((0 : Int)).toNat = 0 from rfl] at hx119_0); (try rw [Addr.add_zero'] at hx119_0); replace p119 := eq_true p119; replace q119 := eq_true q119))
      go_ret2
      exact ⟨by first | rfl | (simp [errW_none, errW_some] <;> rfl) | (simp [*, errW_none, errW_some] <;> rfl), by repeat (first | (with_reducible first | exact HB.out | apply below_alloc | apply pw_below_drewN | apply below_drew1) | exact HB.out)⟩
    · rw [if_neg c7] at H
      exact absurd H (by simp)

/-! ### windroselaw05_awake: function 43 -/
def windroselaw05_awake.f (k : Nat)  : Option (Bool) := (draw_Best.f k 5 (([(⟨1, 0⟩ : S85), (⟨7, 3⟩ : S85)] : List (S85)))).bind fun bt123 => (if bt123.2 = true then (if bt123.1 = 7 then ((draw_Order.f k 5 (([(⟨1, 0⟩ : S85), (⟨7, 3⟩ : S85)] : List (S85)))).bind fun t128 => (some ((t128.length : Int) == 1))) else (some false)) else (some false))
theorem windroselaw05_awake.mono : ∀ k, LeO (windroselaw05_awake.f k ) (windroselaw05_awake.f (k + 1) ) := by
  intro  k
  unfold windroselaw05_awake.f
  repeat' first
      | (with_reducible exact draw_Best.mono _ _ _)
      | (with_reducible exact draw_Order.mono _ _ _)
      | (with_reducible exact LeO.refl _)
      | (with_reducible exact LeO.none _)
      | (with_reducible refine LeO.ite ?_ ?_)
      | (with_reducible refine LeO.bind ?_ (fun _ => ?_))
      | exact draw_Best.mono _ _ _
      | exact draw_Order.mono _ _ _
      | exact LeO.none _
      | refine LeO.ite ?_ ?_
      | refine LeO.bind ?_ (fun _ => ?_)
set_option maxHeartbeats 8000000 in
set_option maxRecDepth 100000 in
theorem windroselaw05_awake.calls (k : Nat)  (r : Bool) (w : World) (h : windroselaw05_awake.f k  = some r) :
    Calls Try.prog 43 #[] w fun e w' => e = .returned (.bool r) ∧ Below w.heap.size w w' := by
  have hu85 := Try.underlying85
  have HB := Aside0.mk (Below.refl w.heap.size w)
  have H : ((draw_Best.f k 5 (([(⟨1, 0⟩ : S85), (⟨7, 3⟩ : S85)] : List (S85)))).bind fun bt123 => (if bt123.2 = true then (if bt123.1 = 7 then ((draw_Order.f k 5 (([(⟨1, 0⟩ : S85), (⟨7, 3⟩ : S85)] : List (S85)))).bind fun t128 => (some ((t128.length : Int) == 1))) else (some false)) else (some false))) = some r := h
  clear h
  obtain ⟨y120, hy120⟩ : ∃ y_ : List (S85), y_ = (([(⟨1, 0⟩ : S85), (⟨7, 3⟩ : S85)] : List (S85))) := ⟨_, rfl⟩
  replace H : ((draw_Best.f k 5 y120).bind fun bt123 => (if bt123.2 = true then (if bt123.1 = 7 then ((draw_Order.f k 5 (([(⟨1, 0⟩ : S85), (⟨7, 3⟩ : S85)] : List (S85)))).bind fun t128 => (some ((t128.length : Int) == 1))) else (some false)) else (some false))) = some r := by first | (rw [hy120]; with_reducible exact H) | (have H2_ := (Option.bind_some _ _).symm.trans H; rw [hy120]; with_reducible exact H2_) | (have H2_ := (Option.bind_some _ _).symm.trans H; with_reducible exact H2_) | with_reducible exact H | (rw [hy120]; exact H) | exact H
  have Ny120 := Aside0.mk hy120
  clear hy120
  replace H := Option.bind_eq_some_iff.mp H
  obtain ⟨⟨t123, t124⟩, A10, H⟩ := H
  replace H : (if t124 = true then (if t123 = 7 then ((draw_Order.f k 5 (([(⟨1, 0⟩ : S85), (⟨7, 3⟩ : S85)] : List (S85)))).bind fun t128 => (some ((t128.length : Int) == 1))) else (some false)) else (some false)) = some r := H
  have A1 := Aside0.mk A10
  clear A10
  by_cases c2 : t124 = true
  · subst c2
    have H1 : (if t123 = 7 then ((draw_Order.f k 5 (([(⟨1, 0⟩ : S85), (⟨7, 3⟩ : S85)] : List (S85)))).bind fun t128 => (some ((t128.length : Int) == 1))) else (some false)) = some r := by rw [if_pos rfl] at H; exact H
    clear H
    have H := H1
    clear H1
    by_cases c3 : t123 = 7
    · rw [if_pos c3] at H
      have c3b0 : (t123 == 7) = true := beq_iff_eq.mpr c3
      have c3b1 : (t123 != 7) = false := bne_eq_false_iff_eq.mpr c3
      clear c3
      obtain ⟨y125, hy125⟩ : ∃ y_ : List (S85), y_ = (([(⟨1, 0⟩ : S85), (⟨7, 3⟩ : S85)] : List (S85))) := ⟨_, rfl⟩
      replace H : ((draw_Order.f k 5 y125).bind fun t128 => (some ((t128.length : Int) == 1))) = some r := by first | (rw [hy125]; with_reducible exact H) | (have H2_ := (Option.bind_some _ _).symm.trans H; rw [hy125]; with_reducible exact H2_) | (have H2_ := (Option.bind_some _ _).symm.trans H; with_reducible exact H2_) | with_reducible exact H | (rw [hy125]; exact H) | exact H
      have Ny125 := Aside0.mk hy125
      clear hy125
      replace H := Option.bind_eq_some_iff.mp H
      obtain ⟨t128, A40, H⟩ := H
      replace H : (some ((t128.length : Int) == 1)) = some r := H
      have A4 := Aside0.mk A40
      clear A40
      obtain rfl := Option.some.inj H
      go_enter Try.func43, Try.ntmps43
      go_wp2_with (first | ((with_reducible refine gate_dst (N := 6) rfl ?_); (try (refine gate_guard (by rfl) ?_; dsimp only)); refine Kd.R_lit k85 _ 85 ?hg (N := 6) ?hd (xs := ([(⟨1, 0⟩ : S85), (⟨7, 3⟩ : S85)] : List (S85))) (inner := [.int .i64 1, .int .i64 0, .int .i64 7, .int .i64 3]) (ok := fun _ => True) (okp := fun _ => True) ?hr ?hp (fun _ hk => hk) trivial (Below.refl _ _) (Nat.le_refl _) (by simp) ?_; (case hd => rfl); (case hg => rfl); (case hr => first | (go_simp; done) | (go_simp; rfl)); (case hp => exact (Reps.c2 (show Kd.M k85 _ _ _ (⟨1, 0⟩ : S85) [.int .i64 1, .int .i64 0] from (k85_mkM _ _ _ (⟨1, 0⟩ : S85) )) (Reps.c2 (show Kd.M k85 _ _ _ (⟨7, 3⟩ : S85) [.int .i64 7, .int .i64 3] from (k85_mkM _ _ _ (⟨7, 3⟩ : S85) )) (Reps.none _ _)))); intro v121 w5 ho6 hb hg_ hnew_; clear hg_ hnew_; (first | rw [← Ny120.out] at ho6 | (simp only [Int.reduceToNat] at ho6; rw [← Ny120.out] at ho6)); have n0_ := Aside0.mk (Kd.R_lower ho6 (below_size (by repeat (first | (with_reducible first | exact HB.out | apply below_alloc | apply pw_below_drewN | apply below_drew1) | exact HB.out)))); have n1_ := Aside0.mk (below_step (by repeat (first | (with_reducible first | exact HB.out | apply below_alloc | apply pw_below_drewN | apply below_drew1) | exact HB.out)) hb); clear HB; have HO122 := n0_; have HB := n1_; clear n0_ n1_; clear hb ho6; obtain ⟨Ao7, co7, eo7⟩ := Kd.R_slice HO122.out; subst eo7) | ((with_reducible refine gate_callee (f := 45) rfl ?_); refine goesL_ (some 7) rfl rfl Try.func45 (by kernel_rfl) rfl #[.int .u64 5, .slice Ao7 y120.length co7] rfl (by (try simp only [List.map_toArray, List.map_cons, List.map_nil]); first | done | rfl | (simp only [List.length_drop, List.length_take]; rfl)) ?_; (with_reducible refine (draw_Best.calls k 5 _ _ y120 t123 true _ ?side1 ?side2 A1.out).mono ?_); (case side1 => repeat (first | exact (Kd.R_reads' HO122.out).2.2 | (with_reducible refine Kd.C_alloc ?_ _) | (with_reducible refine Kd.C_drewN ?_ _) | (with_reducible refine Kd.C_drew ?_))); (case side2 => exact (Kd.R_reads' HO122.out).2.1); rintro e w8 ⟨rfl, hb⟩; refine ⟨_, rfl, ?_⟩; have n0_ := Aside0.mk (Kd.R_below (by (with_reducible repeat (first | apply Kd.R_alloc | apply Kd.R_drewN | apply Kd.R_drew)); exact HO122.out) hb); have n1_ := Aside0.mk (below_step (by repeat (first | (with_reducible first | exact HB.out | apply below_alloc | apply pw_below_drewN | apply below_drew1) | exact HB.out)) hb); clear HO122; clear HB; have HO122 := n0_; have HB := n1_; clear n0_ n1_; (try clear hb); (try clear hb2); (try clear hk); (try clear hi)) | ((with_reducible refine gate_dst (N := 18) rfl ?_); (try (refine gate_guard (by rfl) ?_; dsimp only)); refine Kd.R_lit k85 _ 85 ?hg (N := 18) ?hd (xs := ([(⟨1, 0⟩ : S85), (⟨7, 3⟩ : S85)] : List (S85))) (inner := [.int .i64 1, .int .i64 0, .int .i64 7, .int .i64 3]) (ok := fun _ => True) (okp := fun _ => True) ?hr ?hp (fun _ hk => hk) trivial (Below.refl _ _) (Nat.le_refl _) (by simp) ?_; (case hd => rfl); (case hg => rfl); (case hr => first | (go_simp; done) | (go_simp; rfl)); (case hp => exact (Reps.c2 (show Kd.M k85 _ _ _ (⟨1, 0⟩ : S85) [.int .i64 1, .int .i64 0] from (k85_mkM _ _ _ (⟨1, 0⟩ : S85) )) (Reps.c2 (show Kd.M k85 _ _ _ (⟨7, 3⟩ : S85) [.int .i64 7, .int .i64 3] from (k85_mkM _ _ _ (⟨7, 3⟩ : S85) )) (Reps.none _ _)))); intro v126 w9 ho10 hb hg_ hnew_; clear hg_ hnew_; (first | rw [← Ny125.out] at ho10 | (simp only [Int.reduceToNat] at ho10; rw [← Ny125.out] at ho10)); have n0_ := Aside0.mk (Kd.R_elder' (by (with_reducible repeat (first | apply Kd.R_alloc | apply Kd.R_drewN | apply Kd.R_drew)); exact HO122.out) (Kd.R_base ho10) hb); have n1_ := Aside0.mk (Kd.R_lower (Kd.R_new' ho10 (Kd.R_lt (by (with_reducible repeat (first | apply Kd.R_alloc | apply Kd.R_drewN | apply Kd.R_drew)); exact HO122.out))) (below_size (by repeat (first | (with_reducible first | exact HB.out | apply below_alloc | apply pw_below_drewN | apply below_drew1) | exact HB.out)))); have n2_ := Aside0.mk (below_step (by repeat (first | (with_reducible first | exact HB.out | apply below_alloc | apply pw_below_drewN | apply below_drew1) | exact HB.out)) hb); clear HO122; clear HB; have HO122 := n0_; have HO127 := n1_; have HB := n2_; clear n0_ n1_ n2_; clear hb ho10; obtain ⟨Ao11, co11, eo11⟩ := Kd.R_slice HO127.out; subst eo11) | (go_at_call 44; (with_reducible refine (draw_Order.calls k 5 _ _ y125 t128 _ ?side1 ?side2 A4.out).mono ?_); (case side1 => repeat (first | exact (Kd.R_reads' HO127.out).2.2 | (with_reducible refine Kd.C_alloc ?_ _) | (with_reducible refine Kd.C_drewN ?_ _) | (with_reducible refine Kd.C_drew ?_))); (case side2 => exact (Kd.R_reads' HO127.out).2.1); rintro e w12 ⟨v129, rfl, ho0, hb⟩; have n0_ := Aside0.mk (Kd.R_below (by (with_reducible repeat (first | apply Kd.R_alloc | apply Kd.R_drewN | apply Kd.R_drew)); exact HO122.out) hb); have n1_ := Aside0.mk (Kd.R_below (by (with_reducible repeat (first | apply Kd.R_alloc | apply Kd.R_drewN | apply Kd.R_drew)); exact HO127.out) hb); have n2_ := Aside0.mk (Kd.R_lower ho0 (below_size (by repeat (first | (with_reducible first | exact HB.out | apply below_alloc | apply pw_below_drewN | apply below_drew1) | exact HB.out)))); have n3_ := Aside0.mk (below_step (by repeat (first | (with_reducible first | exact HB.out | apply below_alloc | apply pw_below_drewN | apply below_drew1) | exact HB.out)) hb); clear HO122; clear HO127; clear HB; have HO122 := n0_; have HO127 := n1_; have HO130 := n2_; have HB := n3_; clear n0_ n1_ n2_ n3_; (try clear hb); (try clear hb2); (try clear hk); (try clear hi); (try clear ho0); obtain ⟨Ao13, co13, eo13⟩ := Kd.R_slice HO130.out; subst eo13))
      go_ret
      exact ⟨by first | rfl | (simp [errW_none, errW_some] <;> rfl) | (simp [*, errW_none, errW_some] <;> rfl), by repeat (first | (with_reducible first | exact HB.out | apply below_alloc | apply pw_below_drewN | apply below_drew1) | exact HB.out)⟩
    · rw [if_neg c3] at H
      have c3b0 : (t123 == 7) = false := beq_eq_false_iff_ne.mpr c3
      have c3b1 : (t123 != 7) = true := bne_iff_ne.mpr c3
      obtain rfl := Option.some.inj H
      go_enter Try.func43, Try.ntmps43
      go_wp2_with (first | ((with_reducible refine gate_dst (N := 6) rfl ?_); (try (refine gate_guard (by rfl) ?_; dsimp only)); refine Kd.R_lit k85 _ 85 ?hg (N := 6) ?hd (xs := ([(⟨1, 0⟩ : S85), (⟨7, 3⟩ : S85)] : List (S85))) (inner := [.int .i64 1, .int .i64 0, .int .i64 7, .int .i64 3]) (ok := fun _ => True) (okp := fun _ => True) ?hr ?hp (fun _ hk => hk) trivial (Below.refl _ _) (Nat.le_refl _) (by simp) ?_; (case hd => rfl); (case hg => rfl); (case hr => first | (go_simp; done) | (go_simp; rfl)); (case hp => exact (Reps.c2 (show Kd.M k85 _ _ _ (⟨1, 0⟩ : S85) [.int .i64 1, .int .i64 0] from (k85_mkM _ _ _ (⟨1, 0⟩ : S85) )) (Reps.c2 (show Kd.M k85 _ _ _ (⟨7, 3⟩ : S85) [.int .i64 7, .int .i64 3] from (k85_mkM _ _ _ (⟨7, 3⟩ : S85) )) (Reps.none _ _)))); intro v121 w14 ho15 hb hg_ hnew_; clear hg_ hnew_; (first | rw [← Ny120.out] at ho15 | (simp only [Int.reduceToNat] at ho15; rw [← Ny120.out] at ho15)); have n0_ := Aside0.mk (Kd.R_lower ho15 (below_size (by repeat (first | (with_reducible first | exact HB.out | apply below_alloc | apply pw_below_drewN | apply below_drew1) | exact HB.out)))); have n1_ := Aside0.mk (below_step (by repeat (first | (with_reducible first | exact HB.out | apply below_alloc | apply pw_below_drewN | apply below_drew1) | exact HB.out)) hb); clear HB; have HO122 := n0_; have HB := n1_; clear n0_ n1_; clear hb ho15; obtain ⟨Ao16, co16, eo16⟩ := Kd.R_slice HO122.out; subst eo16) | ((with_reducible refine gate_callee (f := 45) rfl ?_); refine goesL_ (some 7) rfl rfl Try.func45 (by kernel_rfl) rfl #[.int .u64 5, .slice Ao16 y120.length co16] rfl (by (try simp only [List.map_toArray, List.map_cons, List.map_nil]); first | done | rfl | (simp only [List.length_drop, List.length_take]; rfl)) ?_; (with_reducible refine (draw_Best.calls k 5 _ _ y120 t123 true _ ?side1 ?side2 A1.out).mono ?_); (case side1 => repeat (first | exact (Kd.R_reads' HO122.out).2.2 | (with_reducible refine Kd.C_alloc ?_ _) | (with_reducible refine Kd.C_drewN ?_ _) | (with_reducible refine Kd.C_drew ?_))); (case side2 => exact (Kd.R_reads' HO122.out).2.1); rintro e w17 ⟨rfl, hb⟩; refine ⟨_, rfl, ?_⟩; have n0_ := Aside0.mk (Kd.R_below (by (with_reducible repeat (first | apply Kd.R_alloc | apply Kd.R_drewN | apply Kd.R_drew)); exact HO122.out) hb); have n1_ := Aside0.mk (below_step (by repeat (first | (with_reducible first | exact HB.out | apply below_alloc | apply pw_below_drewN | apply below_drew1) | exact HB.out)) hb); clear HO122; clear HB; have HO122 := n0_; have HB := n1_; clear n0_ n1_; (try clear hb); (try clear hb2); (try clear hk); (try clear hi)))
      go_ret
      exact ⟨by first | rfl | (simp [errW_none, errW_some] <;> rfl) | (simp [*, errW_none, errW_some] <;> rfl), by repeat (first | (with_reducible first | exact HB.out | apply below_alloc | apply pw_below_drewN | apply below_drew1) | exact HB.out)⟩
  · replace c2 := Bool.eq_false_iff.mpr c2
    subst c2
    have H1 : (some false) = some r := by rw [if_neg (show ¬ (false = true) by decide)] at H; exact H
    clear H
    have H := H1
    clear H1
    obtain rfl := Option.some.inj H
    go_enter Try.func43, Try.ntmps43
    go_wp2_with (first | ((with_reducible refine gate_dst (N := 6) rfl ?_); (try (refine gate_guard (by rfl) ?_; dsimp only)); refine Kd.R_lit k85 _ 85 ?hg (N := 6) ?hd (xs := ([(⟨1, 0⟩ : S85), (⟨7, 3⟩ : S85)] : List (S85))) (inner := [.int .i64 1, .int .i64 0, .int .i64 7, .int .i64 3]) (ok := fun _ => True) (okp := fun _ => True) ?hr ?hp (fun _ hk => hk) trivial (Below.refl _ _) (Nat.le_refl _) (by simp) ?_; (case hd => rfl); (case hg => rfl); (case hr => first | (go_simp; done) | (go_simp; rfl)); (case hp => exact (Reps.c2 (show Kd.M k85 _ _ _ (⟨1, 0⟩ : S85) [.int .i64 1, .int .i64 0] from (k85_mkM _ _ _ (⟨1, 0⟩ : S85) )) (Reps.c2 (show Kd.M k85 _ _ _ (⟨7, 3⟩ : S85) [.int .i64 7, .int .i64 3] from (k85_mkM _ _ _ (⟨7, 3⟩ : S85) )) (Reps.none _ _)))); intro v121 w18 ho19 hb hg_ hnew_; clear hg_ hnew_; (first | rw [← Ny120.out] at ho19 | (simp only [Int.reduceToNat] at ho19; rw [← Ny120.out] at ho19)); have n0_ := Aside0.mk (Kd.R_lower ho19 (below_size (by repeat (first | (with_reducible first | exact HB.out | apply below_alloc | apply pw_below_drewN | apply below_drew1) | exact HB.out)))); have n1_ := Aside0.mk (below_step (by repeat (first | (with_reducible first | exact HB.out | apply below_alloc | apply pw_below_drewN | apply below_drew1) | exact HB.out)) hb); clear HB; have HO122 := n0_; have HB := n1_; clear n0_ n1_; clear hb ho19; obtain ⟨Ao20, co20, eo20⟩ := Kd.R_slice HO122.out; subst eo20) | ((with_reducible refine gate_callee (f := 45) rfl ?_); refine goesL_ (some 7) rfl rfl Try.func45 (by kernel_rfl) rfl #[.int .u64 5, .slice Ao20 y120.length co20] rfl (by (try simp only [List.map_toArray, List.map_cons, List.map_nil]); first | done | rfl | (simp only [List.length_drop, List.length_take]; rfl)) ?_; (with_reducible refine (draw_Best.calls k 5 _ _ y120 t123 false _ ?side1 ?side2 A1.out).mono ?_); (case side1 => repeat (first | exact (Kd.R_reads' HO122.out).2.2 | (with_reducible refine Kd.C_alloc ?_ _) | (with_reducible refine Kd.C_drewN ?_ _) | (with_reducible refine Kd.C_drew ?_))); (case side2 => exact (Kd.R_reads' HO122.out).2.1); rintro e w21 ⟨rfl, hb⟩; refine ⟨_, rfl, ?_⟩; have n0_ := Aside0.mk (Kd.R_below (by (with_reducible repeat (first | apply Kd.R_alloc | apply Kd.R_drewN | apply Kd.R_drew)); exact HO122.out) hb); have n1_ := Aside0.mk (below_step (by repeat (first | (with_reducible first | exact HB.out | apply below_alloc | apply pw_below_drewN | apply below_drew1) | exact HB.out)) hb); clear HO122; clear HB; have HO122 := n0_; have HB := n1_; clear n0_ n1_; (try clear hb); (try clear hb2); (try clear hk); (try clear hi)))
    go_ret
    exact ⟨by first | rfl | (simp [errW_none, errW_some] <;> rfl) | (simp [*, errW_none, errW_some] <;> rfl), by repeat (first | (with_reducible first | exact HB.out | apply below_alloc | apply pw_below_drewN | apply below_drew1) | exact HB.out)⟩

end Go.Proofs.Ytilgmccdpddeoaa.PDrawEach
