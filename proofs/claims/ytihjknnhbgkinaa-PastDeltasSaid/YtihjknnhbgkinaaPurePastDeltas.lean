/- The law PastDeltas, plain. -/
import Derived.Test.YtihjknnhbgkinaaSQoPastDeltas
namespace Go.Proofs.Ytihjknnhbgkinaa.SQ
open Go Go.RowKit Go.Proofs.Ytihjknnhbgkinaa.Sl
set_option linter.unusedVariables false
set_option linter.unusedSimpArgs false
namespace Past
theorem w64n (i : Nat) (h : i < 9223372036854775807) : w64 ((i : Int) + 1) = ((i + 1 : Nat) : Int) := by rw [w64_of (by omega) (by omega)]; omega
theorem nth_get {α : Type} (z : α) (l : List α) (i : Nat) (h : i < l.length) : nth z l (i : Int) = l[i] := by simp [nth, h]
theorem drop_eq {α : Type} (a b : List α) (i : Nat) (ha : i < a.length) (hb : i < b.length) : (a.drop i = b.drop i) ↔ (a[i] = b[i] ∧ a.drop (i + 1) = b.drop (i + 1)) := by
  rw [List.drop_eq_getElem_cons ha, List.drop_eq_getElem_cons hb, List.cons.injEq]
theorem etaD (x : T_api_Delta) : (⟨x.f0, x.f1, x.f2, x.f3, x.f4, x.f5, x.f6⟩ : T_api_Delta) = x := rfl
theorem some_bind_some {α : Type} (x : Option α) : (x.bind fun t => some t) = x := by cases x <;> rfl
/-! rows of numbers -/
theorem equal_l9 (a b : List Int) (hab : a.length = b.length) (hl : a.length < 4611686018427387904) : ∀ (d k i : Nat), i + d = a.length → d < k → slices_Equal__int_int.l9 k a b (i : Int) = some (decide (a.drop i = b.drop i)) := by
  intro d
  induction d with
  | zero =>
    intro k i hi hk
    obtain ⟨k, rfl⟩ : ∃ m, k = m + 1 := ⟨k - 1, by omega⟩
    rw [slices_Equal__int_int.l9_s, if_neg (by omega), List.drop_eq_nil_of_le (by omega), List.drop_eq_nil_of_le (by omega)]
    rfl
  | succ d ih =>
    intro k i hi hk
    obtain ⟨k, rfl⟩ : ∃ m, k = m + 1 := ⟨k - 1, by omega⟩
    have h1 : i < a.length := by omega
    have h2 : i < b.length := by omega
    rw [slices_Equal__int_int.l9_s, if_pos (by omega), if_pos (by omega), if_pos (by omega), nth_get _ _ _ h1, nth_get _ _ _ h2, w64n i (by omega)]
    by_cases h : a[i] = b[i]
    · rw [if_pos h, ih k (i + 1) (by omega) (by omega)]
      simp only [drop_eq a b i h1 h2, h, true_and]
    · rw [if_neg h]
      simp only [drop_eq a b i h1 h2, h, false_and, decide_false]
theorem ints_l9 (a b : List Int) (hab : a.length = b.length) (hl : a.length < 4611686018427387904) : ∀ (d k i : Nat), i + d = a.length → d < k → windroseref02_Ints.l9 k a b (i : Int) = some (decide (a.drop i = b.drop i)) := by
  intro d
  induction d with
  | zero =>
    intro k i hi hk
    obtain ⟨k, rfl⟩ : ∃ m, k = m + 1 := ⟨k - 1, by omega⟩
    rw [windroseref02_Ints.l9_s, if_neg (by omega), List.drop_eq_nil_of_le (by omega), List.drop_eq_nil_of_le (by omega)]
    rfl
  | succ d ih =>
    intro k i hi hk
    obtain ⟨k, rfl⟩ : ∃ m, k = m + 1 := ⟨k - 1, by omega⟩
    have h1 : i < a.length := by omega
    have h2 : i < b.length := by omega
    rw [windroseref02_Ints.l9_s, if_pos (by omega), if_pos (by omega), if_pos (by omega), nth_get _ _ _ h1, nth_get _ _ _ h2, w64n i (by omega)]
    by_cases h : a[i] = b[i]
    · rw [if_pos h, ih k (i + 1) (by omega) (by omega)]
      simp only [drop_eq a b i h1 h2, h, true_and]
    · rw [if_neg h]
      simp only [drop_eq a b i h1 h2, h, false_and, decide_false]
theorem equal_f (a b : List Int) (k : Nat) (hl : a.length < 4611686018427387904) (hk : a.length < k) : slices_Equal__int_int.f k a b = some (decide (a = b)) := by
  unfold slices_Equal__int_int.f
  by_cases h : a.length = b.length
  · rw [if_pos (by omega)]
    exact equal_l9 a b h hl a.length k 0 (by omega) hk
  · rw [if_neg (by omega)]
    have : ¬ a = b := fun e => h (by rw [e])
    simp [this]
theorem ints_f (a b : List Int) (k : Nat) (hl : a.length < 4611686018427387904) (hk : a.length < k) : windroseref02_Ints.f k a b = some (decide (a = b)) := by
  unfold windroseref02_Ints.f
  by_cases h : a.length = b.length
  · rw [if_pos (by omega)]
    exact ints_l9 a b h hl a.length k 0 (by omega) hk
  · rw [if_neg (by omega)]
    have : ¬ a = b := fun e => h (by rw [e])
    simp [this]
/-! deltas -/
theorem eqD (x y : T_api_Delta) : (x = y) ↔ (x.f0 = y.f0 ∧ x.f1 = y.f1 ∧ x.f2 = y.f2 ∧ x.f3 = y.f3 ∧ x.f4 = y.f4 ∧ x.f5 = y.f5 ∧ x.f6 = y.f6) := by
  cases x
  cases y
  simp only [T_api_Delta.mk.injEq]
theorem same_delta (x y : T_api_Delta) (k : Nat) (hl : x.f6.length < 4611686018427387904) (hk : x.f6.length < k) : acceptor_SameDelta.f k x y = some (decide (x = y)) := by
  unfold acceptor_SameDelta.f
  simp only [equal_f _ _ k hl hk, Option.bind_some, eqD]
  split
  · split
    · split
      · split
        · split
          · split
            · simp [*]
            · simp [*]
          · simp [*]
        · simp [*]
      · simp [*]
    · simp [*]
  · simp [*]
theorem deltas (x y : T_api_Delta) (k : Nat) (hl : x.f6.length < 4611686018427387904) (hk : x.f6.length < k) : windroseref08_Deltas.f k x y = some (decide (x = y)) := by
  unfold windroseref08_Deltas.f
  simp only [ints_f _ _ k hl hk, Option.bind_some, eqD]
  split
  · split
    · split
      · split
        · split
          · split
            · simp [*]
            · simp [*]
          · simp [*]
        · simp [*]
      · simp [*]
    · simp [*]
  · simp [*]
/-- A delta without what its kind doesn't tell. -/
def bareD (x : T_api_Delta) : T_api_Delta := if x.f0 = 1 then ⟨x.f0, x.f1, x.f2, x.f3, x.f4, 0, []⟩ else if x.f0 = 2 then ⟨x.f0, x.f1, 0, 0, x.f4, 0, []⟩ else if x.f0 = 8 then ⟨x.f0, 0, 0, 0, 0, x.f5, x.f6⟩ else if x.f0 = 9 then ⟨x.f0, 0, 0, 0, 0, 0, []⟩ else if x.f0 = 10 then ⟨x.f0, 0, 0, 0, x.f4, x.f5, []⟩ else ⟨x.f0, x.f1, 0, 0, 0, 0, []⟩
theorem bare (x : T_api_Delta) (k : Nat) : acceptor_bare.f (k + 1) x = some (bareD x) := by
  unfold acceptor_bare.f bareD
  simp only [acceptor_bare.j34_s]
  repeat (first | rfl | split)
theorem refbare (x : T_api_Delta) : windroseref08_Bare.f x = some (bareD x) := by
  unfold windroseref08_Bare.f bareD
  repeat (first | rfl | split)
def inZ (y : Int) : Prop := 0 ≤ y ∧ y ≤ 2147483647
instance (y : Int) : Decidable (inZ y) := inferInstanceAs (Decidable (_ ∧ _))
def okD (x : T_api_Delta) : Prop := (1 ≤ x.f0 ∧ x.f0 ≤ 10) ∧ x = bareD x ∧ x.f6.length ≤ 3 ∧ ∀ y ∈ [x.f1, x.f2, x.f3, x.f4, x.f5] ++ x.f6, inZ y
instance (x : T_api_Delta) : Decidable (okD x) := inferInstanceAs (Decidable (_ ∧ _))
theorem refin (y : Int) : windroseref16_in.f y = some (decide (inZ y)) := by
  unfold windroseref16_in.f
  split
  · exact congrArg some (decide_eq_decide.2 ⟨fun h => ⟨by omega, by omega⟩, fun h => by have := h.2; omega⟩)
  · rw [decide_eq_false (fun h : inZ y => by have := h.1; omega)]
theorem acin (y a b : Int) : acceptor_in.f y a b = some (decide (a ≤ y ∧ y ≤ b)) := by
  unfold acceptor_in.f
  split
  · congr 1
    simp only [decide_eq_decide]
    omega
  · have : ¬ (a ≤ y ∧ y ≤ b) := by omega
    simp [this]
theorem all_drop {α : Type} (p : α → Prop) (l : List α) (i : Nat) (h : i < l.length) : (∀ y ∈ l.drop i, p y) ↔ (p l[i] ∧ ∀ y ∈ l.drop (i + 1), p y) := by
  rw [List.drop_eq_getElem_cons h]
  simp only [List.mem_cons, forall_eq_or_imp]
theorem check_l41 (x : T_api_Delta) (hl : x.f6.length ≤ 1000) : ∀ (d k i : Nat), i + d = ([x.f1, x.f2, x.f3, x.f4, x.f5] ++ x.f6).length → d < k → acceptor_CheckDelta.l41 k x (i : Int) = some (if ∀ y ∈ ([x.f1, x.f2, x.f3, x.f4, x.f5] ++ x.f6).drop i, inZ y then 0 else 1) := by
  intro d
  have hlen : ([x.f1, x.f2, x.f3, x.f4, x.f5] ++ x.f6).length ≤ 1005 := by simp; omega
  generalize hL : [x.f1, x.f2, x.f3, x.f4, x.f5] ++ x.f6 = l at *
  induction d with
  | zero =>
    intro k i hi hk
    obtain ⟨k, rfl⟩ : ∃ m, k = m + 1 := ⟨k - 1, by omega⟩
    rw [acceptor_CheckDelta.l41_s, hL, if_neg (by omega), List.drop_eq_nil_of_le (by omega)]
    simp
  | succ d ih =>
    intro k i hi hk
    obtain ⟨k, rfl⟩ : ∃ m, k = m + 1 := ⟨k - 1, by omega⟩
    have h1 : i < l.length := by omega
    rw [acceptor_CheckDelta.l41_s, hL, if_pos (by omega), if_pos (by omega), nth_get _ _ _ h1, w64n i (by omega), acin, Option.bind_some]
    simp only [all_drop inZ l i h1]
    by_cases h : inZ l[i]
    · have h' : (0 ≤ l[i] ∧ l[i] ≤ 2147483647) := h
      rw [if_pos (by simp [h']), ih k (i + 1) (by omega) (by omega)]
      simp [h]
    · have h' : ¬ (0 ≤ l[i] ∧ l[i] ≤ 2147483647) := h
      rw [if_neg (by simp [h'])]
      simp [h]
theorem check_delta (x : T_api_Delta) (k : Nat) (hl : x.f6.length ≤ 1000) (hk : 1100 < k) : acceptor_CheckDelta.f k x = some (if okD x then 0 else 1) := by
  obtain ⟨k, rfl⟩ : ∃ m, k = m + 1 := ⟨k - 1, by omega⟩
  unfold acceptor_CheckDelta.f
  rw [acin, Option.bind_some]
  by_cases c0 : 1 ≤ x.f0 ∧ x.f0 ≤ 10
  · rw [if_pos (by simp [c0]), bare, Option.bind_some, same_delta _ _ _ (by omega) (by omega), Option.bind_some]
    by_cases c1 : x = bareD x
    · rw [if_pos (decide_eq_true c1), acceptor_CheckDelta.j23_s]
      by_cases c2 : x.f6.length ≤ 3
      · rw [if_neg (by simp; omega), if_pos (by simp; omega)]
        have h := check_l41 x hl ([x.f1, x.f2, x.f3, x.f4, x.f5] ++ x.f6).length k 0 (by omega) (by simp; omega)
        rw [List.drop_zero] at h
        refine Eq.trans h ?_
        by_cases c3 : ∀ y ∈ [x.f1, x.f2, x.f3, x.f4, x.f5] ++ x.f6, inZ y
        · rw [if_pos c3, if_pos (show okD x from ⟨c0, c1, c2, c3⟩)]
        · rw [if_neg c3, if_neg (fun h : okD x => c3 h.2.2.2)]
      · rw [if_pos (by simp; omega), if_neg (fun h : okD x => c2 h.2.2.1)]
    · rw [if_neg (by simpa using c1), acceptor_CheckDelta.j23_s, if_pos rfl, if_neg (fun h : okD x => c1 h.2.1)]
  · rw [if_neg (by simpa using c0), acceptor_CheckDelta.j23_s, if_pos rfl, if_neg (fun h : okD x => c0 h.1)]
/-- The reference's delta. -/
theorem ref_l7 (x : T_api_Delta) (hl : x.f6.length ≤ 1000) : ∀ (d k i : Nat), i + d = x.f6.length → d + 1001 < k → windroseref16_Delta.l7 k x (i : Int) = some (decide ((∀ y ∈ x.f6.drop i, inZ y) ∧ (1 ≤ x.f0 ∧ x.f0 ≤ 10) ∧ x = bareD x ∧ x.f6.length ≤ 3 ∧ inZ x.f1 ∧ inZ x.f2 ∧ inZ x.f3 ∧ inZ x.f4 ∧ inZ x.f5)) := by
  intro d
  induction d with
  | zero =>
    intro k i hi hk
    obtain ⟨k, rfl⟩ : ∃ m, k = m + 1 := ⟨k - 1, by omega⟩
    rw [windroseref16_Delta.l7_s, if_neg (by omega), List.drop_eq_nil_of_le (by omega)]
    simp only [refbare, refin, Option.bind_some, deltas _ _ k (show x.f6.length < 4611686018427387904 by omega) (by omega)]
    by_cases c0 : 1 ≤ x.f0
    · rw [if_pos (by omega)]
      by_cases c1 : x.f0 ≤ 10
      · rw [if_pos c1]
        by_cases c2 : x = bareD x
        · rw [if_pos (decide_eq_true c2)]
          by_cases c3 : x.f6.length ≤ 3
          · rw [if_pos (by omega)]
            by_cases d1 : inZ x.f1
            · rw [if_pos (decide_eq_true d1)]
              by_cases d2 : inZ x.f2
              · rw [if_pos (decide_eq_true d2)]
                by_cases d3 : inZ x.f3
                · rw [if_pos (decide_eq_true d3)]
                  by_cases d4 : inZ x.f4
                  · rw [if_pos (decide_eq_true d4)]
                    refine congrArg some (decide_eq_decide.2 ⟨fun d5 => ⟨by simp, ⟨c0, c1⟩, c2, c3, d1, d2, d3, d4, d5⟩, fun h => h.2.2.2.2.2.2.2.2⟩)
                  · rw [if_neg (by simpa using d4), decide_eq_false (fun h => d4 h.2.2.2.2.2.2.2.1)]
                · rw [if_neg (by simpa using d3), decide_eq_false (fun h => d3 h.2.2.2.2.2.2.1)]
              · rw [if_neg (by simpa using d2), decide_eq_false (fun h => d2 h.2.2.2.2.2.1)]
            · rw [if_neg (by simpa using d1), decide_eq_false (fun h => d1 h.2.2.2.2.1)]
          · rw [if_neg (by omega), decide_eq_false (fun h => c3 h.2.2.2.1)]
        · rw [if_neg (by simpa using c2), decide_eq_false (fun h => c2 h.2.2.1)]
      · rw [if_neg c1, decide_eq_false (fun h => c1 h.2.1.2)]
    · rw [if_neg (by omega), decide_eq_false (fun h => c0 h.2.1.1)]
  | succ d ih =>
    intro k i hi hk
    obtain ⟨k, rfl⟩ : ∃ m, k = m + 1 := ⟨k - 1, by omega⟩
    have h1 : i < x.f6.length := by omega
    rw [windroseref16_Delta.l7_s, if_pos (by omega), if_pos (by omega), nth_get _ _ _ h1, w64n i (by omega), refin, Option.bind_some]
    by_cases h : inZ x.f6[i]
    · rw [if_pos (decide_eq_true h), ih k (i + 1) (by omega) (by omega)]
      refine congrArg some (decide_eq_decide.2 ?_)
      rw [all_drop inZ x.f6 i h1]
      simp only [h, true_and]
    · rw [if_neg (by simpa using h), decide_eq_false (fun hh => h ((all_drop inZ x.f6 i h1).1 hh.1).1)]
theorem ref_delta (x : T_api_Delta) (k : Nat) (hl : x.f6.length ≤ 1000) (hk : 2100 < k) : windroseref16_Delta.f k x = some (decide (okD x)) := by
  refine (ref_l7 x hl x.f6.length k 0 (by omega) (by omega)).trans (congrArg some (decide_eq_decide.2 ?_))
  unfold okD
  simp only [List.drop_zero, List.cons_append, List.nil_append, List.mem_cons, forall_eq_or_imp]
  constructor
  · rintro ⟨h0, h1, h2, h3, h4, h5, h6, h7, h8⟩
    exact ⟨h1, h2, h3, h4, h5, h6, h7, h8, h0⟩
  · rintro ⟨h1, h2, h3, h4, h5, h6, h7, h8, h0⟩
    exact ⟨h0, h1, h2, h3, h4, h5, h6, h7, h8⟩
theorem awake (k : Nat) : windroselaw27_awake.f (k + 100) = some true := by kernel_rfl
/-! the reader -/
theorem next_nil (b : Bool) : past_reader_next.f ⟨[], b⟩ = some (0, ⟨[], true⟩) := by kernel_rfl
theorem next_cons (a : Int) (l : List Int) (b : Bool) : past_reader_next.f ⟨a :: l, b⟩ = some (a, ⟨l, b⟩) := by
  unfold past_reader_next.f
  dsimp only
  rw [if_neg (by simp only [List.length_cons]; omega), if_pos (by simp only [List.length_cons]; omega), if_pos (by simp only [List.length_cons]; omega)]
  simp [cutl, nth]
theorem count1_nil (k : Nat) (b : Bool) : past_reader_count.f (k + 1) ⟨[], b⟩ 1 = some (0, ⟨[], true⟩) := by kernel_rfl
theorem tdiv1 (n : Nat) (h : n ≤ 1000) : w64 ((n : Int).tdiv 1) = (n : Int) := by rw [Int.tdiv_one, w64_of (by omega) (by omega)]
theorem count1_cons (k : Nat) (n : Int) (l : List Int) (b : Bool) (hl : l.length ≤ 1000) : past_reader_count.f (k + 1) ⟨n :: l, b⟩ 1 = some (if 0 ≤ n ∧ n ≤ (l.length : Int) then (n, ⟨l, b⟩) else (0, ⟨l, true⟩)) := by
  unfold past_reader_count.f
  rw [next_cons, Option.bind_some]
  dsimp only
  by_cases h : n < 0
  · rw [if_pos h, past_reader_count.j15_s, if_pos rfl, if_neg (by omega)]
  · rw [if_neg h, if_pos (by decide), past_reader_count.j15_s, tdiv1 _ hl]
    by_cases h2 : n > (l.length : Int)
    · rw [if_pos (decide_eq_true h2), if_neg (by omega)]
    · rw [if_neg (by simpa using h2), if_pos (by omega)]
theorem clone (l : List Int) (hl : l.length ≤ 1000) : slices_Clone__int_int.f l = some l := by
  unfold slices_Clone__int_int.f
  rw [if_pos (by simp only [List.length_nil]; omega)]
  rfl
theorem list_nil (k : Nat) (b : Bool) : past_reader_list.f (k + 1) ⟨[], b⟩ = some ([], ⟨[], true⟩) := by kernel_rfl
theorem list_cons (k : Nat) (n : Int) (l : List Int) (b : Bool) (hl : l.length ≤ 1000) : past_reader_list.f (k + 1) ⟨n :: l, b⟩ = some (if 0 ≤ n ∧ n ≤ (l.length : Int) then (l.take n.toNat, ⟨l.drop n.toNat, b⟩) else ([], ⟨l, true⟩)) := by
  unfold past_reader_list.f
  rw [count1_cons _ _ _ _ hl, Option.bind_some]
  by_cases h : 0 ≤ n ∧ n ≤ (l.length : Int)
  · simp only [if_pos h]
    rw [clone _ (by simp only [cutl, List.length_drop, List.length_take]; omega)]
    simp [cutl]
  · simp only [if_neg h]
    rw [if_pos (by omega), clone _ (by simp only [cutl, List.length_drop, List.length_take]; omega)]
    simp [cutl]
/-- The delta of data. -/
def rd : List Int → List ByteArray → Option T_api_Delta
  | a :: b :: c :: d :: e :: f :: n :: r, ts => if n = (r.length : Int) ∧ ts = [] ∧ okD ⟨a, b, c, d, e, f, r⟩ then some ⟨a, b, c, d, e, f, r⟩ else none
  | _, _ => none
def zD : T_api_Delta := ⟨0, 0, 0, 0, 0, 0, []⟩
def tell2 (x : Option T_api_Delta) : T_api_Delta × Int := match x with | some d => (d, 0) | none => (zD, 2)
def tellB (x : Option T_api_Delta) : T_api_Delta × Bool := match x with | some d => (d, true) | none => (zD, false)
theorem read_delta (x : T_api_Data) (k : Nat) (hl : x.f0.length ≤ 1000) (hk : 2200 < k) : past_ReadDelta.f k x = some (tell2 (rd x.f0 x.f1)) := by
  obtain ⟨k, rfl⟩ : ∃ m, k = m + 2 := ⟨k - 2, by omega⟩
  obtain ⟨l, ts⟩ := x
  dsimp only at hl
  unfold past_ReadDelta.f
  dsimp only
  rcases l with _ | ⟨a, l⟩
  · simp only [next_nil, Option.bind_some, list_nil, if_true, past_ReadDelta.j77_s]; rfl
  rw [next_cons, Option.bind_some]
  rcases l with _ | ⟨b, l⟩
  · simp only [next_nil, Option.bind_some, list_nil, if_true, past_ReadDelta.j77_s]; rfl
  rw [next_cons, Option.bind_some]
  rcases l with _ | ⟨c, l⟩
  · simp only [next_nil, Option.bind_some, list_nil, if_true, past_ReadDelta.j77_s]; rfl
  rw [next_cons, Option.bind_some]
  rcases l with _ | ⟨d, l⟩
  · simp only [next_nil, Option.bind_some, list_nil, if_true, past_ReadDelta.j77_s]; rfl
  rw [next_cons, Option.bind_some]
  rcases l with _ | ⟨e, l⟩
  · simp only [next_nil, Option.bind_some, list_nil, if_true, past_ReadDelta.j77_s]; rfl
  rw [next_cons, Option.bind_some]
  rcases l with _ | ⟨f, l⟩
  · simp only [next_nil, Option.bind_some, list_nil, if_true, past_ReadDelta.j77_s]; rfl
  rw [next_cons, Option.bind_some]
  rcases l with _ | ⟨n, r⟩
  · simp only [Option.bind_some, list_nil, if_true, past_ReadDelta.j77_s]; rfl
  have hr : r.length ≤ 1000 := by simp only [List.length_cons] at hl; omega
  rw [list_cons _ _ _ _ hr, Option.bind_some]
  simp only [rd]
  by_cases h : 0 ≤ n ∧ n ≤ (r.length : Int)
  · simp only [if_pos h, Bool.false_eq_true, if_false]
    by_cases h2 : ((r.drop n.toNat).length : Int) > 0
    · rw [if_pos h2, past_ReadDelta.j77_s, if_pos rfl, if_neg (fun hh => by rw [List.length_drop] at h2; omega)]
      rfl
    · rw [if_neg h2]
      have hn : n = (r.length : Int) := by rw [List.length_drop] at h2; omega
      have ht : r.take n.toNat = r := List.take_of_length_le (by omega)
      simp only [ht]
      by_cases h3 : (ts.length : Int) > 0
      · rw [if_pos h3, past_ReadDelta.j77_s, if_pos rfl, if_neg (fun hh => by rw [hh.2.1] at h3; simp at h3)]
        rfl
      · rw [if_neg h3, check_delta _ _ (by exact hr) (by omega), Option.bind_some, past_ReadDelta.j77_s]
        have hts : ts = [] := List.eq_nil_of_length_eq_zero (by omega)
        by_cases h4 : okD ⟨a, b, c, d, e, f, r⟩
        · rw [if_pos h4, if_neg (by decide), if_pos ⟨hn, hts, h4⟩]
          rfl
        · rw [if_neg h4, if_pos (by decide), if_neg (fun hh => h4 hh.2.2)]
          rfl
  · simp only [if_neg h, if_true]
    rw [past_ReadDelta.j77_s, if_pos rfl, if_neg (fun hh => h (by rw [hh.1]; omega))]
    rfl
theorem strings_nil (a : List ByteArray) (k : Nat) : windroseref02_Strings.f (k + 1) [] a = some (decide (a = [])) := by
  unfold windroseref02_Strings.f
  cases a with
  | nil => kernel_rfl
  | cons x a =>
    rw [if_neg (by simp only [List.length_cons, List.length_nil]; omega)]
    simp
theorem same_nil (l : List Int) (x : T_api_Data) (k : Nat) (hl : l.length ≤ 1000) (hk : 2000 < k) : windroseref02_Same.f k ⟨l, []⟩ x = some (decide (l = x.f0 ∧ x.f1 = [])) := by
  obtain ⟨k, rfl⟩ : ∃ m, k = m + 1 := ⟨k - 1, by omega⟩
  unfold windroseref02_Same.f
  rw [ints_f _ _ _ (by dsimp only; omega) (by dsimp only; omega), Option.bind_some]
  dsimp only
  by_cases h : l = x.f0
  · rw [if_pos (decide_eq_true h), strings_nil]
    simp [h]
  · rw [if_neg (by simpa using h)]
    simp [h]
theorem ref_list (l : List Int) (hl : l.length ≤ 1000) : windroseref27_list.f l = some ((l.length : Int) :: l) := by
  unfold windroseref27_list.f
  rw [if_pos (by simp only [List.length_cons, List.length_nil]; omega)]
  rfl
theorem ref_tell (x : T_api_Delta) (hl : x.f6.length ≤ 1000) : windroseref27_Delta.f x = some ⟨[x.f0, x.f1, x.f2, x.f3, x.f4, x.f5] ++ ((x.f6.length : Int) :: x.f6), []⟩ := by
  unfold windroseref27_Delta.f
  rw [ref_list _ hl, Option.bind_some, if_pos (by simp only [List.length_cons, List.length_nil]; omega)]
theorem past_tell (x : T_api_Delta) (hl : x.f6.length ≤ 1000) : past_delta.f x = some ([x.f0, x.f1, x.f2, x.f3, x.f4, x.f5] ++ ((x.f6.length : Int) :: x.f6)) := by
  have hc : past_counted.f x.f6 = some ((x.f6.length : Int) :: x.f6) := ref_list _ hl
  unfold past_delta.f
  rw [hc, Option.bind_some, if_pos (by simp only [List.length_cons, List.length_nil]; omega)]
theorem ref_read (x : T_api_Data) (k : Nat) (hl : x.f0.length ≤ 1000) (hk : 2200 < k) : windroseref27_ReadDelta.f k x = some (tellB (rd x.f0 x.f1)) := by
  obtain ⟨k, rfl⟩ : ∃ m, k = m + 3 := ⟨k - 3, by omega⟩
  obtain ⟨l, ts⟩ := x
  dsimp only at hl
  unfold windroseref27_ReadDelta.f
  dsimp only
  by_cases h : (l.length : Int) < 7
  · rw [if_pos h, windroseref27_ReadDelta.j10_s, if_pos rfl]
    have : rd l ts = none := by
      rcases l with _ | ⟨a, _ | ⟨b, _ | ⟨c, _ | ⟨d, _ | ⟨e, _ | ⟨f, _ | ⟨n, r⟩⟩⟩⟩⟩⟩⟩ <;> try rfl
      simp only [List.length_cons] at h
      omega
    rw [this]
    rfl
  rw [if_neg h]
  rcases l with _ | ⟨a, _ | ⟨b, _ | ⟨c, _ | ⟨d, _ | ⟨e, _ | ⟨f, _ | ⟨n, r⟩⟩⟩⟩⟩⟩⟩ <;> try (exfalso; simp only [List.length_cons, List.length_nil] at h; omega)
  have hr : r.length ≤ 1000 := by simp only [List.length_cons] at hl; omega
  simp only [rd]
  rw [windroseref27_ReadDelta.j10_s]
  by_cases h2 : (((a :: b :: c :: d :: e :: f :: n :: r).length : Nat) : Int) > 10
  · rw [if_pos (decide_eq_true h2), if_neg (fun hh => by
      have h3 := hh.2.2.2.2.1
      simp only [List.length_cons] at h2 h3
      omega)]
    rfl
  rw [if_neg (by simpa using h2)]
  dsimp only
  rw [if_pos (by simp only [List.length_cons]; omega), if_pos (by simp only [List.length_cons]; omega), if_pos (by simp only [List.length_cons]; omega), if_pos (by simp only [List.length_cons]; omega), if_pos (by simp only [List.length_cons]; omega), if_pos (by simp only [List.length_cons]; omega), if_pos (by simp only [List.length_cons]; omega)]
  have hcut : cutl (a :: b :: c :: d :: e :: f :: n :: r) (7 : Int) (((a :: b :: c :: d :: e :: f :: n :: r).length : Nat) : Int) = r := by
    unfold cutl
    rw [Int.toNat_natCast, List.take_length]
    rfl
  simp only [hcut, show nth 0 (a :: b :: c :: d :: e :: f :: n :: r) 0 = a from rfl, show nth 0 (a :: b :: c :: d :: e :: f :: n :: r) 1 = b from rfl, show nth 0 (a :: b :: c :: d :: e :: f :: n :: r) 2 = c from rfl, show nth 0 (a :: b :: c :: d :: e :: f :: n :: r) 3 = d from rfl, show nth 0 (a :: b :: c :: d :: e :: f :: n :: r) 4 = e from rfl, show nth 0 (a :: b :: c :: d :: e :: f :: n :: r) 5 = f from rfl]
  rw [ref_delta _ _ hr (by omega), Option.bind_some]
  have hj : ∀ y, windroseref27_ReadDelta.j75 (k + 2) ⟨a :: b :: c :: d :: e :: f :: n :: r, ts⟩ y = some (if y = true then (zD, false) else (⟨a, b, c, d, e, f, r⟩, true)) := fun y => by
    rw [windroseref27_ReadDelta.j75_s]
    dsimp only
    simp only [hcut, show nth 0 (a :: b :: c :: d :: e :: f :: n :: r) 0 = a from rfl, show nth 0 (a :: b :: c :: d :: e :: f :: n :: r) 1 = b from rfl, show nth 0 (a :: b :: c :: d :: e :: f :: n :: r) 2 = c from rfl, show nth 0 (a :: b :: c :: d :: e :: f :: n :: r) 3 = d from rfl, show nth 0 (a :: b :: c :: d :: e :: f :: n :: r) 4 = e from rfl, show nth 0 (a :: b :: c :: d :: e :: f :: n :: r) 5 = f from rfl]
    cases y <;> rfl
  by_cases h4 : okD ⟨a, b, c, d, e, f, r⟩
  · rw [if_pos (decide_eq_true h4), ref_tell _ hr, Option.bind_some, same_nil _ _ _ (by simp only [List.length_cons, List.length_append, List.length_nil] at hl ⊢; omega) (by omega), Option.bind_some, hj]
    have he : ([a, b, c, d, e, f] ++ ((r.length : Int) :: r) = a :: b :: c :: d :: e :: f :: n :: r ∧ ts = []) ↔ (n = (r.length : Int) ∧ ts = [] ∧ okD ⟨a, b, c, d, e, f, r⟩) := by
      simp only [List.cons_append, List.nil_append, List.cons.injEq, true_and, and_true, h4]
      exact ⟨fun h => ⟨h.1.symm, h.2⟩, fun h => ⟨h.1.symm, h.2⟩⟩
    by_cases h5 : n = (r.length : Int) ∧ ts = [] ∧ okD ⟨a, b, c, d, e, f, r⟩
    · rw [if_pos h5, decide_eq_true (he.2 h5)]
      rfl
    · rw [if_neg h5, decide_eq_false (fun hh => h5 (he.1 hh))]
      rfl
  · rw [if_neg (by simpa using h4), hj, if_pos rfl, if_neg (fun hh => h4 hh.2.2)]
    rfl
end Past
theorem purePastDeltas : PurePastDeltas := by
  intro d x hd hx
  refine ⟨3005, ?_⟩
  unfold windroselaw27_PastDeltas.f
  have small : ∀ y, (y = true ∨ (d.f6.length ≤ 20 ∧ x.f0.length ≤ 40)) → windroselaw27_PastDeltas.j11 3005 d x y = some true := by
    intro y hy
    rw [windroselaw27_PastDeltas.j11_s]
    cases y with
    | true => rw [if_pos rfl, Past.awake 2904]; rfl
    | false =>
      obtain ⟨h1, h2⟩ := hy.resolve_left (by decide)
      rw [if_neg (by decide), Past.read_delta x _ (by omega) (by omega), Option.bind_some, Past.ref_read x _ (by omega) (by omega), Option.bind_some]
      have hcmp : ∀ q : Option T_api_Delta, (∀ e, q = some e → e.f6.length ≤ 1000) → (if (Past.tellB q).2 = ((Past.tell2 q).2 == 0) then (if (Past.tellB q).2 = true then ((windroseref08_Deltas.f 3004 (Past.tell2 q).1 (Past.tellB q).1).bind fun t49 => (windroselaw27_PastDeltas.j56 3004 d (!t49))) else (if (Past.tell2 q).2 = 2 then ((windroseref08_Deltas.f 3004 (Past.tell2 q).1 (Past.tellB q).1).bind fun t53 => (windroselaw27_PastDeltas.j56 3004 d (!t53))) else (windroselaw27_PastDeltas.j56 3004 d true))) else (windroselaw27_PastDeltas.j56 3004 d true)) = windroselaw27_PastDeltas.j56 3004 d false := by
        intro q hq
        cases q with
        | none =>
          rw [if_pos (show (Past.tellB none).2 = ((Past.tell2 none).2 == 0) from rfl), if_neg (show ¬ (Past.tellB none).2 = true from by decide), if_pos (show (Past.tell2 none).2 = 2 from rfl), Past.deltas _ _ _ (by decide) (by decide), Option.bind_some, decide_eq_true (show (Past.tell2 none).1 = (Past.tellB none).1 from rfl)]
          rfl
        | some e =>
          have := hq e rfl
          rw [if_pos (show (Past.tellB (some e)).2 = ((Past.tell2 (some e)).2 == 0) from rfl), if_pos (show (Past.tellB (some e)).2 = true from rfl), Past.deltas _ _ _ (by show e.f6.length < _; omega) (by show e.f6.length < _; omega), Option.bind_some, decide_eq_true (show (Past.tell2 (some e)).1 = (Past.tellB (some e)).1 from rfl)]
          rfl
      refine (hcmp _ ?_).trans ?_
      · intro e he
        obtain ⟨l, ts⟩ := x
        dsimp only at h2 he
        rcases l with _ | ⟨a, _ | ⟨b, _ | ⟨c, _ | ⟨d', _ | ⟨e', _ | ⟨f, _ | ⟨n, r⟩⟩⟩⟩⟩⟩⟩ <;> simp only [Past.rd] at he <;> try cases he
        split at he
        · cases he
          simp only [List.length_cons] at h2
          dsimp only
          omega
        · cases he
      rw [windroselaw27_PastDeltas.j56_s, if_neg (by decide)]
      unfold past_Delta.f
      rw [Past.check_delta d _ (by omega) (by omega), Option.bind_some, Past.ref_delta d _ (by omega) (by omega)]
      by_cases hok : Past.okD d
      · rw [if_pos hok, if_pos rfl, Past.past_tell d (by omega), Option.bind_some, Option.bind_some, Option.bind_some, if_pos (decide_eq_true hok)]
        dsimp only
        rw [Past.read_delta _ _ (by simp only [List.length_append, List.length_cons, List.length_nil]; omega) (by omega), Option.bind_some, if_pos rfl, Past.ref_tell d (by omega), Option.bind_some, Past.same_nil _ _ _ (by simp only [List.length_append, List.length_cons, List.length_nil]; omega) (by omega), Option.bind_some]
        have hrd : Past.rd ([d.f0, d.f1, d.f2, d.f3, d.f4, d.f5] ++ ((d.f6.length : Int) :: d.f6)) [] = some d := by
          show (if (d.f6.length : Int) = (d.f6.length : Int) ∧ ([] : List ByteArray) = [] ∧ Past.okD ⟨d.f0, d.f1, d.f2, d.f3, d.f4, d.f5, d.f6⟩ then some (⟨d.f0, d.f1, d.f2, d.f3, d.f4, d.f5, d.f6⟩ : T_api_Delta) else none) = some d
          rw [if_pos ⟨rfl, rfl, hok⟩]
        rw [if_pos (decide_eq_true ⟨rfl, rfl⟩), hrd]
        rw [if_pos (show (Past.tell2 (some d)).2 = 0 from rfl), Past.deltas _ _ _ (by show d.f6.length < _; omega) (by show d.f6.length < _; omega), Option.bind_some, if_pos (decide_eq_true (show (Past.tell2 (some d)).1 = d from rfl)), Past.awake 2903]
        rfl
      · rw [if_neg hok, if_neg (by decide), Option.bind_some, Option.bind_some, if_neg (by simpa using hok)]
        dsimp only
        rw [if_pos rfl, Past.same_nil _ _ _ (by decide) (by omega), Option.bind_some, if_pos (by decide), Past.awake 2903]
        rfl
  by_cases h1 : (d.f6.length : Int) > 20
  · rw [if_pos h1]
    exact small true (.inl rfl)
  · rw [if_neg h1]
    by_cases h2 : (x.f0.length : Int) > 40
    · rw [if_pos h2]
      exact small true (.inl rfl)
    · rw [if_neg h2]
      exact small _ (.inr ⟨by omega, by omega⟩)
end Go.Proofs.Ytihjknnhbgkinaa.SQ
