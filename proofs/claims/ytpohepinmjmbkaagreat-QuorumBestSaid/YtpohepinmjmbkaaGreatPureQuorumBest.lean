/- The law QuorumBest, plain. -/
import Derived.Test.YtpohepinmjmbkaaGreatQBoQuorumBest
namespace Go.Proofs.YtpohepinmjmbkaaGreat.QB
open Go Go.RowKit Go.Proofs.YtpohepinmjmbkaaGreat Go.Proofs.YtpohepinmjmbkaaGreat.Sl
set_option linter.unusedVariables false
set_option linter.unusedSimpArgs false
namespace Q
theorem w64n (i : Nat) (h : i < 9223372036854775807) : w64 ((i : Int) + 1) = ((i + 1 : Nat) : Int) := by rw [w64_of (by omega) (by omega)]; omega
theorem w64p (i : Nat) (h : i < 9223372036854775807) (h0 : 0 < i) : w64 ((i : Int) - 1) = ((i - 1 : Nat) : Int) := by rw [w64_of (by omega) (by omega)]; omega
theorem nth_get {α : Type} (z : α) (l : List α) (i : Nat) (h : i < l.length) : nth z l (i : Int) = l[i] := by simp [nth, h]
/-- In the end, with fuel enough, a run answers so. -/
def Ev {β : Type} (f : Nat → Option β) (v : β) : Prop := ∃ K, ∀ k, K ≤ k → f k = some v
theorem Ev.c {β : Type} (v : β) : Ev (fun _ => some v) v := ⟨0, fun _ _ => rfl⟩
theorem Ev.cv {β : Type} {v w : β} (h : v = w) : Ev (fun _ => some v) w := ⟨0, fun _ _ => congrArg some h⟩
theorem Ev.v {β : Type} {f : Nat → Option β} {v w : β} (h : Ev f v) (e : v = w) : Ev f w := e ▸ h
theorem Ev.s {β : Type} {f g : Nat → Option β} {v : β} (h : ∀ k, f (k + 1) = g k) (hg : Ev g v) : Ev f v := by
  obtain ⟨K, hK⟩ := hg
  refine ⟨K + 1, fun k hk => ?_⟩
  obtain ⟨k, rfl⟩ : ∃ m, k = m + 1 := ⟨k - 1, by omega⟩
  rw [h]
  exact hK k (by omega)
theorem Ev.e {β : Type} {f g : Nat → Option β} {v : β} (h : ∀ k, f k = g k) (hg : Ev g v) : Ev f v := by
  obtain ⟨K, hK⟩ := hg
  exact ⟨K, fun k hk => (h k).trans (hK k hk)⟩
theorem Ev.b {α β : Type} {f : Nat → Option α} {g : Nat → α → Option β} {a : α} {v : β} (hf : Ev f a) (hg : Ev (fun k => g k a) v) : Ev (fun k => (f k).bind (g k)) v := by
  obtain ⟨K, hK⟩ := hf
  obtain ⟨L, hL⟩ := hg
  refine ⟨K + L, fun k hk => ?_⟩
  show (f k).bind (g k) = some v
  rw [hK k (by omega), Option.bind_some]
  exact hL k (by omega)
theorem Ev.b0 {α β : Type} {o : Option α} {g : Nat → α → Option β} {a : α} {v : β} (ho : o = some a) (hg : Ev (fun k => g k a) v) : Ev (fun k => o.bind (g k)) v := Ev.b ⟨0, fun _ _ => ho⟩ hg
theorem Ev.i {β : Type} {c : Prop} [Decidable c] {f g : Nat → Option β} {v : β} (hf : c → Ev f v) (hg : ¬ c → Ev g v) : Ev (fun k => if c then f k else g k) v := by
  by_cases h : c
  · simpa only [if_pos h] using hf h
  · simpa only [if_neg h] using hg h
theorem Ev.t {β : Type} {c : Prop} [Decidable c] {f g : Nat → Option β} {v : β} (h : c) (hf : Ev f v) : Ev (fun k => if c then f k else g k) v := Ev.i (fun _ => hf) (fun n => absurd h n)
theorem Ev.n {β : Type} {c : Prop} [Decidable c] {f g : Nat → Option β} {v : β} (h : ¬ c) (hg : Ev g v) : Ev (fun k => if c then f k else g k) v := Ev.i (fun n => absurd n h) (fun _ => hg)
theorem Ev.and {α β : Type} {f : Nat → Option α} {g : Nat → Option β} {v : α} {w : β} (hf : Ev f v) (hg : Ev g w) : ∃ k, f k = some v ∧ g k = some w := by
  obtain ⟨K, hK⟩ := hf
  obtain ⟨L, hL⟩ := hg
  exact ⟨K + L, hK _ (by omega), hL _ (by omega)⟩
theorem Ev.one {α : Type} {f : Nat → Option α} {v : α} (hf : Ev f v) : ∃ k, f k = some v := by
  obtain ⟨K, hK⟩ := hf
  exact ⟨K, hK _ (by omega)⟩
/-- The answer's number: all well, or an argument that may not be. -/
def eno : Bool → Int
  | true => 0
  | false => 1

/-! which info is better -/
def c3 (a b : Int) : Int := if a < b then -1 else if a > b then 1 else 0
theorem cmp3 (a b : Int) : cmp_Compare_int.f a b = some (c3 a b) := by
  unfold cmp_Compare_int.f cmp_isNaN_int.f c3
  simp only [Option.bind_some]
  rw [if_neg (by simp), if_neg (by simp)]
  split
  · rfl
  · split <;> rfl
def orL : List Int → Int
  | [] => 0
  | x :: r => if x = 0 then orL r else x
theorem or_l6 (l : List Int) (hl : l.length < 1000000) : ∀ (d i : Nat), i + d = l.length → Ev (fun k => cmp_Or_int.l6 k l (i : Int)) (orL (l.drop i)) := by
  intro d
  induction d with
  | zero =>
    intro i hi
    rw [List.drop_eq_nil_of_le (by omega)]
    exact .s (fun k => cmp_Or_int.l6_s k _ _) (.n (by omega) (.c _))
  | succ d ih =>
    intro i hi
    have h1 : i < l.length := by omega
    rw [List.drop_eq_getElem_cons h1]
    refine .s (fun k => cmp_Or_int.l6_s k _ _) (.t (by omega) (.t (by omega) ?_))
    rw [nth_get _ _ _ h1, w64n i (by omega)]
    unfold orL
    by_cases h : l[i] = 0
    · rw [if_pos h]
      exact .t h (ih (i + 1) (by omega))
    · rw [if_neg h]
      exact .n h (.c _)
def cmpI (a b : T_api_Info) : Int := orL [c3 b.f1 a.f1, c3 b.f2 a.f2, c3 b.f3 a.f3, c3 a.f0 b.f0]
theorem compare (a b : T_api_Info) : Ev (fun k => quorum_compare.f k a b) (cmpI a b) := by
  unfold quorum_compare.f
  exact .b0 (cmp3 _ _) (.b0 (cmp3 _ _) (.b0 (cmp3 _ _) (.b0 (cmp3 _ _) (.b (or_l6 [c3 b.f1 a.f1, c3 b.f2 a.f2, c3 b.f3 a.f3, c3 a.f0 b.f0] (by show 4 < 1000000; omega) 4 0 rfl) (.c _)))))
def bet (a b : T_api_Info) : Bool := if a.f1 = b.f1 then if a.f2 = b.f2 then if a.f3 = b.f3 then decide (a.f0 < b.f0) else decide (a.f3 > b.f3) else decide (a.f2 > b.f2) else decide (a.f1 > b.f1)
theorem c3c (a b : Int) : (c3 a b = -1 ∧ a < b) ∨ (c3 a b = 1 ∧ b < a) ∨ (c3 a b = 0 ∧ a = b) := by
  unfold c3
  by_cases h : a < b
  · exact .inl ⟨if_pos h, h⟩
  · by_cases h2 : a > b
    · exact .inr (.inl ⟨by rw [if_neg h, if_pos h2], h2⟩)
    · exact .inr (.inr ⟨by rw [if_neg h, if_neg h2], by omega⟩)
theorem cmp_bet (a b : T_api_Info) : decide (cmpI a b < 0) = bet a b := by
  unfold cmpI bet
  show decide ((if c3 b.f1 a.f1 = 0 then if c3 b.f2 a.f2 = 0 then if c3 b.f3 a.f3 = 0 then if c3 a.f0 b.f0 = 0 then 0 else c3 a.f0 b.f0 else c3 b.f3 a.f3 else c3 b.f2 a.f2 else c3 b.f1 a.f1) < 0) = _
  rcases c3c b.f1 a.f1 with ⟨e, h⟩ | ⟨e, h⟩ | ⟨e, h⟩
  · rw [e, if_neg (by omega), if_neg (by omega), decide_eq_decide]; omega
  · rw [e, if_neg (by omega), if_neg (by omega), decide_eq_decide]; omega
  rw [if_pos e, if_pos h.symm]
  rcases c3c b.f2 a.f2 with ⟨e, h⟩ | ⟨e, h⟩ | ⟨e, h⟩
  · rw [e, if_neg (by omega), if_neg (by omega), decide_eq_decide]; omega
  · rw [e, if_neg (by omega), if_neg (by omega), decide_eq_decide]; omega
  rw [if_pos e, if_pos h.symm]
  rcases c3c b.f3 a.f3 with ⟨e, h⟩ | ⟨e, h⟩ | ⟨e, h⟩
  · rw [e, if_neg (by omega), if_neg (by omega), decide_eq_decide]; omega
  · rw [e, if_neg (by omega), if_neg (by omega), decide_eq_decide]; omega
  rw [if_pos e, if_pos h.symm]
  rcases c3c a.f0 b.f0 with ⟨e, h⟩ | ⟨e, h⟩ | ⟨e, h⟩
  · rw [e, if_neg (by omega), decide_eq_decide]; omega
  · rw [e, if_neg (by omega), decide_eq_decide]; omega
  · rw [if_pos e, decide_eq_decide]; omega
theorem bet_irrefl (a : T_api_Info) : bet a a = false := by
  unfold bet
  rw [if_pos rfl, if_pos rfl, if_pos rfl]
  exact decide_eq_false (Int.lt_irrefl _)
theorem bet_asym (a b : T_api_Info) (h : bet a b = true) : bet b a = false := by
  unfold bet at *
  by_cases h1 : a.f1 = b.f1
  · rw [if_pos h1] at h
    rw [if_pos h1.symm]
    by_cases h2 : a.f2 = b.f2
    · rw [if_pos h2] at h
      rw [if_pos h2.symm]
      by_cases h3 : a.f3 = b.f3
      · rw [if_pos h3] at h
        rw [if_pos h3.symm]
        have := of_decide_eq_true h
        exact decide_eq_false (by omega)
      · rw [if_neg h3] at h
        rw [if_neg (Ne.symm h3)]
        have := of_decide_eq_true h
        exact decide_eq_false (by omega)
    · rw [if_neg h2] at h
      rw [if_neg (Ne.symm h2)]
      have := of_decide_eq_true h
      exact decide_eq_false (by omega)
  · rw [if_neg h1] at h
    rw [if_neg (Ne.symm h1)]
    have := of_decide_eq_true h
    exact decide_eq_false (by omega)
theorem qbetter (a b : T_api_Info) : Ev (fun k => quorum_Better.f k a b) (bet a b) := by
  unfold quorum_Better.f
  exact .b (compare a b) (.cv (cmp_bet a b))
theorem rbetter (a b : T_api_Info) : windroseref29_Better.f a b = some (bet a b) := by
  unfold windroseref29_Better.f bet
  split
  · split
    · split <;> rfl
    · rfl
  · rfl
/-! which infos may be -/
def goodI (x : T_api_Info) : Bool := decide ((1 ≤ x.f0 ∧ x.f0 ≤ 999) ∧ (0 ≤ x.f1 ∧ x.f1 ≤ 2147483647) ∧ (0 ≤ x.f2 ∧ x.f2 ≤ 2147483647) ∧ (0 ≤ x.f3 ∧ x.f3 ≤ 2147483647) ∧ 0 ≤ x.f4 ∧ x.f4 ≤ x.f3)
def mayG : List T_api_Info → List T_api_Info → Bool
  | _, [] => true
  | s, x :: r => if goodI x = true ∧ s.any (fun y => y.f0 == x.f0) = false then mayG (s ++ [x]) r else false
def mayI (l : List T_api_Info) : Bool := mayG [] l && decide (l.length ≤ 12)
theorem qin (x a b : Int) : quorum_in.f x a b = some (decide (a ≤ x ∧ x ≤ b)) := by
  unfold quorum_in.f
  by_cases h : x ≥ a
  · rw [if_pos h]
    congr 1
    rw [decide_eq_decide]
    omega
  · rw [if_neg h, decide_eq_false (by omega)]
theorem has_l5 (l : List T_api_Info) (id : Int) (hl : l.length < 1000000) : ∀ (d i : Nat), i + d = l.length → ∃ x, Ev (fun k => slices_IndexFunc__api_Info_api_Info_of_quorum_has_1.l5 k l id (i : Int)) x ∧ decide (x ≥ 0) = (l.drop i).any (fun y => y.f0 == id) := by
  intro d
  induction d with
  | zero =>
    intro i hi
    refine ⟨-1, .s (fun k => slices_IndexFunc__api_Info_api_Info_of_quorum_has_1.l5_s k _ _ _) (.n (by omega) (.c _)), ?_⟩
    rw [List.drop_eq_nil_of_le (by omega)]
    rfl
  | succ d ih =>
    intro i hi
    have h1 : i < l.length := by omega
    obtain ⟨x, hx, hm⟩ := ih (i + 1) (by omega)
    rw [List.drop_eq_getElem_cons h1, List.any_cons]
    cases h : l[i].f0 == id with
    | true =>
      refine ⟨i, .s (fun k => slices_IndexFunc__api_Info_api_Info_of_quorum_has_1.l5_s k _ _ _) (.t (by omega) (.t (by omega) ?_)), ?_⟩
      · rw [nth_get _ _ _ h1]
        exact .b0 (congrArg some h) (.t rfl (.c _))
      · rw [Bool.true_or]
        exact decide_eq_true (by omega)
    | false =>
      refine ⟨x, .s (fun k => slices_IndexFunc__api_Info_api_Info_of_quorum_has_1.l5_s k _ _ _) (.t (by omega) (.t (by omega) ?_)), ?_⟩
      · rw [nth_get _ _ _ h1, w64n i (by omega)]
        exact .b0 (congrArg some h) (.n Bool.false_ne_true hx)
      · rw [Bool.false_or]
        exact hm
theorem has (l : List T_api_Info) (id : Int) (hl : l.length < 1000000) : Ev (fun k => quorum_has.f k l id) (l.any (fun y => y.f0 == id)) := by
  obtain ⟨x, hx, hm⟩ := has_l5 l id hl l.length 0 (by omega)
  unfold quorum_has.f slices_ContainsFunc__api_Info_api_Info_of_quorum_has_1.f slices_IndexFunc__api_Info_api_Info_of_quorum_has_1.f
  refine .b (.b hx (.c _)) (.cv hm)
theorem check_l9 (l : List T_api_Info) (hl : l.length < 1000000) : ∀ (d i : Nat), i + d = l.length → Ev (fun k => quorum_Check.l9 k l (i : Int)) (eno (mayG (l.take i) (l.drop i))) := by
  intro d
  induction d with
  | zero =>
    intro i hi
    rw [List.drop_eq_nil_of_le (by omega)]
    exact .s (fun k => quorum_Check.l9_s k _ _) (.n (by omega) (.c _))
  | succ d ih =>
    intro i hi
    have h1 : i < l.length := by omega
    have hn := ih (i + 1) (by omega)
    have et : l.take (i + 1) = l.take i ++ [l[i]] := by rw [List.take_add_one, List.getElem?_eq_getElem h1]; rfl
    rw [et] at hn
    rw [List.drop_eq_getElem_cons h1]
    unfold mayG
    have j65 : ∀ b : Bool, Ev (fun k => quorum_Check.j65 k l (i : Int) b) (eno (if b = true then false else mayG (l.take i ++ [l[i]]) (l.drop (i + 1)))) := by
      intro b
      refine .s (fun k => quorum_Check.j65_s k _ _ _) ?_
      cases b with
      | true => exact .t rfl (.c _)
      | false =>
        refine .n Bool.false_ne_true ?_
        rw [w64n i (by omega)]
        exact hn
    have j41 : ∀ b : Bool, Ev (fun k => quorum_Check.j41 k l (i : Int) b) (eno (if b = false ∧ (0 ≤ l[i].f1 ∧ l[i].f1 ≤ 2147483647) ∧ (0 ≤ l[i].f2 ∧ l[i].f2 ≤ 2147483647) ∧ (0 ≤ l[i].f3 ∧ l[i].f3 ≤ 2147483647) ∧ 0 ≤ l[i].f4 ∧ l[i].f4 ≤ l[i].f3 then mayG (l.take i ++ [l[i]]) (l.drop (i + 1)) else false)) := by
      intro b
      refine .s (fun k => quorum_Check.j41_s k _ _ _) ?_
      rw [nth_get _ _ _ h1]
      cases b with
      | true => exact .t rfl (.cv (by rw [if_neg (fun h => Bool.noConfusion h.1)]; rfl))
      | false =>
        refine .n Bool.false_ne_true (.b0 (qin _ _ _) ?_)
        by_cases g1 : 0 ≤ l[i].f1 ∧ l[i].f1 ≤ 2147483647
        rotate_left
        · rw [if_neg (fun h => g1 h.2.1)]
          exact .n (fun h => g1 (of_decide_eq_true h)) (j65 true)
        refine .t (decide_eq_true g1) (.b0 (qin _ _ _) ?_)
        by_cases g2 : 0 ≤ l[i].f2 ∧ l[i].f2 ≤ 2147483647
        rotate_left
        · rw [if_neg (fun h => g2 h.2.2.1)]
          exact .n (fun h => g2 (of_decide_eq_true h)) (j65 true)
        refine .t (decide_eq_true g2) (.b0 (qin _ _ _) ?_)
        by_cases g3 : 0 ≤ l[i].f3 ∧ l[i].f3 ≤ 2147483647
        rotate_left
        · rw [if_neg (fun h => g3 h.2.2.2.1)]
          exact .n (fun h => g3 (of_decide_eq_true h)) (j65 true)
        refine .t (decide_eq_true g3) (.b0 (qin _ _ _) ?_)
        by_cases g4 : 0 ≤ l[i].f4 ∧ l[i].f4 ≤ l[i].f3
        · rw [if_pos ⟨rfl, g1, g2, g3, g4⟩, decide_eq_true g4]
          exact j65 false
        · rw [if_neg (fun h => g4 h.2.2.2.2), decide_eq_false g4]
          exact j65 true
    refine .s (fun k => quorum_Check.l9_s k _ _) (.t (by omega) (.t (by omega) ?_))
    rw [nth_get _ _ _ h1]
    refine .b0 (qin _ _ _) ?_
    by_cases g0 : 1 ≤ l[i].f0 ∧ l[i].f0 ≤ 999
    · refine .t (decide_eq_true g0) (.t (by omega) ?_)
      rw [show cutl l 0 (i : Int) = l.take i by simp [cutl]]
      refine .b (has _ _ (by rw [List.length_take]; omega)) ?_
      refine (j41 _).v (congrArg eno ?_)
      unfold goodI
      exact ite_congr (propext ⟨fun h => ⟨decide_eq_true ⟨g0, h.2⟩, h.1⟩, fun h => ⟨h.2, (of_decide_eq_true h.1).2⟩⟩) (fun _ => rfl) (fun _ => rfl)
    · refine .n (fun h => g0 (of_decide_eq_true h)) ((j41 true).v (congrArg eno ?_))
      rw [if_neg (fun h => Bool.noConfusion h.1), if_neg (fun h => g0 (of_decide_eq_true h.1).1)]
theorem check (l : List T_api_Info) (hl : l.length < 1000000) : Ev (fun k => quorum_Check.f k l) (eno (mayI l)) := by
  unfold quorum_Check.f mayI
  by_cases h : (l.length : Int) > 12
  · exact .t h (.cv (by rw [decide_eq_false (by omega), Bool.and_false]; rfl))
  · refine .n h ((check_l9 l hl l.length 0 (by omega)).v ?_)
    rw [decide_eq_true (by omega), Bool.and_true]
    rfl
theorem r44 (l : List T_api_Info) (hl : l.length < 1000000) (i : Nat) (hi : i < l.length) (w : Bool) (hw : Ev (fun k => windroseref29_May.l6 k l ((i + 1 : Nat) : Int)) w) : ∀ (d j : Nat), j + d = i → Ev (fun k => windroseref29_May.l44 k l (i : Int) (j : Int)) (if ((l.take i).drop j).any (fun y => y.f0 == l[i].f0) = true then false else w) := by
  intro d
  induction d with
  | zero =>
    intro j hj
    refine .s (fun k => windroseref29_May.l44_s k _ _ _) (.n (by omega) ?_)
    rw [List.drop_eq_nil_of_le (by rw [List.length_take]; omega), w64n i (by omega)]
    exact hw
  | succ d ih =>
    intro j hj
    have h1 : j < l.length := by omega
    have h2 : j < (l.take i).length := by rw [List.length_take]; omega
    refine .s (fun k => windroseref29_May.l44_s k _ _ _) (.t (by omega) (.t (by omega) ?_))
    rw [nth_get _ _ _ h1, nth_get _ _ _ hi, List.drop_eq_getElem_cons h2, List.any_cons, List.getElem_take]
    by_cases h : l[j].f0 = l[i].f0
    · refine .t h (.cv ?_)
      rw [show (l[j].f0 == l[i].f0) = true from beq_iff_eq.2 h, Bool.true_or, if_pos rfl]
    · refine .n h ?_
      rw [show (l[j].f0 == l[i].f0) = false from beq_eq_false_iff_ne.2 h, Bool.false_or, w64n j (by omega)]
      exact ih (j + 1) (by omega)
theorem r6 (l : List T_api_Info) (hl : l.length < 1000000) : ∀ (d i : Nat), i + d = l.length → Ev (fun k => windroseref29_May.l6 k l (i : Int)) (mayG (l.take i) (l.drop i) && decide (l.length ≤ 12)) := by
  intro d
  induction d with
  | zero =>
    intro i hi
    rw [List.drop_eq_nil_of_le (by omega)]
    refine .s (fun k => windroseref29_May.l6_s k _ _) (.n (by omega) (.cv ?_))
    unfold mayG
    rw [Bool.true_and, decide_eq_decide]
    omega
  | succ d ih =>
    intro i hi
    have h1 : i < l.length := by omega
    have hn := ih (i + 1) (by omega)
    have et : l.take (i + 1) = l.take i ++ [l[i]] := by rw [List.take_add_one, List.getElem?_eq_getElem h1]; rfl
    rw [et] at hn
    have h44 := r44 l hl i h1 _ hn i 0 (by omega)
    rw [List.drop_zero] at h44
    rw [List.drop_eq_getElem_cons h1]
    unfold mayG
    have j35 : ∀ b : Bool, b = !goodI l[i] → Ev (fun k => windroseref29_May.j35 k l (i : Int) b) ((if goodI l[i] = true ∧ (l.take i).any (fun y => y.f0 == l[i].f0) = false then mayG (l.take i ++ [l[i]]) (l.drop (i + 1)) else false) && decide (l.length ≤ 12)) := by
      intro b hb
      refine .s (fun k => windroseref29_May.j35_s k _ _ _) ?_
      cases hg : goodI l[i] with
      | false =>
        rw [hg] at hb
        refine .t (by rw [hb]; rfl) (.cv ?_)
        rw [if_neg (fun h => Bool.noConfusion h.1)]
        rfl
      | true =>
        rw [hg] at hb
        refine .n (by rw [hb]; decide) (h44.v ?_)
        cases (l.take i).any (fun y => y.f0 == l[i].f0) with
        | true => rw [if_pos rfl, if_neg (fun h => Bool.noConfusion h.2)]; rfl
        | false => rw [if_neg Bool.false_ne_true, if_pos ⟨rfl, rfl⟩]
    refine .s (fun k => windroseref29_May.l6_s k _ _) (.t (by omega) (.t (by omega) ?_))
    rw [nth_get _ _ _ h1]
    have bad : ¬ ((1 ≤ l[i].f0 ∧ l[i].f0 ≤ 999) ∧ (0 ≤ l[i].f1 ∧ l[i].f1 ≤ 2147483647) ∧ (0 ≤ l[i].f2 ∧ l[i].f2 ≤ 2147483647) ∧ (0 ≤ l[i].f3 ∧ l[i].f3 ≤ 2147483647) ∧ 0 ≤ l[i].f4 ∧ l[i].f4 ≤ l[i].f3) → true = !goodI l[i] := fun h => by
      unfold goodI
      rw [decide_eq_false h]
      rfl
    refine .i (fun c => j35 _ (bad (by omega))) (fun c1 => .i (fun c => j35 _ (bad (by omega))) (fun c2 => .i (fun c => j35 _ (bad (by omega))) (fun c3 => .i (fun c => j35 _ (bad (by omega))) (fun c4 => .i (fun c => j35 _ (bad (by omega))) (fun c5 => .i (fun c => j35 _ (bad (by omega))) (fun c6 => .i (fun c => j35 _ (bad (by omega))) (fun c7 => .i (fun c => j35 _ (bad (by omega))) (fun c8 => .i (fun c => j35 _ (bad (by omega))) (fun c9 => j35 _ ?_)))))))))
    unfold goodI
    rw [← decide_not, decide_eq_decide]
    omega
theorem may (l : List T_api_Info) (hl : l.length < 1000000) : Ev (fun k => windroseref29_May.f k l) (mayI l) := by
  unfold windroseref29_May.f
  exact r6 l hl l.length 0 (by omega)
/-! the best one -/
def pick (m x : T_api_Info) : T_api_Info := if bet x m = true then x else m
def bestI : List T_api_Info → T_api_Info
  | [] => ⟨0, 0, 0, 0, 0⟩
  | x :: r => r.foldl pick x
theorem min_l24 (l : List T_api_Info) (hl : l.length < 1000000) : ∀ (d i : Nat) (m : T_api_Info), i + d = l.length → Ev (fun k => slices_MinFunc__api_Info_api_Info_of_quorum_compare.l24 k l (i : Int) m.f0 m.f1 m.f2 m.f3 m.f4) ((l.drop i).foldl pick m) := by
  intro d
  induction d with
  | zero =>
    intro i m hi
    rw [List.drop_eq_nil_of_le (by omega)]
    exact .s (fun k => slices_MinFunc__api_Info_api_Info_of_quorum_compare.l24_s k _ _ _ _ _ _ _) (.n (by omega) (.c _))
  | succ d ih =>
    intro i m hi
    have h1 : i < l.length := by omega
    rw [List.drop_eq_getElem_cons h1, List.foldl_cons]
    refine .s (fun k => slices_MinFunc__api_Info_api_Info_of_quorum_compare.l24_s k _ _ _ _ _ _ _) (.t (by omega) (.t (by omega) ?_))
    rw [nth_get _ _ _ h1, w64n i (by omega)]
    refine .b (compare l[i] m) ?_
    have hb := cmp_bet l[i] m
    by_cases h : cmpI l[i] m < 0
    · rw [decide_eq_true h] at hb
      rw [show pick m l[i] = l[i] from if_pos hb.symm]
      exact .t h (ih (i + 1) l[i] (by omega))
    · rw [decide_eq_false h] at hb
      rw [show pick m l[i] = m from if_neg (by rw [← hb]; decide)]
      exact .n h (ih (i + 1) m (by omega))
theorem best_l21 (l : List T_api_Info) (hl : l.length < 1000000) : ∀ (d i : Nat) (m : T_api_Info), i + d = l.length → Ev (fun k => windroseref29_Best.l21 k l (i : Int) m.f0 m.f1 m.f2 m.f3 m.f4) ((l.drop i).foldl pick m) := by
  intro d
  induction d with
  | zero =>
    intro i m hi
    rw [List.drop_eq_nil_of_le (by omega)]
    exact .s (fun k => windroseref29_Best.l21_s k _ _ _ _ _ _ _) (.n (by omega) (.c _))
  | succ d ih =>
    intro i m hi
    have h1 : i < l.length := by omega
    rw [List.drop_eq_getElem_cons h1, List.foldl_cons]
    refine .s (fun k => windroseref29_Best.l21_s k _ _ _ _ _ _ _) (.t (by omega) (.t (by omega) ?_))
    rw [nth_get _ _ _ h1, w64n i (by omega)]
    refine .b0 (rbetter l[i] m) ?_
    by_cases h : bet l[i] m = true
    · rw [show pick m l[i] = l[i] from if_pos h]
      exact .t h (ih (i + 1) l[i] (by omega))
    · rw [show pick m l[i] = m from if_neg h]
      exact .n h (ih (i + 1) m (by omega))
theorem minF (l : List T_api_Info) (hl : l.length < 1000000) (h0 : 0 < l.length) : Ev (fun k => slices_MinFunc__api_Info_api_Info_of_quorum_compare.f k l) (bestI l) := by
  cases l with
  | nil => exact absurd h0 (Nat.lt_irrefl 0)
  | cons x r =>
    unfold slices_MinFunc__api_Info_api_Info_of_quorum_compare.f
    exact .n (by omega) (.t (by omega) (min_l24 (x :: r) hl r.length 1 x (Nat.add_comm 1 _)))
theorem rbest (l : List T_api_Info) (hl : l.length < 1000000) (h0 : 0 < l.length) : Ev (fun k => windroseref29_Best.f k l) (bestI l) := by
  cases l with
  | nil => exact absurd h0 (Nat.lt_irrefl 0)
  | cons x r =>
    unfold windroseref29_Best.f
    refine .t (by omega) ((best_l21 (x :: r) hl (r.length + 1) 0 x (Nat.zero_add _)).v ?_)
    show r.foldl pick (pick x x) = r.foldl pick x
    rw [show pick x x = x from if_neg (by rw [bet_irrefl]; decide)]
def bestP (l : List T_api_Info) : T_api_Info × Bool := if 0 < l.length ∧ mayI l = true then (bestI l, true) else (⟨0, 0, 0, 0, 0⟩, false)
theorem best (l : List T_api_Info) (hl : l.length < 1000000) : Ev (fun k => quorum_Best.f k l) (bestP l) := by
  unfold quorum_Best.f bestP
  by_cases h0 : (l.length : Int) = 0
  · rw [if_neg (by omega)]
    exact .t h0 (.s (fun k => quorum_Best.j11_s k _ _) (.t rfl (.c _)))
  · refine .n h0 (.b (check l hl) (.s (fun k => quorum_Best.j11_s k _ _) ?_))
    cases hm : mayI l with
    | true =>
      rw [if_pos ⟨by omega, rfl⟩]
      exact .n (by decide) (.b (minF l hl (by omega)) (.c _))
    | false =>
      rw [if_neg (fun h => Bool.noConfusion h.2)]
      exact .t (by decide) (.c _)

theorem awake (k : Nat) : windroselaw29_awake.f (k + 3000) = some true := by kernel_rfl
theorem awakes : Ev (fun k => windroselaw29_awake.f k) true := ⟨3000, fun k hk => by
  obtain ⟨k, rfl⟩ : ∃ m, k = m + 3000 := ⟨k - 3000, by omega⟩
  exact awake k⟩
end Q
open Q in
theorem pureQuorumBest : PureQuorumBest := by
  intro l a b _ _ _
  refine Ev.one (f := fun k => windroselaw29_QuorumBest.f k l a b) (v := true) ?_
  have aw : Ev (fun k => (windroselaw29_awake.f k).bind fun t => some t) true := .b awakes (.c _)
  unfold windroselaw29_QuorumBest.f
  by_cases h30 : (l.length : Int) > 30
  · exact .t h30 aw
  have hl : l.length < 1000000 := by omega
  have j58 : ∀ y : Bool, (y = true ↔ ¬ (0 < l.length ∧ mayI l = true)) → Ev (fun k => windroselaw29_QuorumBest.j58 k l (bestP l) y) true := by
    intro y hy
    refine .s (fun k => windroselaw29_QuorumBest.j58_s k _ _ _) ?_
    unfold bestP
    by_cases h : 0 < l.length ∧ mayI l = true
    · rw [if_pos h]
      exact .n (fun e => hy.1 e h) (.t rfl (.b (rbest l hl h.1) (.t rfl aw)))
    · rw [if_neg h]
      exact .t (hy.2 h) (.n Bool.false_ne_true (.t rfl aw))
  have j44 : Ev (fun k => windroselaw29_QuorumBest.j44 k l (bestP l) false) true := by
    refine .s (fun k => windroselaw29_QuorumBest.j44_s k _ _ _) (.n Bool.false_ne_true ?_)
    by_cases h0 : (l.length : Int) = 0
    · exact .t h0 (j58 true ⟨fun _ h => absurd h.1 (by omega), fun _ => rfl⟩)
    · refine .n h0 (.b (may l hl) (j58 _ ?_))
      cases mayI l with
      | true => exact ⟨fun h => Bool.noConfusion h, fun h => absurd ⟨by omega, rfl⟩ h⟩
      | false => exact ⟨fun _ h => Bool.noConfusion h.2, fun _ => rfl⟩
  refine .n h30 (.b (best l hl) (.b (check l hl) (.b (may l hl) (.t ?_ (.b (qbetter a b) (.b0 (rbetter a b) (.t rfl (.b (qbetter a b) ?_))))))))
  · cases mayI l <;> rfl
  · cases h : bet a b with
    | true =>
      refine .t rfl (.b (qbetter b a) ?_)
      rw [bet_asym a b h]
      exact j44
    | false => exact .n Bool.false_ne_true j44
end Go.Proofs.YtpohepinmjmbkaaGreat.QB
