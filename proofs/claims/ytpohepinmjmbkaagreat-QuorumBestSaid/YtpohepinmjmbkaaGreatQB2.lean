/- Functions of the program, what each computes (written by wip/s/sl.py). -/
import Derived.Test.YtpohepinmjmbkaaGreatQB1
namespace Go.Proofs.YtpohepinmjmbkaaGreat.QB
open Go Go.RowKit Go.Proofs.YtpohepinmjmbkaaGreat.Sl
set_option linter.unusedVariables false
set_option linter.unusedSimpArgs false
set_option maxHeartbeats 4000000
set_option maxRecDepth 100000
/-! ### slices.Clone[[]windrose/api.Span,windrose/api.Span]: function 175 -/
def slices_Clone__api_Span_api_Span.f (x0_ : List T_api_Span) : Option (List T_api_Span) := if ((([] : List T_api_Span).length : Int) + (x0_.length : Int)) * 32 ≤ 140737488355328 then (some (([] : List T_api_Span) ++ x0_)) else (none)
def slices_Clone__api_Span_api_Span.Post (W F : World) (r : List T_api_Span) (v : Value) (w' : World) : Prop := ∃ (F' : World) (RA0_0 : Option Addr) (rc0_0 : Nat), v = .slice RA0_0 r.length rc0_0 ∧ St W (mine W []) F w' F' [row T_api_Span.k 51 (.slice RA0_0 r.length rc0_0) r]
theorem slices_Clone__api_Span_api_Span.calls (x0_ : List T_api_Span) (A0_0 : Option Addr) (c0_0 : Nat) (r : List T_api_Span) (W F : World) (hown : Sub F W) (g0_0 : Rd T_api_Span.k F A0_0 c0_0 x0_) (H : slices_Clone__api_Span_api_Span.f x0_ = some r) :
    Calls Tryz.prog 175 #[.slice A0_0 x0_.length c0_0] W fun e w' => ∃ v, e = .returned v ∧ slices_Clone__api_Span_api_Span.Post W F r v w' := by
 have hS := St.start (Own.nil hown)
 unfold slices_Clone__api_Span_api_Span.f at H
 refine enter (n := 8) rfl rfl rfl (Nat.le_of_ble_eq_true rfl) (fun a hE => ?_)
 rcases A0_0 with _ | ad1
 ·
  have hnil := g0_0.none_nil
  replace H : (some []) = some r := by simpa [hnil] using H
  refine wp_seq_k fun K2 hK2 => pl0 (plc hE (.r 0 1 .nil) (fun a hE => pld (hK2 _ _ (wp_seq_k fun K3 hK3 => wp_seq_k fun K4 hK4 => pl0 (plc hE (.r 0 2 .nil) (fun a hE => pld (hK4 _ _ (ct hE (wp_seq_k fun K5 hK5 => pl0 (plc hE (.r 0 1 .nil) (fun a hE => pld (hK5 _ _ (wp_ret (then_ret ?_))))))))))))))
  replace hS := hS.nilrow T_api_Span.k 51
  obtain rfl := si H
  exact rt1 hE ⟨_, rfl, _, _, _, rfl, hS⟩
 ·
  refine wp_seq_k fun K7 hK7 => pl0 (plc hE (.r 0 1 .nil) (fun a hE => pld (hK7 _ _ (wp_seq_k fun K8 hK8 => wp_seq_k fun K9 hK9 => pl0 (plc hE (.r 0 2 .nil) (fun a hE => pld (hK9 _ _ (cf hE (wp_skip (hK8 _ _ (wp_seq_k fun K10 hK10 => pl0 (ple hE (.lit (d := T_api_Span.k) (e := 51) hS ([] : List T_api_Span) (.nil)) ?_))))))))))))
  rintro _ u11 a ⟨A12, c13, rfl, hS, hg⟩ hE
  refine plc hE (.r 1 1 .nil) (fun a hE => ?_)
  obtain ⟨c15, H⟩ := gd H
  refine ple hE (.ap (d := T_api_Span.k) 32 hS (g0_0.src hS.own.sub) c15 c0_0) ?_
  rintro _ u18 a ⟨A16, c17, rfl, hS, hz⟩ hE
  refine plc hE (.r 3 1 .nil) (fun a hE => pld (hK10 _ _ (wp_ret ?_)))
  obtain rfl := si H
  exact rt1 hE ⟨_, rfl, _, _, _, rfl, hS⟩

/-! ### windrose/maps.spans: function 131 -/
def maps_spans.l16 : Nat → List T_api_Span → List T_api_Span → Int → Option (List T_api_Span)
  | 0, _, _, _ => none
  | k + 1, t4, l13, x14 => if x14 < (t4.length : Int) then (if 0 ≤ x14 ∧ x14 < (t4.length : Int) then ((slices_Clone__int_int.f ((nth T_api_Span.z l13 x14).f1)).bind fun t39 => (maps_spans.l16 k t4 (l13.set (x14).toNat (⟨(nth T_api_Span.z l13 x14).f0, t39⟩ : T_api_Span)) (w64 (x14 + 1)))) else (none)) else (some l13)
theorem maps_spans.l16_s (k : Nat) (t4 : List T_api_Span) (l13 : List T_api_Span) (x14 : Int) : maps_spans.l16 (k + 1) t4 l13 x14 = (if x14 < (t4.length : Int) then (if 0 ≤ x14 ∧ x14 < (t4.length : Int) then ((slices_Clone__int_int.f ((nth T_api_Span.z l13 x14).f1)).bind fun t39 => (maps_spans.l16 k t4 (l13.set (x14).toNat (⟨(nth T_api_Span.z l13 x14).f0, t39⟩ : T_api_Span)) (w64 (x14 + 1)))) else (none)) else (some l13)) := by kernel_rfl
def maps_spans.f (k : Nat) (x0_ : List T_api_Span) : Option (List T_api_Span) := (slices_Clone__api_Span_api_Span.f x0_).bind fun t4 => (maps_spans.l16 k t4 t4 0)
def maps_spans.Post (W F : World) (r : List T_api_Span) (v : Value) (w' : World) : Prop := ∃ (F' : World) (RA0_0 : Option Addr) (rc0_0 : Nat), v = .slice RA0_0 r.length rc0_0 ∧ St W (mine W []) F w' F' [row T_api_Span.k 51 (.slice RA0_0 r.length rc0_0) r]
theorem maps_spans.calls (k : Nat) (x0_ : List T_api_Span) (A0_0 : Option Addr) (c0_0 : Nat) (r : List T_api_Span) (W F : World) (hown : Sub F W) (g0_0 : Rd T_api_Span.k F A0_0 c0_0 x0_) (H : maps_spans.f k x0_ = some r) :
    Calls Tryz.prog 131 #[.slice A0_0 x0_.length c0_0] W fun e w' => ∃ v, e = .returned v ∧ maps_spans.Post W F r v w' := by
 have hS := St.start (Own.nil hown)
 unfold maps_spans.f at H
 refine enter (n := 23) rfl rfl rfl (Nat.le_of_ble_eq_true rfl) (fun a hE => ?_)
 refine wp_seq_k fun K1 hK1 => pl0 (plc hE (.r 0 1 .nil) (fun a hE => pld (hK1 _ _ (wp_seq_k fun K2 hK2 => pl0 (plc hE (.r 0 1 .nil) (fun a hE => ?_))))))
 obtain ⟨t4, h5, H⟩ := bd H
 refine ple hE (.cl en175 (slices_Clone__api_Span_api_Span.calls x0_ _ _ _ _ _ hS.own.sub g0_0 h5)) ?_
 rintro _ u3 a ⟨F6, A7, c8, rfl, hC⟩ hE
 have hs := hC.sub
 replace hS := hS.called (X := []) hC
 replace g0_0 := g0_0.mono hs
 refine plc hE (.r 2 1 .nil) (fun a hE => pld (hK2 _ _ (wp_seq_k fun K11 hK11 => wp_seq_k fun K12 hK12 => pl0 (plc hE (.r 0 3 .nil) (fun a hE => pld (hK12 _ _ (wp_block ?_)))))))
 refine wp_loop_ghost (fun kq17 a w' => ∃ (G : Nat → Value) (l13 : List T_api_Span) (x14 : Int) (F15 : World), kq17 ≤ k ∧ Env 23 G a ∧ At G [(0, .slice A7 t4.length c8), (7, .slice A7 t4.length c8), (8, .int .i64 (t4.length : Int)), (9, .int .i64 x14)] ∧ St W (mine W []) F w' F15 [row T_api_Span.k 51 (.slice A7 t4.length c8) l13] ∧  maps_spans.l16 kq17 t4 l13 x14 = some r) k ⟨_, t4, 0, F6, Nat.le_refl _, hE, .of, hS, H⟩ ?_
 rintro kq17 a u19 ⟨G, l13, x14, F15, hkq, hE, hA, hS, H⟩
 cases kq17 with
 | zero => cases (show none = some r from H)
 | succ k18 =>
  rw [maps_spans.l16_s] at H
  obtain ⟨J, hE⟩ := hE.at hA
  refine wp_seq_k fun K20 hK20 => pl0 (plc hE (.r 0 1 .nil) (fun a hE => pld (hK20 _ _ (wp_seq_k fun K21 hK21 => ?_))))
  rcases sp H with ⟨c22, H⟩ | ⟨c22, H⟩
  ·
   replace hE := hE.kt 10 c22
   refine ct hE (wp_skip (hK21 _ _ (wp_seq_k fun K23 hK23 => wp_block (wp_seq_k fun K24 hK24 => pl0 ?_))))
   obtain ⟨c25, H⟩ := gd H
   have hr26 := hS.row_at (i := 0) rfl
   have c27 : 0 ≤ x14 ∧ x14 < (l13.length : Int) := by rw [← (row_form hr26).1]; exact c25
   have hE_ := hE
   obtain ⟨b28, rfl⟩ := row_addr hr26 c27.1 c27.2
   replace hE := hE_
   have hr_ := hS.row_at (i := 0) rfl
   obtain ⟨cs30, ⟨A32, c33, rfl, g34⟩, hc31⟩ := row_el hr_ T_api_Span.z x14 c27.1 c27.2
   refine plc hE (.r 0 1 <| .x 1 c25 <| .cs 2 hc31 <| .nil) (fun a hE => ple hE (.al (t := 51) hS [.int .i64 0, .slice none 0 0]) ?_)
   rintro _ u36 a ⟨b35, rfl, hb35, hS, hg⟩ hE
   refine plc hE (.r 4 1 .nil) (fun a hE => ple hE (.sto hS [.int .i64 ((nth T_api_Span.z l13 x14).f0), .slice A32 (((nth T_api_Span.z l13 x14).f1).length) c33]) ?_)
   rintro _ u37 a ⟨rfl, hb35, hS, hz⟩ hE
   refine pld (hK24 _ _ (pl0 (plc hE (.r 0 3 <| .b 3 1 hb35 <| .nil) (fun a hE => ?_))))
   obtain ⟨t39, h40, H⟩ := bd H
   refine ple hE (.cl en112 (slices_Clone__int_int.calls ((nth T_api_Span.z l13 x14).f1) _ _ _ _ _ hS.own.sub g34 h40)) ?_
   rintro _ u38 a ⟨F41, A42, c43, rfl, hC⟩ hE
   have hs := hC.sub
   replace hS := hS.called (X := []) hC
   replace g34 := g34.mono hs
   have hr46 := hS.row_at (i := 2) rfl
   have c47 : 0 ≤ x14 ∧ x14 < (l13.length : Int) := by rw [← (row_form hr46).1]; exact c25
   have hr_ := hS.row_at (i := 2) rfl
   obtain ⟨cs49, ⟨A51, c52, rfl, g53⟩, hc50⟩ := row_el hr_ T_api_Span.z x14 c47.1 c47.2
   refine plc hE (.x 5 c25 <| .r 6 1 <| .nil) (fun a hE => ?_)
   obtain ⟨F55, hs, g56, hS⟩ := hS.give
   replace g34 := g34.mono hs
   replace hS := hS.front 1 rfl
   obtain ⟨cs60, ⟨A57, c58, rfl, g59⟩, hc61⟩ := row_el (hS.row_at (i := 0) rfl) T_api_Span.z x14 c47.1 c47.2
   refine ple hE (.set (d := T_api_Span.k) (n := t4.length) (i := x14) (⟨(nth T_api_Span.z l13 x14).f0, t39⟩ : T_api_Span) 1 (ea1 _ _ _) hS c47 [.int .i64 ((nth T_api_Span.z l13 x14).f0), .slice A57 (((nth T_api_Span.z l13 x14).f1).length) c58] hc61 [.int .i64 ((nth T_api_Span.z l13 x14).f0), .slice A42 t39.length c43] ⟨_, _, rfl, g56⟩) ?_
   rintro _ u54 a ⟨rfl, hS, hz⟩ hE
   refine pld ?_
   refine block_n ?_
   refine hK23 _ _ (pl0 (plc hE (.r 0 2 .nil) (fun a hE => pld ?_)))
   replace hS := hS.front 1 rfl
   replace hS := hS.tail
   exact then_n ⟨k18, by omega, _, (l13.set (x14).toNat (⟨(nth T_api_Span.z l13 x14).f0, t39⟩ : T_api_Span)), (w64 (x14 + 1)), F55, by omega, hE, .of, hS, H⟩
  ·
   replace hE := hE.kf 10 c22
   refine cf hE ?_
   refine wp_exit ?_
   refine hK11 _ _ (wp_seq_k fun K62 hK62 => pl0 (plc hE (.r 0 2 .nil) (fun a hE => pld (hK62 _ _ (wp_ret ?_)))))
   have hn63 := (row_form (hS.row_at (i := 0) rfl)).1
   replace hE := hE.set (d := 2) (v := .slice A7 l13.length c8) (Eq.trans (b := .slice A7 t4.length c8) (by kernel_rfl) (by rw [← hn63]))
   replace hS : St W (mine W []) F u19 F15 [row T_api_Span.k 51 (.slice A7 l13.length c8) l13] := by rw [← hn63]; exact hS
   obtain rfl := si H
   exact rt1 hE ⟨_, rfl, _, _, _, rfl, hS⟩

/-! ### windrose/maps.own: function 77 -/
mutual
def maps_own.l30 : Nat → T_api_Map → List T_api_Node → List T_api_Temp → List T_api_Temp → Int → Option T_api_Map
  | 0, _, _, _, _, _ => none
  | k + 1, x0_, t8, t16, l27, x28 => if x28 < (t16.length : Int) then (if 0 ≤ x28 ∧ x28 < (t16.length : Int) then ((slices_Clone__int_int.f ((nth T_api_Temp.z l27 x28).f1)).bind fun t53 => (maps_own.l30 k x0_ t8 t16 (l27.set (x28).toNat (⟨(nth T_api_Temp.z l27 x28).f0, t53⟩ : T_api_Temp)) (w64 (x28 + 1)))) else (none)) else ((slices_Clone__api_Trail_api_Trail.f x0_.f6).bind fun t78 => (maps_own.l91 k x0_ t8 l27 t78 t78 0))
def maps_own.l91 : Nat → T_api_Map → List T_api_Node → List T_api_Temp → List T_api_Trail → List T_api_Trail → Int → Option T_api_Map
  | 0, _, _, _, _, _, _ => none
  | k + 1, x0_, t8, l27, t78, l88, x89 => if x89 < (t78.length : Int) then (if 0 ≤ x89 ∧ x89 < (t78.length : Int) then ((maps_spans.f k ((nth T_api_Trail.z l88 x89).f1)).bind fun t114 => (maps_own.l91 k x0_ t8 l27 t78 (l88.set (x89).toNat (⟨(nth T_api_Trail.z l88 x89).f0, t114⟩ : T_api_Trail)) (w64 (x89 + 1)))) else (none)) else (some (⟨x0_.f0, x0_.f1, x0_.f2, x0_.f3, t8, l27, l88⟩ : T_api_Map))
end
theorem maps_own.l30_s (k : Nat) (x0_ : T_api_Map) (t8 : List T_api_Node) (t16 : List T_api_Temp) (l27 : List T_api_Temp) (x28 : Int) : maps_own.l30 (k + 1) x0_ t8 t16 l27 x28 = (if x28 < (t16.length : Int) then (if 0 ≤ x28 ∧ x28 < (t16.length : Int) then ((slices_Clone__int_int.f ((nth T_api_Temp.z l27 x28).f1)).bind fun t53 => (maps_own.l30 k x0_ t8 t16 (l27.set (x28).toNat (⟨(nth T_api_Temp.z l27 x28).f0, t53⟩ : T_api_Temp)) (w64 (x28 + 1)))) else (none)) else ((slices_Clone__api_Trail_api_Trail.f x0_.f6).bind fun t78 => (maps_own.l91 k x0_ t8 l27 t78 t78 0))) := by kernel_rfl
theorem maps_own.l91_s (k : Nat) (x0_ : T_api_Map) (t8 : List T_api_Node) (l27 : List T_api_Temp) (t78 : List T_api_Trail) (l88 : List T_api_Trail) (x89 : Int) : maps_own.l91 (k + 1) x0_ t8 l27 t78 l88 x89 = (if x89 < (t78.length : Int) then (if 0 ≤ x89 ∧ x89 < (t78.length : Int) then ((maps_spans.f k ((nth T_api_Trail.z l88 x89).f1)).bind fun t114 => (maps_own.l91 k x0_ t8 l27 t78 (l88.set (x89).toNat (⟨(nth T_api_Trail.z l88 x89).f0, t114⟩ : T_api_Trail)) (w64 (x89 + 1)))) else (none)) else (some (⟨x0_.f0, x0_.f1, x0_.f2, x0_.f3, t8, l27, l88⟩ : T_api_Map))) := by kernel_rfl
def maps_own.f (k : Nat) (x0_ : T_api_Map) : Option T_api_Map := (slices_Clone__api_Node_api_Node.f x0_.f4).bind fun t8 => ((slices_Clone__api_Temp_api_Temp.f x0_.f5).bind fun t16 => (maps_own.l30 k x0_ t8 t16 t16 0))
def maps_own.Post (W F : World) (r : T_api_Map) (v : Value) (w' : World) : Prop := ∃ (F' : World) (RA0_4 : Option Addr) (rc0_4 : Nat) (RA0_5 : Option Addr) (rc0_5 : Nat) (RA0_6 : Option Addr) (rc0_6 : Nat), v = .agg #[.int .i64 r.f0, .int .i64 r.f1, .int .i64 r.f2, .int .i64 r.f3, .slice RA0_4 r.f4.length rc0_4, .slice RA0_5 r.f5.length rc0_5, .slice RA0_6 r.f6.length rc0_6] ∧ St W (mine W []) F w' F' [row T_api_Node.k 104 (.slice RA0_4 r.f4.length rc0_4) r.f4, row T_api_Temp.k 97 (.slice RA0_5 r.f5.length rc0_5) r.f5, row T_api_Trail.k 49 (.slice RA0_6 r.f6.length rc0_6) r.f6]
theorem maps_own.calls (k : Nat) (x0_ : T_api_Map) (A0_4 : Option Addr) (c0_4 : Nat) (A0_5 : Option Addr) (c0_5 : Nat) (A0_6 : Option Addr) (c0_6 : Nat) (r : T_api_Map) (W F : World) (hown : Sub F W) (g0_4 : Rd T_api_Node.k F A0_4 c0_4 x0_.f4) (g0_5 : Rd T_api_Temp.k F A0_5 c0_5 x0_.f5) (g0_6 : Rd T_api_Trail.k F A0_6 c0_6 x0_.f6) (H : maps_own.f k x0_ = some r) :
    Calls Tryz.prog 77 #[.agg #[.int .i64 x0_.f0, .int .i64 x0_.f1, .int .i64 x0_.f2, .int .i64 x0_.f3, .slice A0_4 x0_.f4.length c0_4, .slice A0_5 x0_.f5.length c0_5, .slice A0_6 x0_.f6.length c0_6]] W fun e w' => ∃ v, e = .returned v ∧ maps_own.Post W F r v w' := by
 have hS := St.start (Own.nil hown)
 unfold maps_own.f at H
 refine enter (n := 54) rfl rfl rfl (Nat.le_of_ble_eq_true rfl) (fun a hE => ?_)
 refine wp_seq_k fun K1 hK1 => pl0 (ple hE (.bx (t := 26) hS [.int .i64 x0_.f0, .int .i64 x0_.f1, .int .i64 x0_.f2, .int .i64 x0_.f3, .slice A0_4 x0_.f4.length c0_4, .slice A0_5 x0_.f5.length c0_5, .slice A0_6 x0_.f6.length c0_6]) ?_)
 rintro _ u3 a ⟨b2, rfl, hb2, hS, hg⟩ hE
 refine ple hE (.al (t := 26) hS [.int .i64 0, .int .i64 0, .int .i64 0, .int .i64 0, .slice none 0 0, .slice none 0 0, .slice none 0 0]) ?_
 rintro _ u5 a ⟨b4, rfl, hb4, hS, hg⟩ hE
 refine pld (hK1 _ _ (wp_seq_k fun K6 hK6 => ?_))
 refine drawn 10 ⟨[7, 9], [], fun q => False⟩ mixed rfl (by kernel_rfl) (fun hst => ?_)
 replace hS := hS.drew
 have hb2 := hS.blk_at (i := 1) rfl
 refine mny 6 hst hE (.r 0 1 <| .b 1 4 hb2 <| .r 3 1 <| .b 4 5 hb2 <| .nil) (fun a hE => ?_)
 obtain ⟨t8, h9, H⟩ := bd H
 refine on1 2 hE (.cl en128 (slices_Clone__api_Node_api_Node.calls x0_.f4 _ _ _ _ _ hS.own.sub g0_4 h9)) ?_
 rintro _ u7 a ⟨F10, A11, c12, rfl, hC⟩ hE
 refine ⟨.of hC.agr, ?_⟩
 have hs := hC.sub
 replace hS := hS.called (X := []) hC
 replace g0_4 := g0_4.mono hs
 replace g0_5 := g0_5.mono hs
 replace g0_6 := g0_6.mono hs
 refine mny 4 hst hE (.r 6 1 .nil) (fun a hE => ?_)
 obtain ⟨t16, h17, H⟩ := bd H
 refine on1 5 hE (.cl en129 (slices_Clone__api_Temp_api_Temp.calls x0_.f5 _ _ _ _ _ hS.own.sub g0_5 h17)) ?_
 rintro _ u15 a ⟨F18, A19, c20, rfl, hC⟩ hE
 refine ⟨.of hC.agr, ?_⟩
 have hs := hC.sub
 replace hS := hS.called (X := []) hC
 replace g0_4 := g0_4.mono hs
 replace g0_5 := g0_5.mono hs
 replace g0_6 := g0_6.mono hs
 replace hS := hS.front 3 rfl
 refine on1 7 hE (.sto hS [.int .i64 x0_.f0, .int .i64 x0_.f1, .int .i64 x0_.f2, .int .i64 x0_.f3, .slice A11 t8.length c12, .slice A0_5 x0_.f5.length c0_5, .slice A0_6 x0_.f6.length c0_6]) ?_
 rintro _ u23 a ⟨rfl, hb2, hS, hz⟩ hE
 refine ⟨.d, ?_⟩
 refine mny 1 hst hE (.r 8 1 .nil) (fun a hE => ?_)
 refine on1 9 hE (.sto hS [.int .i64 x0_.f0, .int .i64 x0_.f1, .int .i64 x0_.f2, .int .i64 x0_.f3, .slice A11 t8.length c12, .slice A19 t16.length c20, .slice A0_6 x0_.f6.length c0_6]) ?_
 rintro _ u24 a ⟨rfl, hb2, hS, hz⟩ hE
 refine ⟨.d, ?_⟩
 refine dn ?_
 refine hK6 _ _ (wp_seq_k fun K25 hK25 => wp_seq_k fun K26 hK26 => pl0 (plc hE (.r 0 1 <| .b 1 5 hb2 <| .r 2 2 <| .nil) (fun a hE => pld (hK26 _ _ (wp_block ?_)))))
 replace hS := hS.front 1 rfl
 replace hS := hS.front 2 rfl
 replace hS := hS.front 3 rfl
 replace hS := hS.front 3 rfl
 refine wp_loop_ghost (fun kq31 a w' => ∃ (G : Nat → Value) (l27 : List T_api_Temp) (x28 : Int) (F29 : World), kq31 ≤ k ∧ Env 54 G a ∧ At G [(1, .pointer (some ⟨b2, 0, none⟩)), (2, .pointer (some ⟨b4, 0, none⟩)), (16, .slice A19 t16.length c20), (17, .int .i64 (t16.length : Int)), (18, .int .i64 x28)] ∧ St W (mine W []) F w' F29 [box b2 #[.int .i64 x0_.f0, .int .i64 x0_.f1, .int .i64 x0_.f2, .int .i64 x0_.f3, .slice A11 t8.length c12, .slice A19 t16.length c20, .slice A0_6 x0_.f6.length c0_6] 26, box b4 #[.int .i64 0, .int .i64 0, .int .i64 0, .int .i64 0, .slice none 0 0, .slice none 0 0, .slice none 0 0] 26, row T_api_Node.k 104 (.slice A11 t8.length c12) t8, row T_api_Temp.k 97 (.slice A19 t16.length c20) l27] ∧ Rd T_api_Trail.k F29 A0_6 c0_6 x0_.f6 ∧  maps_own.l30 kq31 x0_ t8 t16 l27 x28 = some r) k ⟨_, t16, 0, F18, Nat.le_refl _, hE, .of, hS, g0_6, H⟩ ?_
 rintro kq31 a u33 ⟨G, l27, x28, F29, hkq, hE, hA, hS, g0_6, H⟩
 cases kq31 with
 | zero => cases (show none = some r from H)
 | succ k32 =>
  rw [maps_own.l30_s] at H
  obtain ⟨J, hE⟩ := hE.at hA
  refine wp_seq_k fun K34 hK34 => pl0 (plc hE (.r 0 1 .nil) (fun a hE => pld (hK34 _ _ (wp_seq_k fun K35 hK35 => ?_))))
  rcases sp H with ⟨c36, H⟩ | ⟨c36, H⟩
  ·
   replace hE := hE.kt 19 c36
   refine ct hE (wp_skip (hK35 _ _ (wp_seq_k fun K37 hK37 => wp_block (wp_seq_k fun K38 hK38 => pl0 ?_))))
   obtain ⟨c39, H⟩ := gd H
   have hr40 := hS.row_at (i := 3) rfl
   have c41 : 0 ≤ x28 ∧ x28 < (l27.length : Int) := by rw [← (row_form hr40).1]; exact c39
   have hE_ := hE
   obtain ⟨b42, rfl⟩ := row_addr hr40 c41.1 c41.2
   replace hE := hE_
   have hr_ := hS.row_at (i := 3) rfl
   obtain ⟨cs44, ⟨A46, c47, rfl, g48⟩, hc45⟩ := row_el hr_ T_api_Temp.z x28 c41.1 c41.2
   refine plc hE (.r 0 1 <| .x 1 c39 <| .cs 2 hc45 <| .nil) (fun a hE => ple hE (.al (t := 97) hS [.int .i64 0, .slice none 0 0]) ?_)
   rintro _ u50 a ⟨b49, rfl, hb49, hS, hg⟩ hE
   refine plc hE (.r 4 1 .nil) (fun a hE => ple hE (.sto hS [.int .i64 ((nth T_api_Temp.z l27 x28).f0), .slice A46 (((nth T_api_Temp.z l27 x28).f1).length) c47]) ?_)
   rintro _ u51 a ⟨rfl, hb49, hS, hz⟩ hE
   refine pld (hK38 _ _ ?_)
   refine drawn 9 ⟨[8], [], fun q => False⟩ mixed rfl (by kernel_rfl) (fun hst => ?_)
   replace hS := hS.drew
   have hb2 := hS.blk_at (i := 1) rfl
   have hb49 := hS.blk_at (i := 0) rfl
   refine mny 4 hst hE (.r 0 1 <| .b 1 5 hb2 <| .r 2 2 <| .b 4 1 hb49 <| .nil) (fun a hE => ?_)
   obtain ⟨t53, h54, H⟩ := bd H
   refine on1 5 hE (.cl en112 (slices_Clone__int_int.calls ((nth T_api_Temp.z l27 x28).f1) _ _ _ _ _ hS.own.sub g48 h54)) ?_
   rintro _ u52 a ⟨F55, A56, c57, rfl, hC⟩ hE
   refine ⟨.of hC.agr, ?_⟩
   have hs := hC.sub
   replace hS := hS.called (X := []) hC
   replace g48 := g48.mono hs
   replace g0_6 := g0_6.mono hs
   have hr60 := hS.row_at (i := 5) rfl
   have c61 : 0 ≤ x28 ∧ x28 < (l27.length : Int) := by rw [← (row_form hr60).1]; exact c39
   have hr_ := hS.row_at (i := 5) rfl
   obtain ⟨cs63, ⟨A65, c66, rfl, g67⟩, hc64⟩ := row_el hr_ T_api_Temp.z x28 c61.1 c61.2
   refine mny 1 hst hE (.x 6 c39 <| .r 7 1 <| .nil) (fun a hE => ?_)
   obtain ⟨F69, hs, g70, hS⟩ := hS.give
   replace g48 := g48.mono hs
   replace g0_6 := g0_6.mono hs
   replace hS := hS.front 4 rfl
   obtain ⟨cs74, ⟨A71, c72, rfl, g73⟩, hc75⟩ := row_el (hS.row_at (i := 0) rfl) T_api_Temp.z x28 c61.1 c61.2
   refine on1 8 hE (.set (d := T_api_Temp.k) (n := t16.length) (i := x28) (⟨(nth T_api_Temp.z l27 x28).f0, t53⟩ : T_api_Temp) 1 (ea1 _ _ _) hS c61 [.int .i64 ((nth T_api_Temp.z l27 x28).f0), .slice A71 (((nth T_api_Temp.z l27 x28).f1).length) c72] hc75 [.int .i64 ((nth T_api_Temp.z l27 x28).f0), .slice A56 t53.length c57] ⟨_, _, rfl, g70⟩) ?_
   rintro _ u68 a ⟨rfl, hS, hz⟩ hE
   refine ⟨.d, ?_⟩
   refine dn ?_
   refine block_n ?_
   refine hK37 _ _ (pl0 (plc hE (.r 0 2 .nil) (fun a hE => pld ?_)))
   replace hS := hS.front 1 rfl
   replace hS := hS.tail
   replace hS := hS.front 3 rfl
   replace hS := hS.front 3 rfl
   replace hS := hS.front 3 rfl
   exact then_n ⟨k32, by omega, _, (l27.set (x28).toNat (⟨(nth T_api_Temp.z l27 x28).f0, t53⟩ : T_api_Temp)), (w64 (x28 + 1)), F69, by omega, hE, .of, hS, g0_6, H⟩
  ·
   replace hE := hE.kf 19 c36
   refine cf hE ?_
   refine wp_exit ?_
   refine hK25 _ _ (wp_seq_k fun K76 hK76 => pl0 ?_)
   have hb2 := hS.blk_at (i := 0) rfl
   refine plc hE (.r 0 1 <| .b 1 6 hb2 <| .nil) (fun a hE => ?_)
   obtain ⟨t78, h79, H⟩ := bd H
   refine ple hE (.cl en130 (slices_Clone__api_Trail_api_Trail.calls x0_.f6 _ _ _ _ _ hS.own.sub g0_6 h79)) ?_
   rintro _ u77 a ⟨F80, A81, c82, rfl, hC⟩ hE
   have hs := hC.sub
   replace hS := hS.called (X := []) hC
   replace g0_6 := g0_6.mono hs
   refine plc hE (.r 3 1 .nil) (fun a hE => ?_)
   replace hS := hS.front 1 rfl
   refine ple hE (.sto hS [.int .i64 x0_.f0, .int .i64 x0_.f1, .int .i64 x0_.f2, .int .i64 x0_.f3, .slice A11 t8.length c12, .slice A19 t16.length c20, .slice A81 t78.length c82]) ?_
   rintro _ u85 a ⟨rfl, hb2, hS, hz⟩ hE
   refine pld (hK76 _ _ (wp_seq_k fun K86 hK86 => wp_seq_k fun K87 hK87 => pl0 (plc hE (.r 0 1 <| .b 1 6 hb2 <| .r 2 2 <| .nil) (fun a hE => pld (hK87 _ _ (wp_block ?_))))))
   replace hS := hS.front 1 rfl
   replace hS := hS.front 4 rfl
   replace hS := hS.front 4 rfl
   replace hS := hS.front 4 rfl
   replace hS := hS.front 4 rfl
   refine wp_loop_ghost (fun kq92 a w' => ∃ (G : Nat → Value) (l88 : List T_api_Trail) (x89 : Int) (F90 : World), kq92 ≤ k32 ∧ Env 54 G a ∧ At G [(1, .pointer (some ⟨b2, 0, none⟩)), (2, .pointer (some ⟨b4, 0, none⟩)), (37, .slice A81 t78.length c82), (38, .int .i64 (t78.length : Int)), (39, .int .i64 x89)] ∧ St W (mine W []) F w' F90 [box b2 #[.int .i64 x0_.f0, .int .i64 x0_.f1, .int .i64 x0_.f2, .int .i64 x0_.f3, .slice A11 t8.length c12, .slice A19 t16.length c20, .slice A81 t78.length c82] 26, box b4 #[.int .i64 0, .int .i64 0, .int .i64 0, .int .i64 0, .slice none 0 0, .slice none 0 0, .slice none 0 0] 26, row T_api_Node.k 104 (.slice A11 t8.length c12) t8, row T_api_Temp.k 97 (.slice A19 t16.length c20) l27, row T_api_Trail.k 49 (.slice A81 t78.length c82) l88] ∧  maps_own.l91 kq92 x0_ t8 l27 t78 l88 x89 = some r) k32 ⟨_, t78, 0, F80, Nat.le_refl _, hE, .of, hS, H⟩ ?_
   rintro kq92 a u94 ⟨G, l88, x89, F90, hkq, hE, hA, hS, H⟩
   cases kq92 with
   | zero => cases (show none = some r from H)
   | succ k93 =>
    rw [maps_own.l91_s] at H
    obtain ⟨J, hE⟩ := hE.at hA
    refine wp_seq_k fun K95 hK95 => pl0 (plc hE (.r 0 1 .nil) (fun a hE => pld (hK95 _ _ (wp_seq_k fun K96 hK96 => ?_))))
    rcases sp H with ⟨c97, H⟩ | ⟨c97, H⟩
    ·
     replace hE := hE.kt 40 c97
     refine ct hE (wp_skip (hK96 _ _ (wp_seq_k fun K98 hK98 => wp_block (wp_seq_k fun K99 hK99 => pl0 ?_))))
     obtain ⟨c100, H⟩ := gd H
     have hr101 := hS.row_at (i := 4) rfl
     have c102 : 0 ≤ x89 ∧ x89 < (l88.length : Int) := by rw [← (row_form hr101).1]; exact c100
     have hE_ := hE
     obtain ⟨b103, rfl⟩ := row_addr hr101 c102.1 c102.2
     replace hE := hE_
     have hr_ := hS.row_at (i := 4) rfl
     obtain ⟨cs105, ⟨A107, c108, rfl, g109⟩, hc106⟩ := row_el hr_ T_api_Trail.z x89 c102.1 c102.2
     refine plc hE (.r 0 1 <| .x 1 c100 <| .cs 2 hc106 <| .nil) (fun a hE => ple hE (.al (t := 49) hS [.int .i64 0, .slice none 0 0]) ?_)
     rintro _ u111 a ⟨b110, rfl, hb110, hS, hg⟩ hE
     refine plc hE (.r 4 1 .nil) (fun a hE => ple hE (.sto hS [.int .i64 ((nth T_api_Trail.z l88 x89).f0), .slice A107 (((nth T_api_Trail.z l88 x89).f1).length) c108]) ?_)
     rintro _ u112 a ⟨rfl, hb110, hS, hz⟩ hE
     refine pld (hK99 _ _ ?_)
     refine drawn 9 ⟨[8], [], fun q => False⟩ mixed rfl (by kernel_rfl) (fun hst => ?_)
     replace hS := hS.drew
     have hb2 := hS.blk_at (i := 1) rfl
     have hb110 := hS.blk_at (i := 0) rfl
     refine mny 4 hst hE (.r 0 1 <| .b 1 6 hb2 <| .r 2 2 <| .b 4 1 hb110 <| .nil) (fun a hE => ?_)
     obtain ⟨t114, h115, H⟩ := bd H
     refine on1 5 hE (.cl en131 (maps_spans.calls k93 ((nth T_api_Trail.z l88 x89).f1) _ _ _ _ _ hS.own.sub g109 h115)) ?_
     rintro _ u113 a ⟨F116, A117, c118, rfl, hC⟩ hE
     refine ⟨.of hC.agr, ?_⟩
     have hs := hC.sub
     replace hS := hS.called (X := []) hC
     replace g109 := g109.mono hs
     have hr121 := hS.row_at (i := 6) rfl
     have c122 : 0 ≤ x89 ∧ x89 < (l88.length : Int) := by rw [← (row_form hr121).1]; exact c100
     have hr_ := hS.row_at (i := 6) rfl
     obtain ⟨cs124, ⟨A126, c127, rfl, g128⟩, hc125⟩ := row_el hr_ T_api_Trail.z x89 c122.1 c122.2
     refine mny 1 hst hE (.x 6 c100 <| .r 7 1 <| .nil) (fun a hE => ?_)
     obtain ⟨F130, hs, g131, hS⟩ := hS.give
     replace g109 := g109.mono hs
     replace hS := hS.front 5 rfl
     obtain ⟨cs135, ⟨A132, c133, rfl, g134⟩, hc136⟩ := row_el (hS.row_at (i := 0) rfl) T_api_Trail.z x89 c122.1 c122.2
     refine on1 8 hE (.set (d := T_api_Trail.k) (n := t78.length) (i := x89) (⟨(nth T_api_Trail.z l88 x89).f0, t114⟩ : T_api_Trail) 1 (ea1 _ _ _) hS c122 [.int .i64 ((nth T_api_Trail.z l88 x89).f0), .slice A132 (((nth T_api_Trail.z l88 x89).f1).length) c133] hc136 [.int .i64 ((nth T_api_Trail.z l88 x89).f0), .slice A117 t114.length c118] ⟨_, _, rfl, g131⟩) ?_
     rintro _ u129 a ⟨rfl, hS, hz⟩ hE
     refine ⟨.d, ?_⟩
     refine dn ?_
     refine block_n ?_
     refine hK98 _ _ (pl0 (plc hE (.r 0 2 .nil) (fun a hE => pld ?_)))
     replace hS := hS.front 1 rfl
     replace hS := hS.tail
     replace hS := hS.front 4 rfl
     replace hS := hS.front 4 rfl
     replace hS := hS.front 4 rfl
     replace hS := hS.front 4 rfl
     exact then_n ⟨k93, by omega, _, (l88.set (x89).toNat (⟨(nth T_api_Trail.z l88 x89).f0, t114⟩ : T_api_Trail)), (w64 (x89 + 1)), F130, by omega, hE, .of, hS, H⟩
    ·
     replace hE := hE.kf 40 c97
     refine cf hE ?_
     refine wp_exit ?_
     refine hK86 _ _ (wp_seq_k fun K137 hK137 => pl0 ?_)
     have hb2 := hS.blk_at (i := 0) rfl
     refine plc hE (.bn 0 0 7 hb2 .nil) (fun a hE => ?_)
     replace hS := hS.front 1 rfl
     refine ple hE (.sto hS [.int .i64 x0_.f0, .int .i64 x0_.f1, .int .i64 x0_.f2, .int .i64 x0_.f3, .slice A11 t8.length c12, .slice A19 t16.length c20, .slice A81 t78.length c82]) ?_
     rintro _ u138 a ⟨rfl, hb4, hS, hz⟩ hE
     refine pld (hK137 _ _ (wp_ret ?_))
     have hn139 := (row_form (hS.row_at (i := 3) rfl)).1
     replace hS : St W (mine W []) F u138 F90 [box b4 #[.int .i64 x0_.f0, .int .i64 x0_.f1, .int .i64 x0_.f2, .int .i64 x0_.f3, .slice A11 t8.length c12, .slice A19 l27.length c20, .slice A81 t78.length c82] 26, box b2 #[.int .i64 x0_.f0, .int .i64 x0_.f1, .int .i64 x0_.f2, .int .i64 x0_.f3, .slice A11 t8.length c12, .slice A19 l27.length c20, .slice A81 t78.length c82] 26, row T_api_Node.k 104 (.slice A11 t8.length c12) t8, row T_api_Temp.k 97 (.slice A19 l27.length c20) l27, row T_api_Trail.k 49 (.slice A81 t78.length c82) l88] := by rw [← hn139]; exact hS
     have hn140 := (row_form (hS.row_at (i := 4) rfl)).1
     replace hS : St W (mine W []) F u138 F90 [box b4 #[.int .i64 x0_.f0, .int .i64 x0_.f1, .int .i64 x0_.f2, .int .i64 x0_.f3, .slice A11 t8.length c12, .slice A19 l27.length c20, .slice A81 l88.length c82] 26, box b2 #[.int .i64 x0_.f0, .int .i64 x0_.f1, .int .i64 x0_.f2, .int .i64 x0_.f3, .slice A11 t8.length c12, .slice A19 l27.length c20, .slice A81 l88.length c82] 26, row T_api_Node.k 104 (.slice A11 t8.length c12) t8, row T_api_Temp.k 97 (.slice A19 l27.length c20) l27, row T_api_Trail.k 49 (.slice A81 l88.length c82) l88] := by rw [← hn140]; exact hS
     have hb4 := hS.blk_at (i := 0) rfl
     replace hS := hS.tail
     replace hS := hS.tail
     obtain rfl := si H
     exact ret1 hE rfl (.cell (by kernel_rfl) (res_blk [.int .i64 x0_.f0, .int .i64 x0_.f1, .int .i64 x0_.f2, .int .i64 x0_.f3, .slice A11 t8.length c12, .slice A19 l27.length c20, .slice A81 l88.length c82] ag26 sz26 hb4 rfl) .nil) ⟨_, rfl, _, _, _, _, _, _, _, rfl, hS⟩

/-! ### cmp.isNaN[int]: function 202 -/
def cmp_isNaN_int.f (x0_ : Int) : Option Bool := some (!(x0_ == x0_))
def cmp_isNaN_int.Post (W F : World) (r : Bool) (v : Value) (w' : World) : Prop := ∃ (F' : World), v = .bool r ∧ St W (mine W []) F w' F' []
theorem cmp_isNaN_int.calls (x0_ : Int) (r : Bool) (W F : World) (hown : Sub F W) (H : cmp_isNaN_int.f x0_ = some r) :
    Calls Tryz.prog 202 #[.int .i64 x0_] W fun e w' => ∃ v, e = .returned v ∧ cmp_isNaN_int.Post W F r v w' := by
 have hS := St.start (Own.nil hown)
 unfold cmp_isNaN_int.f at H
 refine enter (n := 6) rfl rfl rfl (Nat.le_of_ble_eq_true rfl) (fun a hE => ?_)
 refine wp_seq_k fun K1 hK1 => pl0 (plc hE (.r 0 1 .nil) (fun a hE => pld (hK1 _ _ (wp_seq_k fun K2 hK2 => pl0 (plc hE (.r 0 4 .nil) (fun a hE => pld (hK2 _ _ (wp_ret ?_))))))))
 obtain rfl := si H
 exact rt1 hE ⟨_, rfl, _, rfl, hS⟩

/-! ### cmp.Compare[int]: function 161 -/
def cmp_Compare_int.f (x0_ : Int) (x1_ : Int) : Option Int := (cmp_isNaN_int.f x0_).bind fun t4 => ((cmp_isNaN_int.f x1_).bind fun t8 => (if t4 = true then (if t8 = true then (some 0) else (some (-1))) else (if t8 = true then (some 1) else (if x0_ < x1_ then (some (-1)) else (if x0_ > x1_ then (some 1) else (some 0))))))
def cmp_Compare_int.Post (W F : World) (r : Int) (v : Value) (w' : World) : Prop := ∃ (F' : World), v = .int .i64 r ∧ St W (mine W []) F w' F' []
theorem cmp_Compare_int.calls (x0_ : Int) (x1_ : Int) (r : Int) (W F : World) (hown : Sub F W) (H : cmp_Compare_int.f x0_ x1_ = some r) :
    Calls Tryz.prog 161 #[.int .i64 x0_, .int .i64 x1_] W fun e w' => ∃ v, e = .returned v ∧ cmp_Compare_int.Post W F r v w' := by
 have hS := St.start (Own.nil hown)
 unfold cmp_Compare_int.f at H
 refine enter (n := 20) rfl rfl rfl (Nat.le_of_ble_eq_true rfl) (fun a hE => ?_)
 refine wp_seq_k fun K1 hK1 => pl0 (plc hE (.r 0 1 .nil) (fun a hE => pld (hK1 _ _ (wp_seq_k fun K2 hK2 => pl0 (plc hE (.r 0 1 .nil) (fun a hE => ?_))))))
 obtain ⟨t4, h5, H⟩ := bd H
 refine ple hE (.cl en202 (cmp_isNaN_int.calls x0_ _ _ _ hS.own.sub h5)) ?_
 rintro _ u3 a ⟨_, rfl, hC⟩ hE
 replace hS := hS.lent hC
 refine plc hE (.r 2 1 .nil) (fun a hE => pld (hK2 _ _ (wp_seq_k fun K6 hK6 => pl0 (plc hE (.r 0 1 .nil) (fun a hE => ?_)))))
 obtain ⟨t8, h9, H⟩ := bd H
 refine ple hE (.cl en202 (cmp_isNaN_int.calls x1_ _ _ _ hS.own.sub h9)) ?_
 rintro _ u7 a ⟨_, rfl, hC⟩ hE
 replace hS := hS.lent hC
 refine plc hE (.r 2 1 .nil) (fun a hE => pld (hK6 _ _ (wp_seq_k fun K10 hK10 => wp_seq_k fun K11 hK11 => pl0 (plc hE (.r 0 1 .nil) (fun a hE => pld (hK11 _ _ ?_))))))
 rcases sp H with ⟨c12, H⟩ | ⟨c12, H⟩
 ·
  replace hE := hE.bt 11 c12
  refine ct hE (wp_seq_k fun K13 hK13 => wp_seq_k fun K14 hK14 => pl0 (plc hE (.r 0 1 .nil) (fun a hE => pld (hK14 _ _ ?_))))
  rcases sp H with ⟨c15, H⟩ | ⟨c15, H⟩
  ·
   replace hE := hE.bt 12 c15
   refine ct hE (wp_seq_k fun K16 hK16 => pl0 (plc hE (.r 0 1 .nil) (fun a hE => pld (hK16 _ _ (wp_ret (then_ret (then_ret ?_)))))))
   obtain rfl := si H
   exact rt1 hE ⟨_, rfl, _, rfl, hS⟩
  ·
   replace hE := hE.bf 12 c15
   refine cf hE (wp_skip (hK13 _ _ (wp_seq_k fun K17 hK17 => pl0 (plc hE (.r 0 1 .nil) (fun a hE => pld (hK17 _ _ (wp_ret (then_ret ?_))))))))
   obtain rfl := si H
   exact rt1 hE ⟨_, rfl, _, rfl, hS⟩
 ·
  replace hE := hE.bf 11 c12
  refine cf hE (wp_skip (hK10 _ _ (wp_seq_k fun K18 hK18 => wp_seq_k fun K19 hK19 => pl0 (plc hE (.r 0 1 .nil) (fun a hE => pld (hK19 _ _ ?_))))))
  rcases sp H with ⟨c20, H⟩ | ⟨c20, H⟩
  ·
   replace hE := hE.bt 13 c20
   refine ct hE (wp_seq_k fun K21 hK21 => pl0 (plc hE (.r 0 1 .nil) (fun a hE => pld (hK21 _ _ (wp_ret (then_ret ?_))))))
   obtain rfl := si H
   exact rt1 hE ⟨_, rfl, _, rfl, hS⟩
  ·
   replace hE := hE.bf 13 c20
   refine cf hE (wp_skip (hK18 _ _ (wp_seq_k fun K22 hK22 => wp_seq_k fun K23 hK23 => pl0 (plc hE (.r 0 3 .nil) (fun a hE => pld (hK23 _ _ ?_))))))
   rcases sp H with ⟨c24, H⟩ | ⟨c24, H⟩
   ·
    replace hE := hE.kt 16 c24
    refine ct hE (wp_seq_k fun K25 hK25 => pl0 (plc hE (.r 0 1 .nil) (fun a hE => pld (hK25 _ _ (wp_ret (then_ret ?_))))))
    obtain rfl := si H
    exact rt1 hE ⟨_, rfl, _, rfl, hS⟩
   ·
    replace hE := hE.kf 16 c24
    refine cf hE (wp_skip (hK22 _ _ (wp_seq_k fun K26 hK26 => wp_seq_k fun K27 hK27 => pl0 (plc hE (.r 0 3 .nil) (fun a hE => pld (hK27 _ _ ?_))))))
    rcases sp H with ⟨c28, H⟩ | ⟨c28, H⟩
    ·
     replace hE := hE.kt 19 c28
     refine ct hE (wp_seq_k fun K29 hK29 => pl0 (plc hE (.r 0 1 .nil) (fun a hE => pld (hK29 _ _ (wp_ret (then_ret ?_))))))
     obtain rfl := si H
     exact rt1 hE ⟨_, rfl, _, rfl, hS⟩
    ·
     replace hE := hE.kf 19 c28
     refine cf hE (wp_skip (hK26 _ _ (wp_seq_k fun K30 hK30 => pl0 (plc hE (.r 0 1 .nil) (fun a hE => pld (hK30 _ _ (wp_ret ?_)))))))
     obtain rfl := si H
     exact rt1 hE ⟨_, rfl, _, rfl, hS⟩

/-! ### windrose/maps.at$1: function 179 -/
def maps_at_1.f (x0_ : T_api_Node) (x1_ : Int) : Option Int := (cmp_Compare_int.f x0_.f0 x1_).bind fun t6 => (some t6)
def maps_at_1.Post (W F : World) (r : Int) (v : Value) (w' : World) : Prop := ∃ (F' : World), v = .int .i64 r ∧ St W (mine W []) F w' F' []
theorem maps_at_1.calls (x0_ : T_api_Node) (x1_ : Int) (r : Int) (W F : World) (hown : Sub F W) (H : maps_at_1.f x0_ x1_ = some r) :
    Calls Tryz.prog 179 #[.agg #[.int .i64 x0_.f0, .int .i64 x0_.f1, .int .i64 x0_.f2, .int .i64 x0_.f3, .bool x0_.f4, .bool x0_.f5], .int .i64 x1_] W fun e w' => ∃ v, e = .returned v ∧ maps_at_1.Post W F r v w' := by
 have hS := St.start (Own.nil hown)
 unfold maps_at_1.f at H
 refine enter (n := 9) rfl rfl rfl (Nat.le_of_ble_eq_true rfl) (fun a hE => ?_)
 refine wp_seq_k fun K1 hK1 => pl0 (ple hE (.bx (t := 104) hS [.int .i64 x0_.f0, .int .i64 x0_.f1, .int .i64 x0_.f2, .int .i64 x0_.f3, .bool x0_.f4, .bool x0_.f5]) ?_)
 rintro _ u3 a ⟨b2, rfl, hb2, hS, hg⟩ hE
 refine plc hE (.r 1 1 .nil) (fun a hE => pld (hK1 _ _ (wp_seq_k fun K4 hK4 => pl0 (plc hE (.r 0 1 <| .b 1 0 hb2 <| .r 2 1 <| .nil) (fun a hE => ?_)))))
 obtain ⟨t6, h7, H⟩ := bd H
 refine ple hE (.cl en161 (cmp_Compare_int.calls x0_.f0 x1_ _ _ _ hS.own.sub h7)) ?_
 rintro _ u5 a ⟨_, rfl, hC⟩ hE
 replace hS := hS.lent hC
 refine plc hE (.r 4 1 .nil) (fun a hE => pld (hK4 _ _ (wp_ret ?_)))
 replace hS := hS.tail
 obtain rfl := si H
 exact rt1 hE ⟨_, rfl, _, rfl, hS⟩

/-! ### slices.BinarySearchFunc[[]windrose/api.Node,windrose/api.Node,int]: function 173 -/
def slices_BinarySearchFunc__api_Node_api_Node_int_of_maps_at_1.l7 : Nat → List T_api_Node → Int → Int → Int → Option (Int × Bool)
  | 0, _, _, _, _ => none
  | k + 1, x0_, x1_, x5, x6 => if x5 < x6 then (if 0 ≤ (w64 ((IntKind.u64.wrap (w64 (x5 + x6))).fdiv 2)) ∧ (w64 ((IntKind.u64.wrap (w64 (x5 + x6))).fdiv 2)) < (x0_.length : Int) then ((maps_at_1.f (⟨(nth T_api_Node.z x0_ (w64 ((IntKind.u64.wrap (w64 (x5 + x6))).fdiv 2))).f0, (nth T_api_Node.z x0_ (w64 ((IntKind.u64.wrap (w64 (x5 + x6))).fdiv 2))).f1, (nth T_api_Node.z x0_ (w64 ((IntKind.u64.wrap (w64 (x5 + x6))).fdiv 2))).f2, (nth T_api_Node.z x0_ (w64 ((IntKind.u64.wrap (w64 (x5 + x6))).fdiv 2))).f3, (nth T_api_Node.z x0_ (w64 ((IntKind.u64.wrap (w64 (x5 + x6))).fdiv 2))).f4, (nth T_api_Node.z x0_ (w64 ((IntKind.u64.wrap (w64 (x5 + x6))).fdiv 2))).f5⟩ : T_api_Node) x1_).bind fun t22 => (if t22 < 0 then (slices_BinarySearchFunc__api_Node_api_Node_int_of_maps_at_1.l7 k x0_ x1_ (w64 ((w64 ((IntKind.u64.wrap (w64 (x5 + x6))).fdiv 2)) + 1)) x6) else (slices_BinarySearchFunc__api_Node_api_Node_int_of_maps_at_1.l7 k x0_ x1_ x5 (w64 ((IntKind.u64.wrap (w64 (x5 + x6))).fdiv 2))))) else (none)) else (if x5 < (x0_.length : Int) then (if 0 ≤ x5 ∧ x5 < (x0_.length : Int) then ((maps_at_1.f (⟨(nth T_api_Node.z x0_ x5).f0, (nth T_api_Node.z x0_ x5).f1, (nth T_api_Node.z x0_ x5).f2, (nth T_api_Node.z x0_ x5).f3, (nth T_api_Node.z x0_ x5).f4, (nth T_api_Node.z x0_ x5).f5⟩ : T_api_Node) x1_).bind fun t33 => (some (x5, (t33 == 0)))) else (none)) else (some (x5, false)))
theorem slices_BinarySearchFunc__api_Node_api_Node_int_of_maps_at_1.l7_s (k : Nat) (x0_ : List T_api_Node) (x1_ : Int) (x5 : Int) (x6 : Int) : slices_BinarySearchFunc__api_Node_api_Node_int_of_maps_at_1.l7 (k + 1) x0_ x1_ x5 x6 = (if x5 < x6 then (if 0 ≤ (w64 ((IntKind.u64.wrap (w64 (x5 + x6))).fdiv 2)) ∧ (w64 ((IntKind.u64.wrap (w64 (x5 + x6))).fdiv 2)) < (x0_.length : Int) then ((maps_at_1.f (⟨(nth T_api_Node.z x0_ (w64 ((IntKind.u64.wrap (w64 (x5 + x6))).fdiv 2))).f0, (nth T_api_Node.z x0_ (w64 ((IntKind.u64.wrap (w64 (x5 + x6))).fdiv 2))).f1, (nth T_api_Node.z x0_ (w64 ((IntKind.u64.wrap (w64 (x5 + x6))).fdiv 2))).f2, (nth T_api_Node.z x0_ (w64 ((IntKind.u64.wrap (w64 (x5 + x6))).fdiv 2))).f3, (nth T_api_Node.z x0_ (w64 ((IntKind.u64.wrap (w64 (x5 + x6))).fdiv 2))).f4, (nth T_api_Node.z x0_ (w64 ((IntKind.u64.wrap (w64 (x5 + x6))).fdiv 2))).f5⟩ : T_api_Node) x1_).bind fun t22 => (if t22 < 0 then (slices_BinarySearchFunc__api_Node_api_Node_int_of_maps_at_1.l7 k x0_ x1_ (w64 ((w64 ((IntKind.u64.wrap (w64 (x5 + x6))).fdiv 2)) + 1)) x6) else (slices_BinarySearchFunc__api_Node_api_Node_int_of_maps_at_1.l7 k x0_ x1_ x5 (w64 ((IntKind.u64.wrap (w64 (x5 + x6))).fdiv 2))))) else (none)) else (if x5 < (x0_.length : Int) then (if 0 ≤ x5 ∧ x5 < (x0_.length : Int) then ((maps_at_1.f (⟨(nth T_api_Node.z x0_ x5).f0, (nth T_api_Node.z x0_ x5).f1, (nth T_api_Node.z x0_ x5).f2, (nth T_api_Node.z x0_ x5).f3, (nth T_api_Node.z x0_ x5).f4, (nth T_api_Node.z x0_ x5).f5⟩ : T_api_Node) x1_).bind fun t33 => (some (x5, (t33 == 0)))) else (none)) else (some (x5, false)))) := by kernel_rfl
def slices_BinarySearchFunc__api_Node_api_Node_int_of_maps_at_1.f (k : Nat) (x0_ : List T_api_Node) (x1_ : Int) : Option (Int × Bool) := slices_BinarySearchFunc__api_Node_api_Node_int_of_maps_at_1.l7 k x0_ x1_ 0 (x0_.length : Int)
def slices_BinarySearchFunc__api_Node_api_Node_int_of_maps_at_1.Post (W F : World) (r : Int × Bool) (v : Value) (w' : World) : Prop := ∃ (F' : World), v = .tuple #[.int .i64 r.1, .bool r.2] ∧ St W (mine W []) F w' F' []
theorem slices_BinarySearchFunc__api_Node_api_Node_int_of_maps_at_1.calls (k : Nat) (x0_ : List T_api_Node) (x1_ : Int) (A0_0 : Option Addr) (c0_0 : Nat) (r : Int × Bool) (W F : World) (hown : Sub F W) (g0_0 : Rd T_api_Node.k F A0_0 c0_0 x0_) (H : slices_BinarySearchFunc__api_Node_api_Node_int_of_maps_at_1.f k x0_ x1_ = some r) :
    Calls Tryz.prog 173 #[.slice A0_0 x0_.length c0_0, .int .i64 x1_, .func (.func 179) #[] #[]] W fun e w' => ∃ v, e = .returned v ∧ slices_BinarySearchFunc__api_Node_api_Node_int_of_maps_at_1.Post W F r v w' := by
 have hS := St.start (Own.nil hown)
 unfold slices_BinarySearchFunc__api_Node_api_Node_int_of_maps_at_1.f at H
 refine enter (n := 49) rfl rfl rfl (Nat.le_of_ble_eq_true rfl) (fun a hE => ?_)
 refine wp_seq_k fun K1 hK1 => pl0 (plc hE (.r 0 2 .nil) (fun a hE => pld (hK1 _ _ (wp_seq_k fun K2 hK2 => pl0 (plc hE (.r 0 3 .nil) (fun a hE => pld (hK2 _ _ (wp_seq_k fun K3 hK3 => pl0 (plc hE (.r 0 3 .nil) (fun a hE => pld (hK3 _ _ (wp_seq_k fun K4 hK4 => wp_block ?_))))))))))))
 refine wp_loop_ghost (fun kq8 a w' => ∃ (G : Nat → Value) (x5 : Int) (x6 : Int), kq8 ≤ k ∧ Env 49 G a ∧ At G [(0, .slice A0_0 x0_.length c0_0), (1, .int .i64 x1_), (2, .func (.func 179) #[] #[]), (8, .int .i64 (x0_.length : Int)), (9, .int .i64 x5), (10, .int .i64 x6)] ∧ St W (mine W []) F w' F [] ∧  slices_BinarySearchFunc__api_Node_api_Node_int_of_maps_at_1.l7 kq8 x0_ x1_ x5 x6 = some r) k ⟨_, 0, (x0_.length : Int), Nat.le_refl _, hE, .of, hS, H⟩ ?_
 rintro kq8 a u10 ⟨G, x5, x6, hkq, hE, hA, hS, H⟩
 cases kq8 with
 | zero => cases (show none = some r from H)
 | succ k9 =>
  rw [slices_BinarySearchFunc__api_Node_api_Node_int_of_maps_at_1.l7_s] at H
  obtain ⟨J, hE⟩ := hE.at hA
  refine wp_seq_k fun K11 hK11 => wp_seq_k fun K12 hK12 => pl0 (plc hE (.r 0 3 .nil) (fun a hE => pld (hK12 _ _ ?_)))
  rcases sp H with ⟨c13, H⟩ | ⟨c13, H⟩
  ·
   replace hE := hE.kt 17 c13
   refine ct hE (wp_skip (hK11 _ _ (wp_block (wp_seq_k fun K14 hK14 => pl0 (plc hE (.r 0 7 .nil) (fun a hE => pld (hK14 _ _ (wp_seq_k fun K15 hK15 => pl0 ?_))))))))
   obtain ⟨c16, H⟩ := gd H
   have hE_ := hE
   obtain ⟨ad17, rfl⟩ := g0_0.addr c16.1 c16.2
   replace hE := hE_
   obtain ⟨cs19, rfl, hc20⟩ := g0_0.el T_api_Node.z (w64 ((IntKind.u64.wrap (w64 (x5 + x6))).fdiv 2)) c16.1 c16.2
   refine plc hE (.r 0 3 <| .x 3 c16 <| .cs 4 (hS.fcs hc20) <| .r 5 1 <| .nil) (fun a hE => ?_)
   obtain ⟨t22, h23, H⟩ := bd H
   refine ple hE (.cl en179 (maps_at_1.calls (⟨(nth T_api_Node.z x0_ (w64 ((IntKind.u64.wrap (w64 (x5 + x6))).fdiv 2))).f0, (nth T_api_Node.z x0_ (w64 ((IntKind.u64.wrap (w64 (x5 + x6))).fdiv 2))).f1, (nth T_api_Node.z x0_ (w64 ((IntKind.u64.wrap (w64 (x5 + x6))).fdiv 2))).f2, (nth T_api_Node.z x0_ (w64 ((IntKind.u64.wrap (w64 (x5 + x6))).fdiv 2))).f3, (nth T_api_Node.z x0_ (w64 ((IntKind.u64.wrap (w64 (x5 + x6))).fdiv 2))).f4, (nth T_api_Node.z x0_ (w64 ((IntKind.u64.wrap (w64 (x5 + x6))).fdiv 2))).f5⟩ : T_api_Node) x1_ _ _ _ hS.own.sub h23)) ?_
   rintro _ u21 a ⟨_, rfl, hC⟩ hE
   replace hS := hS.lent hC
   refine plc hE (.r 7 1 .nil) (fun a hE => pld (hK15 _ _ ?_))
   rcases sp H with ⟨c24, H⟩ | ⟨c24, H⟩
   ·
    replace hE := hE.kt 31 c24
    refine ct hE (pl0 (plc hE (.r 0 3 .nil) (fun a hE => pld ?_)))
    refine block_n ?_
    exact then_n ⟨k9, by omega, _, (w64 ((w64 ((IntKind.u64.wrap (w64 (x5 + x6))).fdiv 2)) + 1)), x6, by omega, hE, .of, hS, H⟩
   ·
    replace hE := hE.kf 31 c24
    refine cf hE (pl0 (plc hE (.r 0 2 .nil) (fun a hE => pld ?_)))
    refine block_n ?_
    exact then_n ⟨k9, by omega, _, x5, (w64 ((IntKind.u64.wrap (w64 (x5 + x6))).fdiv 2)), by omega, hE, .of, hS, H⟩
  ·
   replace hE := hE.kf 17 c13
   refine cf hE ?_
   refine wp_exit ?_
   refine hK4 _ _ (wp_seq_k fun K25 hK25 => pl0 (plc hE (.r 0 5 .nil) (fun a hE => ?_)))
   rcases sp H with ⟨c26, H⟩ | ⟨c26, H⟩
   ·
    replace hE := hE.kt 39 c26
    obtain ⟨c27, H⟩ := gd H
    have hE_ := hE
    obtain ⟨ad28, rfl⟩ := g0_0.addr c27.1 c27.2
    replace hE := hE_
    obtain ⟨cs30, rfl, hc31⟩ := g0_0.el T_api_Node.z x5 c27.1 c27.2
    refine plc hE (.r 5 3 <| .x 8 c27 <| .cs 9 (hS.fcs hc31) <| .r 10 1 <| .nil) (fun a hE => ?_)
    obtain ⟨t33, h34, H⟩ := bd H
    refine ple hE (.cl en179 (maps_at_1.calls (⟨(nth T_api_Node.z x0_ x5).f0, (nth T_api_Node.z x0_ x5).f1, (nth T_api_Node.z x0_ x5).f2, (nth T_api_Node.z x0_ x5).f3, (nth T_api_Node.z x0_ x5).f4, (nth T_api_Node.z x0_ x5).f5⟩ : T_api_Node) x1_ _ _ _ hS.own.sub h34)) ?_
    rintro _ u32 a ⟨_, rfl, hC⟩ hE
    replace hS := hS.lent hC
    refine plc hE (.r 12 4 .nil) (fun a hE => pld (hK25 _ _ (wp_ret ?_)))
    obtain rfl := si H
    exact rtN hE ⟨_, rfl, _, rfl, hS⟩
   ·
    replace hE := hE.kf 39 c26
    refine plc hE (.r 5 11 .nil) (fun a hE => pld (hK25 _ _ (wp_ret ?_)))
    obtain rfl := si H
    exact rtN hE ⟨_, rfl, _, rfl, hS⟩

/-! ### windrose/maps.at: function 135 -/
def maps_at.f (k : Nat) (x0_ : T_api_Map) (x1_ : Int) : Option (Int × Bool) := (slices_BinarySearchFunc__api_Node_api_Node_int_of_maps_at_1.f k x0_.f4 x1_).bind fun t6 => (some (t6.1, t6.2))
def maps_at.Post (W F : World) (r : Int × Bool) (v : Value) (w' : World) : Prop := ∃ (F' : World), v = .tuple #[.int .i64 r.1, .bool r.2] ∧ St W (mine W []) F w' F' []
theorem maps_at.calls (k : Nat) (x0_ : T_api_Map) (x1_ : Int) (A0_4 : Option Addr) (c0_4 : Nat) (A0_5 : Option Addr) (c0_5 : Nat) (A0_6 : Option Addr) (c0_6 : Nat) (r : Int × Bool) (W F : World) (hown : Sub F W) (g0_4 : Rd T_api_Node.k F A0_4 c0_4 x0_.f4) (g0_5 : Rd T_api_Temp.k F A0_5 c0_5 x0_.f5) (g0_6 : Rd T_api_Trail.k F A0_6 c0_6 x0_.f6) (H : maps_at.f k x0_ x1_ = some r) :
    Calls Tryz.prog 135 #[.agg #[.int .i64 x0_.f0, .int .i64 x0_.f1, .int .i64 x0_.f2, .int .i64 x0_.f3, .slice A0_4 x0_.f4.length c0_4, .slice A0_5 x0_.f5.length c0_5, .slice A0_6 x0_.f6.length c0_6], .int .i64 x1_] W fun e w' => ∃ v, e = .returned v ∧ maps_at.Post W F r v w' := by
 have hS := St.start (Own.nil hown)
 unfold maps_at.f at H
 refine enter (n := 12) rfl rfl rfl (Nat.le_of_ble_eq_true rfl) (fun a hE => ?_)
 refine wp_seq_k fun K1 hK1 => pl0 (ple hE (.bx (t := 26) hS [.int .i64 x0_.f0, .int .i64 x0_.f1, .int .i64 x0_.f2, .int .i64 x0_.f3, .slice A0_4 x0_.f4.length c0_4, .slice A0_5 x0_.f5.length c0_5, .slice A0_6 x0_.f6.length c0_6]) ?_)
 rintro _ u3 a ⟨b2, rfl, hb2, hS, hg⟩ hE
 refine plc hE (.r 1 2 .nil) (fun a hE => pld (hK1 _ _ (wp_seq_k fun K4 hK4 => pl0 (plc hE (.r 0 1 <| .b 1 4 hb2 <| .r 2 1 <| .nil) (fun a hE => ?_)))))
 obtain ⟨t6, h7, H⟩ := bd H
 refine ple hE (.cl en173 (slices_BinarySearchFunc__api_Node_api_Node_int_of_maps_at_1.calls k x0_.f4 x1_ _ _ _ _ _ hS.own.sub g0_4 h7)) ?_
 rintro _ u5 a ⟨_, rfl, hC⟩ hE
 replace hS := hS.lent hC
 refine plc hE (.r 4 4 .nil) (fun a hE => pld (hK4 _ _ (wp_ret ?_)))
 replace hS := hS.tail
 obtain rfl := si H
 exact rtN hE ⟨_, rfl, _, rfl, hS⟩

/-! ### slices.Insert[[]windrose/api.Node,windrose/api.Node]: function 176, by hand (hand/insert.txt) -/
def slices_Insert__api_Node_api_Node.f (x0_ : List T_api_Node) (x1_ : Int) (x2_ : List T_api_Node) : Option (List T_api_Node) := match x2_ with
  | [x] => if 0 ≤ x1_ ∧ x1_ ≤ (x0_.length : Int) ∧ x0_.length ≤ 1000000 then some (x0_.take x1_.toNat ++ x :: x0_.drop x1_.toNat) else none
  | _ => none
def slices_Insert__api_Node_api_Node.Post (x0_ : List T_api_Node) (x1_ : Int) (x2_ : List T_api_Node) (A0_0 : Option Addr) (c0_0 : Nat) (A2_0 : Option Addr) (c2_0 : Nat) (W F : World) (r : List T_api_Node) (v : Value) (w' : World) : Prop := ∃ (F' : World) (RA0_0 : Option Addr) (rc0_0 : Nat), v = .slice RA0_0 r.length rc0_0 ∧ St W (mine W [row T_api_Node.k 104 (.slice A0_0 x0_.length c0_0) x0_, row T_api_Node.k 104 (.slice A2_0 x2_.length c2_0) x2_]) F w' F' [row T_api_Node.k 104 (.slice RA0_0 r.length rc0_0) r]
set_option maxHeartbeats 4000000 in
set_option maxRecDepth 100000 in
theorem slices_Insert__api_Node_api_Node.calls (x0_ : List T_api_Node) (x1_ : Int) (x2_ : List T_api_Node) (A0_0 : Option Addr) (c0_0 : Nat) (A2_0 : Option Addr) (c2_0 : Nat) (r : List T_api_Node) (W F : World) (hown : Own W F [row T_api_Node.k 104 (.slice A0_0 x0_.length c0_0) x0_, row T_api_Node.k 104 (.slice A2_0 x2_.length c2_0) x2_]) (H : slices_Insert__api_Node_api_Node.f x0_ x1_ x2_ = some r) :
    Calls Tryz.prog 176 #[.slice A0_0 x0_.length c0_0, .int .i64 x1_, .slice A2_0 x2_.length c2_0] W fun e w' => ∃ v, e = .returned v ∧ slices_Insert__api_Node_api_Node.Post x0_ x1_ x2_ A0_0 c0_0 A2_0 c2_0 W F r v w' := by
  have hS := St.start hown
  unfold slices_Insert__api_Node_api_Node.f at H
  rcases x2_ with _ | ⟨x, _ | ⟨y, l⟩⟩
  · cases H
  rotate_left
  · cases H
  replace H : (if 0 ≤ x1_ ∧ x1_ ≤ (x0_.length : Int) ∧ x0_.length ≤ 1000000 then some (x0_.take x1_.toNat ++ x :: x0_.drop x1_.toNat) else none) = some r := H
  by_cases hc : 0 ≤ x1_ ∧ x1_ ≤ (x0_.length : Int) ∧ x0_.length ≤ 1000000
  rotate_left
  · rw [if_neg hc] at H; cases H
  rw [if_pos hc] at H
  have hr := Option.some.inj H
  clear H
  obtain ⟨h0, h1, hm⟩ := hc
  obtain ⟨j, rfl⟩ : ∃ j : Nat, x1_ = j := ⟨x1_.toNat, by omega⟩
  simp only [Int.toNat_natCast] at hr
  refine enter (n := 95) rfl rfl rfl (Nat.le_of_ble_eq_true rfl) (fun a hE => ?_)
  obtain ⟨A12, c12, hA12, hv12⟩ := y_suf (P := Tryz.prog) (k := .i64) (hS.row_at (i := 0) rfl) ⟨h0, h1⟩
  refine wp_seq_k fun K0 hK0 => ?_
  refine pl0 ?_
  refine plc hE (.r 0 1 .nil) (fun a hE => ?_)
  refine pld ?_
  refine hK0 _ _ ?_
  refine wp_seq_k fun K1 hK1 => ?_
  refine pl0 ?_
  refine plc hE (.r 0 2 <| .y 2 (hv12 (by kernel_rfl)) .nil) (fun a hE => ?_)
  refine pld ?_
  refine hK1 _ _ ?_
  refine wp_seq_k fun K2 hK2 => ?_
  refine pl0 ?_
  refine plc hE (.r 0 3 .nil) (fun a hE => ?_)
  refine pld ?_
  refine hK2 _ _ ?_
  refine wp_seq_k fun K3 hK3 => ?_
  refine wp_seq_k fun K4 hK4 => ?_
  refine pl0 ?_
  refine plc hE (.r 0 2 .nil) (fun a hE => ?_)
  refine pld ?_
  refine hK4 _ _ ?_
  refine cf hE ?_
  refine wp_skip ?_
  refine hK3 _ _ ?_
  refine wp_seq_k fun K5 hK5 => ?_
  refine pl0 ?_
  refine plc hE (.r 0 3 .nil) (fun a hE => ?_)
  refine pld ?_
  refine hK5 _ _ ?_
  refine wp_seq_k fun K6 hK6 => ?_
  refine wp_seq_k fun K7 hK7 => ?_
  refine pl0 ?_
  refine plc hE (.r 0 3 .nil) (fun a hE => ?_)
  refine pld ?_
  refine hK7 _ _ ?_
  by_cases hi : (j : Int) = (x0_.length : Int)
  · replace hE := hE.kt 22 hi
    refine ct hE ?_
    obtain rfl : j = x0_.length := by omega
    obtain rfl : x0_ ++ [x] = r := by rw [← hr]; simp
    refine wp_seq_k fun K8 hK8 => ?_
    refine pl0 ?_
    refine plc hE (.r 0 2 .nil) (fun a hE => ?_)
    refine ple hE (.ap (d := T_api_Node.k) 40 hS (row_src (hS.row_at (i := 1) rfl)) (by simp only [List.length_cons, List.length_nil]; omega) c2_0) ?_
    rintro _ w1 a ⟨A1, c1, rfl, hS, hz⟩ hE
    refine plc hE (.r 3 1 .nil) (fun a hE => ?_)
    refine pld ?_
    refine hK8 _ _ ?_
    refine wp_ret (then_ret ?_)
    replace hS := hS.front 1 rfl
    replace hS := hS.tail
    exact rt1 hE ⟨_, rfl, F, _, _, rfl, hS⟩
  replace hE := hE.kf 22 hi
  refine cf hE ?_
  refine wp_skip ?_
  refine hK6 _ _ ?_
  have hlt : j < x0_.length := by omega
  have hxc : x0_.length ≤ c0_0 ∧ c0_0 ≤ maxLen := by
    obtain ⟨_, q1, q2, _⟩ := row_form (hS.row_at (i := 0) rfl)
    exact ⟨q1, q2⟩
  have hxc2 : [x].length ≤ c2_0 := (row_form (hS.row_at (i := 1) rfl)).2.1
  have hE_ := hE
  obtain ⟨g, cur, rfl, hsz, hrep, hS⟩ := hS.unrow (by omega)
  replace hS := hS.front 1 rfl
  obtain ⟨g2, cur2, rfl, hsz2, hrep2, hS⟩ := hS.unrow (by simp)
  replace hE := hE_
  have hne : g2 ≠ g := hS.ne (i := 0) (j := 1) rfl rfl (by decide)
  obtain ⟨cs, hcs⟩ : ∃ cs, cs = cur2.toList.take 6 := ⟨_, rfl⟩
  have hx : (T_api_Node.k).K F x cs := by
    have h5 := hrep2.2 0 x rfl
    rw [Nat.zero_mul, List.drop_zero, List.take_take] at h5
    rw [hcs]
    exact h5
  have hcl : cs.length = 6 := (T_api_Node.k).len hx
  have hcget : ∀ q u, cs[q]? = some u → cur2[q]? = some u := fun q u hq => by
    rw [hcs, List.getElem?_take] at hq
    split at hq
    · rwa [Array.getElem?_toList] at hq
    · cases hq
  have hcone : ∀ u ∈ cs, u.oneCell' = true := (T_api_Node.k).one hx
  obtain ⟨inner, hin⟩ : ∃ inner, inner = cur.toList.take (x0_.length * 6) := ⟨_, rfl⟩
  replace hrep : RepsK T_api_Node.k F x0_ inner := by rw [hin]; exact hrep
  have hil : inner.length = x0_.length * 6 := hrep.1
  have hione : ∀ u ∈ inner.drop (j * 6), u.oneCell' = true := fun u hu => hrep.one u (List.mem_of_mem_drop hu)
  have hidl : (inner.drop (j * 6)).length = (x0_.length - j) * 6 := by rw [List.length_drop, hil, Nat.sub_mul]
  have higet : ∀ q u, (inner.drop (j * 6))[q]? = some u → cur[j * 6 + q]? = some u := fun q u hq => by
    rw [List.getElem?_drop, hin, List.getElem?_take] at hq
    split at hq
    · rwa [Array.getElem?_toList] at hq
    · cases hq
  replace hsz : cur.size = c0_0 * 6 := hsz
  have hw1 : w64 ((x0_.length : Int) + (([x].length : Nat) : Int)) = ((x0_.length + 1 : Nat) : Int) := by
    simp only [List.length_cons, List.length_nil]
    rw [w64_of (by omega) (by omega)]
    omega
  have hw2 : w64 ((j : Int) + (([x].length : Nat) : Int)) = ((j + 1 : Nat) : Int) := by
    simp only [List.length_cons, List.length_nil]
    rw [w64_of (by omega) (by omega)]
    omega
  refine wp_seq_k fun K9 hK9 => ?_
  refine wp_seq_k fun K10 hK10 => ?_
  refine pl0 ?_
  refine plc hE (.r 0 4 <| .y 4 (y_cap (A := some ⟨g, 0, none⟩) (n := x0_.length) (c := c0_0)) <| .r 5 1 .nil) (fun a hE => ?_)
  refine pld ?_
  refine hK10 _ _ ?_
  by_cases hroom : w64 ((x0_.length : Int) + (([x].length : Nat) : Int)) > (c0_0 : Int)
  · replace hE := hE.kt 31 hroom
    rw [hw1] at hroom
    refine ct hE ?_
    have hw3 : w64 (w64 ((x0_.length : Int) + (([x].length : Nat) : Int)) - (j : Int)) = ((x0_.length + 1 - j : Nat) : Int) := by
      rw [hw1, w64_of (by omega) (by omega)]
      omega
    refine wp_seq_k fun K11 hK11 => ?_
    refine pl0 ?_
    refine plc hE (.r 0 2 <| .y 2 (y_hi (e := 104) (z := 6) (g := g) (n := x0_.length) (c := c0_0) (k := .i64) (hi := (j : Int)) ⟨by omega, by omega⟩) <| .r 3 5 .nil) (fun a hE => ?_)
    refine ple hE (.gro (e := 104) (g := g) (c := c0_0) (j := j) (z := 6) (bytes := 40) (k := w64 (w64 ((x0_.length : Int) + (([x].length : Nat) : Int)) - (j : Int))) hS (hS.blk_at (i := 1) rfl) (by omega) (by omega) (by rw [hsz]; exact Nat.mul_le_mul_right _ (by omega)) (by rw [hw3]; omega) (by kernel_rfl)) ?_
    rintro _ w1 a ⟨b, arr, cc, rfl, has, hc1, hc2, hpre, hS, hag⟩ hE
    rw [hw3] at hc1 hE
    have hnb : g2 ≠ b := hS.ne (i := 1) (j := 0) rfl rfl (by decide)
    have hgb : g ≠ b := hS.ne (i := 2) (j := 0) rfl rfl (by decide)
    have hk3 : j + ((x0_.length + 1 - j : Nat) : Int).toNat = x0_.length + 1 := by rw [Int.toNat_natCast]; omega
    rw [hk3] at hc1 hE
    have hpi : arr.toList.take (j * 6) = inner.take (j * 6) := by
      rw [hpre, hin, List.take_take, Nat.min_eq_left (Nat.mul_le_mul_right _ (by omega))]
    obtain ⟨s1, s2, s3⟩ := splice_new (sz := 6) (n := x0_.length) (i := j) (cap := cc) (c0 := arr.toList) (inner := inner) (cs := cs) hpi hil hcl (by omega) hc1 (by rw [Array.length_toList]; exact has)
    obtain ⟨C1, hC1⟩ : ∃ C1, C1 = arr.toList.take (j * 6) ++ cs ++ arr.toList.drop (j * 6 + cs.length) := ⟨_, rfl⟩
    rw [← hC1] at s1 s2 s3
    obtain ⟨C2, hC2⟩ : ∃ C2, C2 = C1.take ((j + 1) * 6) ++ inner.drop (j * 6) ++ C1.drop ((j + 1) * 6 + (inner.drop (j * 6)).length) := ⟨_, rfl⟩
    rw [← hC2] at s1 s2
    refine plc hE (.r 9 1 .nil) (fun a hE => ?_)
    refine pld ?_
    refine hK11 _ _ ?_
    refine wp_seq_k fun K12 hK12 => ?_
    refine pl0 ?_
    refine plc hE (.r 0 2 <| .y 2 (y_lo (e := 104) (z := 6) (g := b) (n := x0_.length + 1) (c := cc) (k := .i64) (lo := (j : Int)) ⟨by omega, by omega⟩ (by omega)) <| .r 3 1 .nil) (fun a hE => ?_)
    have hb2 := hS.blk_at (i := 1) rfl
    have hbg := hS.blk_at (i := 2) rfl
    have hmin1 : Nat.min [x].length (x0_.length + 1 - (j : Int).toNat) = 1 := by
      rw [Int.toNat_natCast]
      simp only [List.length_cons, List.length_nil]
      exact Nat.min_eq_left (by omega)
    refine ple hE (.cpy (e := 104) (z := 6) (off := (j : Int).toNat * 6) (dn := x0_.length + 1 - (j : Int).toNat) (dc := cc - (j : Int).toNat) (sn := [x].length) (sc := c2_0) (sa := ⟨g2, 0, none⟩) hS cs (by rw [hmin1, hcl]) (fun q u hq => by rw [add_at, Nat.zero_add]; exact cell_blk hb2 (hcget q u hq)) hcone (by
      rw [Int.toNat_natCast, has, hcl]
      have := Nat.mul_le_mul_right 6 (show j + 1 ≤ cc by omega)
      omega) (by kernel_rfl)) ?_
    rintro _ w2 a ⟨rfl, hS, hz, hnew, hoth⟩ hE
    simp only [Int.toNat_natCast] at hS hnew
    rw [← hC1] at hS hnew
    refine pld ?_
    refine hK12 _ _ ?_
    refine wp_seq_k fun K13 hK13 => ?_
    refine drawn 9 ⟨[8], [], fun q => False⟩ mixed rfl (by kernel_rfl) (fun hst => ?_)
    replace hS := hS.drew
    have hbg2 := hS.blk_at (i := 2) rfl
    refine mny 1 hst hE (.r 0 4 <| .y 4 (y_lo (e := 104) (z := 6) (g := b) (n := x0_.length + 1) (c := cc) (k := .i64) (lo := w64 ((j : Int) + (([x].length : Nat) : Int))) ⟨by omega, by omega⟩ (by omega)) <| .r 5 2 <| .y 7 (y_lo (e := 104) (z := 6) (g := g) (n := x0_.length) (c := c0_0) (k := .i64) (lo := (j : Int)) ⟨by omega, by omega⟩ (by omega)) .nil) (fun a hE => ?_)
    refine on1 8 hE (.cpy (e := 104) (z := 6) (off := (w64 ((j : Int) + (([x].length : Nat) : Int))).toNat * 6) (dn := x0_.length + 1 - (w64 ((j : Int) + (([x].length : Nat) : Int))).toNat) (dc := cc - (w64 ((j : Int) + (([x].length : Nat) : Int))).toNat) (sn := x0_.length - (j : Int).toNat) (sc := c0_0 - (j : Int).toNat) (sa := ⟨g, (j : Int).toNat * 6, none⟩) hS (inner.drop (j * 6)) (by
      rw [hw2, Int.toNat_natCast, Int.toNat_natCast, hidl, show x0_.length + 1 - (j + 1) = x0_.length - j by omega]
      congr 1
      exact (Nat.min_self _).symm) (fun q u hq => by rw [add_at, Int.toNat_natCast]; exact cell_blk hbg2 (higet q u hq)) hione (by
      rw [hw2, Int.toNat_natCast, hidl, List.size_toArray, s3, ← Nat.add_mul]
      exact Nat.mul_le_mul_right _ (by omega)) (by kernel_rfl)) ?_
    rintro _ w3 a ⟨rfl, hS, hz, hnew, hoth⟩ hE
    refine ⟨.d, ?_⟩
    refine dn ?_
    rw [hw2, Int.toNat_natCast] at hS
    simp only [List.toList_toArray] at hS
    rw [← hC2] at hS
    refine hK13 _ _ ?_
    refine wp_seq_k fun K14 hK14 => ?_
    refine pl0 ?_
    refine plc hE (.r 0 2 .nil) (fun a hE => ?_)
    refine pld ?_
    refine hK14 _ _ ?_
    refine wp_ret (then_ret ?_)
    have hrl : r.length = x0_.length + 1 := by rw [← hr]; simp; omega
    have hrr : RepsK T_api_Node.k F r (C2.toArray.toList.take (r.length * (T_api_Node.k).sz)) := by
      rw [hrl]
      show RepsK T_api_Node.k F r (C2.take ((x0_.length + 1) * 6))
      rw [s1, ← hr]
      exact splice_reps hrep hx (by omega) rfl
    have hS2 := hS.rerow (c := cc) r (show C2.toArray.size = cc * 6 by simpa using s2) (by omega) hc2 hrr
    replace hS2 := hS2.front 1 rfl
    replace hS2 := hS2.tail
    replace hS2 := hS2.front 1 rfl
    replace hS2 := hS2.tail
    rw [← hrl] at hE
    exact rt1 hE ⟨_, rfl, F, _, _, rfl, hS2⟩
  replace hE := hE.kf 31 hroom
  rw [hw1] at hroom
  have hrm : x0_.length + 1 ≤ c0_0 := by omega
  refine cf hE ?_
  refine wp_skip ?_
  refine hK9 _ _ ?_
  obtain ⟨s1, s2, s3⟩ := splice_in (sz := 6) (n := x0_.length) (i := j) (cap := c0_0) (cur := cur.toList) (inner := inner) (cs := cs) hin.symm hcl (by omega) hrm (by rw [Array.length_toList]; exact hsz)
  obtain ⟨C1, hC1⟩ : ∃ C1, C1 = cur.toList.take ((j + 1) * 6) ++ inner.drop (j * 6) ++ cur.toList.drop ((j + 1) * 6 + (inner.drop (j * 6)).length) := ⟨_, rfl⟩
  rw [← hC1] at s1 s2 s3
  obtain ⟨C2, hC2⟩ : ∃ C2, C2 = C1.take (j * 6) ++ cs ++ C1.drop (j * 6 + cs.length) := ⟨_, rfl⟩
  rw [← hC2] at s1 s2
  refine wp_seq_k fun K15 hK15 => ?_
  refine pl0 ?_
  refine plc hE (.r 0 4 <| .y 4 (y_hi (e := 104) (z := 6) (g := g) (n := x0_.length) (c := c0_0) (k := .i64) (hi := w64 ((x0_.length : Int) + (([x].length : Nat) : Int))) ⟨by omega, by omega⟩) <| .r 5 1 .nil) (fun a hE => ?_)
  refine pld ?_
  refine hK15 _ _ ?_
  have hn1 : (w64 ((x0_.length : Int) + (([x].length : Nat) : Int))).toNat = x0_.length + 1 := by rw [hw1, Int.toNat_natCast]
  rw [hn1] at hE
  refine wp_seq_k fun K16 hK16 => ?_
  refine wp_seq_k fun K17 hK17 => ?_
  refine pl0 ?_
  refine plc hE (.r 0 5 <| .y 5 (y_lo (e := 104) (z := 6) (g := g) (n := x0_.length + 1) (c := c0_0) (k := .i64) (lo := w64 ((j : Int) + (([x].length : Nat) : Int))) ⟨by omega, by omega⟩ (by omega)) .nil) (fun a hE => ?_)
  have hb2 := hS.blk_at (i := 0) rfl
  have hbg := hS.blk_at (i := 1) rfl
  have hcz : cur.size ≠ 0 := by rw [hsz]; exact Nat.mul_ne_zero (by omega) (by decide)
  refine ple hE (.ext (f := 210) (args := [.slice (some ⟨g2, 0, none⟩) [x].length c2_0, .slice (some ⟨g, (w64 ((j : Int) + (([x].length : Nat) : Int))).toNat * 6, none⟩) (x0_.length + 1 - (w64 ((j : Int) + (([x].length : Nat) : Int))).toNat) (c0_0 - (w64 ((j : Int) + (([x].length : Nat) : Int))).toNat)]) (v := .bool false) (R := fun v w' => v = .bool false ∧ w' = _) (by
    rw [run_callFunc_extern Tryz.func210 (by kernel_rfl) (by kernel_rfl) (by kernel_rfl) (e := Extern.SlicesOverlaps.overlaps #[22, 22] #[4]) (by kernel_rfl)]
    refine (congrArg (fun r : Result Value => r.andThen fun v w' => Result.ok (Next.value v) w') (Lib.run_overlaps_apart _ 22 4 104 Tryz.underlying22 6 (fun _ => by kernel_rfl) ⟨g2, 0, none⟩ ⟨g, (w64 ((j : Int) + (([x].length : Nat) : Int))).toNat * 6, none⟩ [x].length c2_0 _ _ hne 104 104 cur2.size cur.size (by simp [World.shape?, hb2]) (by simp [World.shape?, hbg]) hcz (by simp [World.frozen?, hb2]) (by simp [World.frozen?, hb2]))).trans rfl) ⟨rfl, rfl⟩) ?_
  rintro _ _ a ⟨rfl, rfl⟩ hE
  refine plc hE (.r 7 1 .nil) (fun a hE => ?_)
  refine pld ?_
  refine hK17 _ _ ?_
  refine ct hE ?_
  refine wp_seq_k fun K18 hK18 => ?_
  refine drawn 9 ⟨[8], [], fun q => False⟩ mixed rfl (by kernel_rfl) (fun hst => ?_)
  replace hS := hS.drew
  replace hS := hS.front 1 rfl
  have hbg2 := hS.blk_at (i := 0) rfl
  refine mny 1 hst hE (.r 0 4 <| .y 4 (y_lo (e := 104) (z := 6) (g := g) (n := x0_.length + 1) (c := c0_0) (k := .i64) (lo := w64 ((j : Int) + (([x].length : Nat) : Int))) ⟨by omega, by omega⟩ (by omega)) <| .r 5 2 <| .y 7 (y_lo (e := 104) (z := 6) (g := g) (n := x0_.length + 1) (c := c0_0) (k := .i64) (lo := (j : Int)) ⟨by omega, by omega⟩ (by omega)) .nil) (fun a hE => ?_)
  refine on1 8 hE (.cpy (e := 104) (z := 6) (off := (w64 ((j : Int) + (([x].length : Nat) : Int))).toNat * 6) (dn := x0_.length + 1 - (w64 ((j : Int) + (([x].length : Nat) : Int))).toNat) (dc := c0_0 - (w64 ((j : Int) + (([x].length : Nat) : Int))).toNat) (sn := x0_.length + 1 - (j : Int).toNat) (sc := c0_0 - (j : Int).toNat) (sa := ⟨g, (j : Int).toNat * 6, none⟩) hS (inner.drop (j * 6)) (by
    rw [hw2, Int.toNat_natCast, Int.toNat_natCast, hidl, show x0_.length + 1 - (j + 1) = x0_.length - j by omega]
    congr 1
    exact (Nat.min_eq_right (by omega)).symm) (fun q u hq => by rw [add_at, Int.toNat_natCast]; exact cell_blk hbg2 (higet q u hq)) hione (by
    rw [hw2, Int.toNat_natCast, hidl, hsz, ← Nat.add_mul]
    exact Nat.mul_le_mul_right _ (by omega)) (by kernel_rfl)) ?_
  rintro _ w2 a ⟨rfl, hS, hz, hnew, hoth⟩ hE
  refine ⟨.d, ?_⟩
  refine dn ?_
  rw [hw2, Int.toNat_natCast, ← hC1] at hS
  refine hK18 _ _ ?_
  refine wp_seq_k fun K19 hK19 => ?_
  refine pl0 ?_
  have hb3 := hS.blk_at (i := 1) rfl
  refine plc hE (.r 0 2 <| .y 2 (y_lo (e := 104) (z := 6) (g := g) (n := x0_.length + 1) (c := c0_0) (k := .i64) (lo := (j : Int)) ⟨by omega, by omega⟩ (by omega)) <| .r 3 1 .nil) (fun a hE => ?_)
  have hmin1 : Nat.min [x].length (x0_.length + 1 - (j : Int).toNat) = 1 := by
    rw [Int.toNat_natCast]
    simp only [List.length_cons, List.length_nil]
    exact Nat.min_eq_left (by omega)
  refine ple hE (.cpy (e := 104) (z := 6) (off := (j : Int).toNat * 6) (dn := x0_.length + 1 - (j : Int).toNat) (dc := c0_0 - (j : Int).toNat) (sn := [x].length) (sc := c2_0) (sa := ⟨g2, 0, none⟩) hS cs (by rw [hmin1, hcl]) (fun q u hq => by rw [add_at, Nat.zero_add]; exact cell_blk hb3 (hcget q u hq)) hcone (by
    rw [Int.toNat_natCast, List.size_toArray, s3, hcl]
    have := Nat.mul_le_mul_right 6 (show j + 1 ≤ c0_0 by omega)
    omega) (by kernel_rfl)) ?_
  rintro _ w3 a ⟨rfl, hS, hz, hnew, hoth⟩ hE
  simp only [Int.toNat_natCast, List.toList_toArray] at hS
  rw [← hC2] at hS
  refine pld ?_
  refine hK19 _ _ ?_
  refine wp_seq_k fun K20 hK20 => ?_
  refine pl0 ?_
  refine plc hE (.r 0 2 .nil) (fun a hE => ?_)
  refine pld ?_
  refine hK20 _ _ ?_
  refine wp_ret (then_ret ?_)
  have hrl : r.length = x0_.length + 1 := by rw [← hr]; simp; omega
  have hrr : RepsK T_api_Node.k F r (C2.toArray.toList.take (r.length * (T_api_Node.k).sz)) := by
    rw [hrl]
    show RepsK T_api_Node.k F r (C2.take ((x0_.length + 1) * 6))
    rw [s1, ← hr]
    exact splice_reps hrep hx (by omega) rfl
  have hS2 := hS.rerow (c := c0_0) r (show C2.toArray.size = c0_0 * 6 by simpa using s2) (by omega) hxc.2 hrr
  replace hS2 := hS2.front 1 rfl
  replace hS2 := hS2.tail
  rw [← hrl] at hE
  exact rt1 hE ⟨_, rfl, F, _, _, rfl, hS2⟩

/-! ### windrose/maps.add: function 132 -/
def maps_add.f (k : Nat) (x0_ : T_api_Map) (x1_ : T_api_Delta) : Option (T_api_Map × Int) := (maps_at.f k x0_ x1_.f1).bind fun t10 => (if t10.2 = true then (some (x0_, 7)) else (if (x0_.f4.length : Int) = 12 then (some (x0_, 6)) else ((slices_Insert__api_Node_api_Node.f x0_.f4 t10.1 [(⟨x1_.f1, x1_.f2, x1_.f3, x1_.f4, false, true⟩ : T_api_Node)]).bind fun t27 => ((topo_Check.f k t27).bind fun t37 => (some ((⟨x0_.f0, x0_.f1, x0_.f2, x0_.f3, t27, x0_.f5, x0_.f6⟩ : T_api_Map), t37))))))
def maps_add.Post (x0_ : T_api_Map) (x1_ : T_api_Delta) (A0_4 : Option Addr) (c0_4 : Nat) (A0_5 : Option Addr) (c0_5 : Nat) (A0_6 : Option Addr) (c0_6 : Nat) (A1_6 : Option Addr) (c1_6 : Nat) (W F : World) (r : T_api_Map × Int) (v : Value) (w' : World) : Prop := ∃ (F' : World) (RA0_4 : Option Addr) (rc0_4 : Nat) (RA0_5 : Option Addr) (rc0_5 : Nat) (RA0_6 : Option Addr) (rc0_6 : Nat), v = .tuple #[.agg #[.int .i64 r.1.f0, .int .i64 r.1.f1, .int .i64 r.1.f2, .int .i64 r.1.f3, .slice RA0_4 r.1.f4.length rc0_4, .slice RA0_5 r.1.f5.length rc0_5, .slice RA0_6 r.1.f6.length rc0_6], .int .i64 r.2] ∧ St W (mine W [row T_api_Node.k 104 (.slice A0_4 x0_.f4.length c0_4) x0_.f4]) F w' F' [row T_api_Node.k 104 (.slice RA0_4 r.1.f4.length rc0_4) r.1.f4] ∧ Rd T_api_Temp.k F' RA0_5 rc0_5 r.1.f5 ∧ Rd T_api_Trail.k F' RA0_6 rc0_6 r.1.f6
theorem maps_add.calls (k : Nat) (x0_ : T_api_Map) (x1_ : T_api_Delta) (A0_4 : Option Addr) (c0_4 : Nat) (A0_5 : Option Addr) (c0_5 : Nat) (A0_6 : Option Addr) (c0_6 : Nat) (A1_6 : Option Addr) (c1_6 : Nat) (r : T_api_Map × Int) (W F : World) (hown : Own W F [row T_api_Node.k 104 (.slice A0_4 x0_.f4.length c0_4) x0_.f4]) (g0_5 : Rd T_api_Temp.k F A0_5 c0_5 x0_.f5) (g0_6 : Rd T_api_Trail.k F A0_6 c0_6 x0_.f6) (g1_6 : Rd (Kn.int .i64) F A1_6 c1_6 x1_.f6) (H : maps_add.f k x0_ x1_ = some r) :
    Calls Tryz.prog 132 #[.agg #[.int .i64 x0_.f0, .int .i64 x0_.f1, .int .i64 x0_.f2, .int .i64 x0_.f3, .slice A0_4 x0_.f4.length c0_4, .slice A0_5 x0_.f5.length c0_5, .slice A0_6 x0_.f6.length c0_6], .agg #[.int .i64 x1_.f0, .int .i64 x1_.f1, .int .i64 x1_.f2, .int .i64 x1_.f3, .int .i64 x1_.f4, .int .i64 x1_.f5, .slice A1_6 x1_.f6.length c1_6]] W fun e w' => ∃ v, e = .returned v ∧ maps_add.Post x0_ x1_ A0_4 c0_4 A0_5 c0_5 A0_6 c0_6 A1_6 c1_6 W F r v w' := by
 have hS := St.start hown
 obtain ⟨N, hN⟩ : ∃ N, N = mine W [row T_api_Node.k 104 (.slice A0_4 x0_.f4.length c0_4) x0_.f4] := ⟨_, rfl⟩
 rw [← hN] at hS
 unfold maps_add.f at H
 refine enter (n := 43) rfl rfl rfl (Nat.le_of_ble_eq_true rfl) (fun a hE => ?_)
 refine wp_seq_k fun K1 hK1 => pl0 (ple hE (.bx (t := 26) hS [.int .i64 x0_.f0, .int .i64 x0_.f1, .int .i64 x0_.f2, .int .i64 x0_.f3, .slice A0_4 x0_.f4.length c0_4, .slice A0_5 x0_.f5.length c0_5, .slice A0_6 x0_.f6.length c0_6]) ?_)
 rintro _ u3 a ⟨b2, rfl, hb2, hS, hg⟩ hE
 refine ple hE (.bx (t := 40) hS [.int .i64 x1_.f0, .int .i64 x1_.f1, .int .i64 x1_.f2, .int .i64 x1_.f3, .int .i64 x1_.f4, .int .i64 x1_.f5, .slice A1_6 x1_.f6.length c1_6]) ?_
 rintro _ u5 a ⟨b4, rfl, hb4, hS, hg⟩ hE
 refine ple hE (.al (t := 26) hS [.int .i64 0, .int .i64 0, .int .i64 0, .int .i64 0, .slice none 0 0, .slice none 0 0, .slice none 0 0]) ?_
 rintro _ u7 a ⟨b6, rfl, hb6, hS, hg⟩ hE
 refine plc hE (.r 3 1 .nil) (fun a hE => pld (hK1 _ _ (wp_seq_k fun K8 hK8 => pl0 ?_)))
 have hb2 := hS.blk_at (i := 2) rfl
 have hb4 := hS.blk_at (i := 1) rfl
 refine plc hE (.bn 0 0 7 hb2 <| .r 1 1 <| .b 2 1 hb4 <| .nil) (fun a hE => ?_)
 obtain ⟨t10, h11, H⟩ := bd H
 refine ple hE (.cl en135 (maps_at.calls k x0_ x1_.f1 _ _ _ _ _ _ _ _ _ (Sub.refl _) (hS.rd_at (i := 3) rfl) (g0_5.mono hS.own.sub) (g0_6.mono hS.own.sub) h11)) ?_
 rintro _ u9 a ⟨_, rfl, hC⟩ hE
 replace hS := hS.lent hC
 refine plc hE (.r 4 5 .nil) (fun a hE => pld (hK8 _ _ (wp_seq_k fun K12 hK12 => wp_block (wp_seq_k fun K13 hK13 => pl0 (plc hE (.r 0 2 .nil) (fun a hE => pld (hK13 _ _ ?_)))))))
 rcases sp H with ⟨c14, H⟩ | ⟨c14, H⟩
 ·
  replace hE := hE.bt 15 c14
  refine ct hE (wp_seq_k fun K15 hK15 => pl0 ?_)
  have hb2 := hS.blk_at (i := 2) rfl
  refine plc hE (.bn 0 0 7 hb2 .nil) (fun a hE => ple hE (.sto hS [.int .i64 x0_.f0, .int .i64 x0_.f1, .int .i64 x0_.f2, .int .i64 x0_.f3, .slice A0_4 x0_.f4.length c0_4, .slice A0_5 x0_.f5.length c0_5, .slice A0_6 x0_.f6.length c0_6]) ?_)
  rintro _ u16 a ⟨rfl, hb6, hS, hz⟩ hE
  refine plc hE (.r 2 1 .nil) (fun a hE => pld (hK15 _ _ (wp_ret (block_ret (then_ret ?_)))))
  replace hS := hS.tail
  replace hS := hS.tail
  replace hS := hS.tail
  rw [hN] at hS
  obtain rfl := si H
  exact retN hE rfl (of_decide_eq_true rfl) (.cell (by kernel_rfl) (res_blk [.int .i64 x0_.f0, .int .i64 x0_.f1, .int .i64 x0_.f2, .int .i64 x0_.f3, .slice A0_4 x0_.f4.length c0_4, .slice A0_5 x0_.f5.length c0_5, .slice A0_6 x0_.f6.length c0_6] ag26 sz26 hb6 rfl) (.tmp (by kernel_rfl) .nil)) ⟨_, rfl, _, _, _, _, _, _, _, rfl, hS, g0_5, g0_6⟩
 ·
  replace hE := hE.bf 15 c14
  refine cf hE (wp_seq_k fun K17 hK17 => pl0 ?_)
  have hb2 := hS.blk_at (i := 2) rfl
  refine plc hE (.r 0 1 <| .b 1 4 hb2 <| .r 2 3 <| .nil) (fun a hE => pld (hK17 _ _ ?_))
  rcases sp H with ⟨c18, H⟩ | ⟨c18, H⟩
  ·
   replace hE := hE.kt 18 c18
   refine ct hE (wp_seq_k fun K19 hK19 => pl0 (plc hE (.bn 0 0 7 hb2 .nil) (fun a hE => ple hE (.sto hS [.int .i64 x0_.f0, .int .i64 x0_.f1, .int .i64 x0_.f2, .int .i64 x0_.f3, .slice A0_4 x0_.f4.length c0_4, .slice A0_5 x0_.f5.length c0_5, .slice A0_6 x0_.f6.length c0_6]) ?_)))
   rintro _ u20 a ⟨rfl, hb6, hS, hz⟩ hE
   refine plc hE (.r 2 1 .nil) (fun a hE => pld (hK19 _ _ (wp_ret (block_ret (then_ret ?_)))))
   replace hS := hS.tail
   replace hS := hS.tail
   replace hS := hS.tail
   rw [hN] at hS
   obtain rfl := si H
   exact retN hE rfl (of_decide_eq_true rfl) (.cell (by kernel_rfl) (res_blk [.int .i64 x0_.f0, .int .i64 x0_.f1, .int .i64 x0_.f2, .int .i64 x0_.f3, .slice A0_4 x0_.f4.length c0_4, .slice A0_5 x0_.f5.length c0_5, .slice A0_6 x0_.f6.length c0_6] ag26 sz26 hb6 rfl) (.tmp (by kernel_rfl) .nil)) ⟨_, rfl, _, _, _, _, _, _, _, rfl, hS, g0_5, g0_6⟩
  ·
   replace hE := hE.kf 18 c18
   refine cf hE (wp_skip ?_)
   refine block_n ?_
   refine hK12 _ _ (wp_seq_k fun K21 hK21 => pl0 ?_)
   have hb4 := hS.blk_at (i := 1) rfl
   refine plc hE (.r 0 1 <| .b 1 4 hb2 <| .r 2 2 <| .b 4 1 hb4 <| .r 5 1 <| .b 6 2 hb4 <| .r 7 1 <| .b 8 3 hb4 <| .r 9 1 <| .b 10 4 hb4 <| .r 11 1 <| .nil) (fun a hE => ple hE (.lit (d := T_api_Node.k) (e := 104) hS [(⟨x1_.f1, x1_.f2, x1_.f3, x1_.f4, false, true⟩ : T_api_Node)] (.cons rfl .nil)) ?_)
   rintro _ u22 a ⟨A23, c24, rfl, hS, hg⟩ hE
   replace hS := hS.front 4 rfl
   obtain ⟨t27, h28, H⟩ := bd H
   refine ple hE (.cl en176 (slices_Insert__api_Node_api_Node.calls x0_.f4 t10.1 [(⟨x1_.f1, x1_.f2, x1_.f3, x1_.f4, false, true⟩ : T_api_Node)] _ _ _ _ _ _ _ (Own.left (X := [row T_api_Node.k 104 (.slice A0_4 x0_.f4.length c0_4) x0_.f4, row T_api_Node.k 104 (.slice A23 ([(⟨x1_.f1, x1_.f2, x1_.f3, x1_.f4, false, true⟩ : T_api_Node)].length) c24) [(⟨x1_.f1, x1_.f2, x1_.f3, x1_.f4, false, true⟩ : T_api_Node)]]) hS.own) h28)) ?_
   rintro _ u26 a ⟨F29, A30, c31, rfl, hC⟩ hE
   have hs := hC.sub
   replace hS := hS.called (X := [row T_api_Node.k 104 (.slice A0_4 x0_.f4.length c0_4) x0_.f4, row T_api_Node.k 104 (.slice A23 ([(⟨x1_.f1, x1_.f2, x1_.f3, x1_.f4, false, true⟩ : T_api_Node)].length) c24) [(⟨x1_.f1, x1_.f2, x1_.f3, x1_.f4, false, true⟩ : T_api_Node)]]) hC
   replace g0_5 := g0_5.mono hs
   replace g0_6 := g0_6.mono hs
   replace g1_6 := g1_6.mono hs
   refine plc hE (.r 14 1 .nil) (fun a hE => ?_)
   replace hS := hS.front 3 rfl
   refine ple hE (.sto hS [.int .i64 x0_.f0, .int .i64 x0_.f1, .int .i64 x0_.f2, .int .i64 x0_.f3, .slice A30 t27.length c31, .slice A0_5 x0_.f5.length c0_5, .slice A0_6 x0_.f6.length c0_6]) ?_
   rintro _ u34 a ⟨rfl, hb2, hS, hz⟩ hE
   refine pld (hK21 _ _ (wp_seq_k fun K35 hK35 => ?_))
   refine drawn 6 ⟨[4], [], fun q => False⟩ mixed rfl (by kernel_rfl) (fun hst => ?_)
   replace hS := hS.drew
   have hb2 := hS.blk_at (i := 0) rfl
   refine mny 3 hst hE (.bn 0 0 7 hb2 <| .r 1 1 <| .b 2 4 hb2 <| .nil) (fun a hE => ?_)
   obtain ⟨t37, h38, H⟩ := bd H
   refine on1 3 hE (.cl en80 (topo_Check.calls k t27 _ _ _ _ _ (Sub.refl _) (hS.rd_at (i := 1) rfl) h38)) ?_
   rintro _ u36 a ⟨_, rfl, hC⟩ hE
   refine ⟨.of hC.agr, ?_⟩
   replace hS := hS.lent hC
   replace hS := hS.front 2 rfl
   refine on1 4 hE (.sto hS [.int .i64 x0_.f0, .int .i64 x0_.f1, .int .i64 x0_.f2, .int .i64 x0_.f3, .slice A30 t27.length c31, .slice A0_5 x0_.f5.length c0_5, .slice A0_6 x0_.f6.length c0_6]) ?_
   rintro _ u39 a ⟨rfl, hb6, hS, hz⟩ hE
   refine ⟨.d, ?_⟩
   refine mny 0 hst hE (.r 5 1 .nil) (fun a hE => ?_)
   refine dn ?_
   refine hK35 _ _ (wp_ret ?_)
   replace hS := hS.tail
   replace hS := hS.tail
   replace hS := hS.front 1 rfl
   replace hS := hS.tail
   rw [hN] at hS
   obtain rfl := si H
   exact retN hE rfl (of_decide_eq_true rfl) (.cell (by kernel_rfl) (res_blk [.int .i64 x0_.f0, .int .i64 x0_.f1, .int .i64 x0_.f2, .int .i64 x0_.f3, .slice A30 t27.length c31, .slice A0_5 x0_.f5.length c0_5, .slice A0_6 x0_.f6.length c0_6] ag26 sz26 hb6 rfl) (.tmp (by kernel_rfl) .nil)) ⟨_, rfl, _, _, _, _, _, _, _, rfl, hS, g0_5, g0_6⟩

/-! ### windrose/maps.flag: function 180, by hand (hand/flag.txt) -/
set_option maxRecDepth 100000 in
theorem maps_flag.same (b : Bool) {c : Bool} (p : Addr) (W : World) (h : W.cell? p = some (.bool c)) (hc : c = b) : Calls Tryz.prog 180 #[.pointer (some p), .bool b] W fun e w' => ∃ v, e = .returned v ∧ (v = .int .i64 7 ∧ w' = W) := by
  subst hc
  refine enter (n := 13) rfl rfl rfl (Nat.le_of_ble_eq_true rfl) (fun a hE => ?_)
  refine wp_seq_k fun K0 hK0 => ?_
  refine pl0 ?_
  refine plc hE (.r 0 1 .nil) (fun a hE => ?_)
  refine pld ?_
  refine hK0 _ _ ?_
  refine wp_seq_k fun K1 hK1 => ?_
  refine wp_seq_k fun K2 hK2 => ?_
  refine pl0 ?_
  refine plc hE (.r 0 2 <| .c 2 h <| .r 3 2 .nil) (fun a hE => ?_)
  refine pld ?_
  refine hK2 _ _ ?_
  replace hE := hE.et 9 (rfl : c = c)
  refine ct hE ?_
  refine wp_seq_k fun K3 hK3 => ?_
  refine pl0 ?_
  refine plc hE (.r 0 1 .nil) (fun a hE => ?_)
  refine pld ?_
  refine hK3 _ _ ?_
  refine wp_ret (then_ret ?_)
  exact rt1 hE ⟨_, rfl, rfl, rfl⟩
set_option maxRecDepth 100000 in
theorem maps_flag.turn {W0 : World} {N : Nat → Prop} {F0 W F : World} {L : List Asrt} {xs : List T_api_Node} {g n c : Nat} {i : Int} {p : Addr} (hS : St W0 N F0 W F (row T_api_Node.k 104 (.slice (some ⟨g, 0, none⟩) n c) xs :: L)) (yv : T_api_Node) (off : Nat) (h01 : 0 ≤ i ∧ i < (xs.length : Int)) (cs : List Value) (hcs : ∀ (j : Nat) (u : Value), cs[j]? = some u → W.cell? (((⟨g, 0, none⟩ : Addr).add (i.toNat * (T_api_Node.k).sz)).add j) = some u) (cur to : Bool) (cs' : List Value) (hcur : cs[off]? = some (.bool cur)) (hK : (T_api_Node.k).K F yv cs') (hne : ¬ cur = to) (hp : p = ((⟨g, 0, none⟩ : Addr).add (i.toNat * (T_api_Node.k).sz)).add off := by rfl)
    (hk : cs' = cs.take off ++ [.bool to] ++ cs.drop (off + 1) := by rfl) (hl : Nat.beq cs.length (T_api_Node.k).sz = true := by kernel_rfl) (ho : Nat.ble (off + 1) (T_api_Node.k).sz = true := by kernel_rfl) : Calls Tryz.prog 180 #[.pointer (some p), .bool to] W fun e w' => ∃ v, e = .returned v ∧ (v = .int .i64 0 ∧ St W0 N F0 w' F (row T_api_Node.k 104 (.slice (some ⟨g, 0, none⟩) n c) (xs.set i.toNat yv) :: L) ∧ AgrX (fun q => q = g) W w') := by
  subst hp
  subst hk
  have h := hcs off _ hcur
  refine enter (n := 13) rfl rfl rfl (Nat.le_of_ble_eq_true rfl) (fun a hE => ?_)
  refine wp_seq_k fun K0 hK0 => ?_
  refine pl0 ?_
  refine plc hE (.r 0 1 .nil) (fun a hE => ?_)
  refine pld ?_
  refine hK0 _ _ ?_
  refine wp_seq_k fun K1 hK1 => ?_
  refine wp_seq_k fun K2 hK2 => ?_
  refine pl0 ?_
  refine plc hE (.r 0 2 <| .c 2 h <| .r 3 2 .nil) (fun a hE => ?_)
  refine pld ?_
  refine hK2 _ _ ?_
  replace hE := hE.ef 9 hne
  refine cf hE ?_
  refine wp_skip ?_
  refine hK1 _ _ ?_
  refine wp_seq_k fun K3 hK3 => ?_
  refine pl0 ?_
  refine plc hE (.r 0 3 .nil) (fun a hE => ?_)
  refine ple hE (.setx (d := T_api_Node.k) (n := n) (i := i) yv off (ea1 _ _ _) hS h01 cs hcs _ hK ?_) ?_
  · unfold setK
    show (match (Nat.beq [Value.bool to].length 1 && Nat.ble (off + 1) (T_api_Node.k).sz) && (true && Nat.beq cs.length (T_api_Node.k).sz) with
      | true => some (((⟨g, 0, none⟩ : Addr).add (i.toNat * (T_api_Node.k).sz)).add off, cs.take off ++ [.bool to] ++ cs.drop (off + 1))
      | false => none) = some _
    rw [hl, ho]
    rfl
  rintro _ w1 a ⟨rfl, hS, hz, hX⟩ hE
  refine pld ?_
  refine hK3 _ _ ?_
  refine wp_seq_k fun K4 hK4 => ?_
  refine pl0 ?_
  refine plc hE (.r 0 1 .nil) (fun a hE => ?_)
  refine pld ?_
  refine hK4 _ _ ?_
  refine wp_ret ?_
  exact rt1 hE ⟨_, rfl, rfl, hS, hX⟩

/-! ### windrose/maps.node: function 136 -/
mutual
def maps_node.j45 : Nat → T_api_Map → Int → T_api_Delta → Bool → Option (T_api_Map × Int)
  | 0, _, _, _, _ => none
  | k + 1, x0_, x1_, x2_, y44 => if y44 = true then (if ((nth T_api_Node.z x0_.f4 x1_).f4) = (x2_.f0 == 3) then (some (x0_, 7)) else (some ((⟨x0_.f0, x0_.f1, x0_.f2, x0_.f3, (x0_.f4.set (x1_).toNat (⟨(nth T_api_Node.z x0_.f4 x1_).f0, (nth T_api_Node.z x0_.f4 x1_).f1, (nth T_api_Node.z x0_.f4 x1_).f2, (nth T_api_Node.z x0_.f4 x1_).f3, (x2_.f0 == 3), (nth T_api_Node.z x0_.f4 x1_).f5⟩ : T_api_Node)), x0_.f5, x0_.f6⟩ : T_api_Map), 0))) else (if x2_.f0 = 5 then (maps_node.j64 k x0_ x1_ x2_ true) else (maps_node.j64 k x0_ x1_ x2_ (x2_.f0 == 6)))
def maps_node.j64 : Nat → T_api_Map → Int → T_api_Delta → Bool → Option (T_api_Map × Int)
  | 0, _, _, _, _ => none
  | k + 1, x0_, x1_, x2_, y63 => if y63 = true then (if ((nth T_api_Node.z x0_.f4 x1_).f5) = (x2_.f0 == 6) then (some (x0_, 7)) else (some ((⟨x0_.f0, x0_.f1, x0_.f2, x0_.f3, (x0_.f4.set (x1_).toNat (⟨(nth T_api_Node.z x0_.f4 x1_).f0, (nth T_api_Node.z x0_.f4 x1_).f1, (nth T_api_Node.z x0_.f4 x1_).f2, (nth T_api_Node.z x0_.f4 x1_).f3, (nth T_api_Node.z x0_.f4 x1_).f4, (x2_.f0 == 6)⟩ : T_api_Node)), x0_.f5, x0_.f6⟩ : T_api_Map), 0))) else (none)
end
theorem maps_node.j45_s (k : Nat) (x0_ : T_api_Map) (x1_ : Int) (x2_ : T_api_Delta) (y44 : Bool) : maps_node.j45 (k + 1) x0_ x1_ x2_ y44 = (if y44 = true then (if ((nth T_api_Node.z x0_.f4 x1_).f4) = (x2_.f0 == 3) then (some (x0_, 7)) else (some ((⟨x0_.f0, x0_.f1, x0_.f2, x0_.f3, (x0_.f4.set (x1_).toNat (⟨(nth T_api_Node.z x0_.f4 x1_).f0, (nth T_api_Node.z x0_.f4 x1_).f1, (nth T_api_Node.z x0_.f4 x1_).f2, (nth T_api_Node.z x0_.f4 x1_).f3, (x2_.f0 == 3), (nth T_api_Node.z x0_.f4 x1_).f5⟩ : T_api_Node)), x0_.f5, x0_.f6⟩ : T_api_Map), 0))) else (if x2_.f0 = 5 then (maps_node.j64 k x0_ x1_ x2_ true) else (maps_node.j64 k x0_ x1_ x2_ (x2_.f0 == 6)))) := by kernel_rfl
theorem maps_node.j64_s (k : Nat) (x0_ : T_api_Map) (x1_ : Int) (x2_ : T_api_Delta) (y63 : Bool) : maps_node.j64 (k + 1) x0_ x1_ x2_ y63 = (if y63 = true then (if ((nth T_api_Node.z x0_.f4 x1_).f5) = (x2_.f0 == 6) then (some (x0_, 7)) else (some ((⟨x0_.f0, x0_.f1, x0_.f2, x0_.f3, (x0_.f4.set (x1_).toNat (⟨(nth T_api_Node.z x0_.f4 x1_).f0, (nth T_api_Node.z x0_.f4 x1_).f1, (nth T_api_Node.z x0_.f4 x1_).f2, (nth T_api_Node.z x0_.f4 x1_).f3, (nth T_api_Node.z x0_.f4 x1_).f4, (x2_.f0 == 6)⟩ : T_api_Node)), x0_.f5, x0_.f6⟩ : T_api_Map), 0))) else (none)) := by kernel_rfl
def maps_node.f (k : Nat) (x0_ : T_api_Map) (x1_ : Int) (x2_ : T_api_Delta) : Option (T_api_Map × Int) := if 0 ≤ x1_ ∧ x1_ < (x0_.f4.length : Int) then (if x2_.f0 = 2 then ((maps_in.f x2_.f4 0 65536).bind fun t22 => (if t22 = true then (if (nth T_api_Node.z x0_.f4 x1_).f3 = x2_.f4 then (some (x0_, 7)) else (some ((⟨x0_.f0, x0_.f1, x0_.f2, x0_.f3, (x0_.f4.set (x1_).toNat (⟨(nth T_api_Node.z x0_.f4 x1_).f0, (nth T_api_Node.z x0_.f4 x1_).f1, (nth T_api_Node.z x0_.f4 x1_).f2, x2_.f4, (nth T_api_Node.z x0_.f4 x1_).f4, (nth T_api_Node.z x0_.f4 x1_).f5⟩ : T_api_Node)), x0_.f5, x0_.f6⟩ : T_api_Map), 0))) else (some (x0_, 1)))) else (if x2_.f0 = 3 then (maps_node.j45 k x0_ x1_ x2_ true) else (maps_node.j45 k x0_ x1_ x2_ (x2_.f0 == 4)))) else (none)
def maps_node.Post (x0_ : T_api_Map) (x1_ : Int) (x2_ : T_api_Delta) (A0_4 : Option Addr) (c0_4 : Nat) (A0_5 : Option Addr) (c0_5 : Nat) (A0_6 : Option Addr) (c0_6 : Nat) (A2_6 : Option Addr) (c2_6 : Nat) (W F : World) (r : T_api_Map × Int) (v : Value) (w' : World) : Prop := ∃ (F' : World) (RA0_4 : Option Addr) (rc0_4 : Nat) (RA0_5 : Option Addr) (rc0_5 : Nat) (RA0_6 : Option Addr) (rc0_6 : Nat), v = .tuple #[.agg #[.int .i64 r.1.f0, .int .i64 r.1.f1, .int .i64 r.1.f2, .int .i64 r.1.f3, .slice RA0_4 r.1.f4.length rc0_4, .slice RA0_5 r.1.f5.length rc0_5, .slice RA0_6 r.1.f6.length rc0_6], .int .i64 r.2] ∧ St W (mine W [row T_api_Node.k 104 (.slice A0_4 x0_.f4.length c0_4) x0_.f4]) F w' F' [row T_api_Node.k 104 (.slice RA0_4 r.1.f4.length rc0_4) r.1.f4] ∧ Rd T_api_Temp.k F' RA0_5 rc0_5 r.1.f5 ∧ Rd T_api_Trail.k F' RA0_6 rc0_6 r.1.f6
theorem maps_node.calls (k : Nat) (x0_ : T_api_Map) (x1_ : Int) (x2_ : T_api_Delta) (A0_4 : Option Addr) (c0_4 : Nat) (A0_5 : Option Addr) (c0_5 : Nat) (A0_6 : Option Addr) (c0_6 : Nat) (A2_6 : Option Addr) (c2_6 : Nat) (r : T_api_Map × Int) (W F : World) (hown : Own W F [row T_api_Node.k 104 (.slice A0_4 x0_.f4.length c0_4) x0_.f4]) (g0_5 : Rd T_api_Temp.k F A0_5 c0_5 x0_.f5) (g0_6 : Rd T_api_Trail.k F A0_6 c0_6 x0_.f6) (g2_6 : Rd (Kn.int .i64) F A2_6 c2_6 x2_.f6) (H : maps_node.f k x0_ x1_ x2_ = some r) :
    Calls Tryz.prog 136 #[.agg #[.int .i64 x0_.f0, .int .i64 x0_.f1, .int .i64 x0_.f2, .int .i64 x0_.f3, .slice A0_4 x0_.f4.length c0_4, .slice A0_5 x0_.f5.length c0_5, .slice A0_6 x0_.f6.length c0_6], .int .i64 x1_, .agg #[.int .i64 x2_.f0, .int .i64 x2_.f1, .int .i64 x2_.f2, .int .i64 x2_.f3, .int .i64 x2_.f4, .int .i64 x2_.f5, .slice A2_6 x2_.f6.length c2_6]] W fun e w' => ∃ v, e = .returned v ∧ maps_node.Post x0_ x1_ x2_ A0_4 c0_4 A0_5 c0_5 A0_6 c0_6 A2_6 c2_6 W F r v w' := by
 have hS := St.start hown
 obtain ⟨N, hN⟩ : ∃ N, N = mine W [row T_api_Node.k 104 (.slice A0_4 x0_.f4.length c0_4) x0_.f4] := ⟨_, rfl⟩
 rw [← hN] at hS
 unfold maps_node.f at H
 refine enter (n := 98) rfl rfl rfl (Nat.le_of_ble_eq_true rfl) (fun a hE => ?_)
 refine wp_seq_k fun K1 hK1 => pl0 (ple hE (.bx (t := 26) hS [.int .i64 x0_.f0, .int .i64 x0_.f1, .int .i64 x0_.f2, .int .i64 x0_.f3, .slice A0_4 x0_.f4.length c0_4, .slice A0_5 x0_.f5.length c0_5, .slice A0_6 x0_.f6.length c0_6]) ?_)
 rintro _ u3 a ⟨b2, rfl, hb2, hS, hg⟩ hE
 refine ple hE (.bx (t := 40) hS [.int .i64 x2_.f0, .int .i64 x2_.f1, .int .i64 x2_.f2, .int .i64 x2_.f3, .int .i64 x2_.f4, .int .i64 x2_.f5, .slice A2_6 x2_.f6.length c2_6]) ?_
 rintro _ u5 a ⟨b4, rfl, hb4, hS, hg⟩ hE
 refine ple hE (.al (t := 26) hS [.int .i64 0, .int .i64 0, .int .i64 0, .int .i64 0, .slice none 0 0, .slice none 0 0, .slice none 0 0]) ?_
 rintro _ u7 a ⟨b6, rfl, hb6, hS, hg⟩ hE
 refine plc hE (.r 3 1 .nil) (fun a hE => pld (hK1 _ _ (wp_seq_k fun K8 hK8 => pl0 ?_)))
 have hb2 := hS.blk_at (i := 2) rfl
 obtain ⟨c9, H⟩ := gd H
 have hr10 := hS.row_at (i := 3) rfl
 have hE_ := hE
 obtain ⟨b11, rfl⟩ := row_addr hr10 c9.1 c9.2
 replace hE := hE_
 have hr_ := hS.row_at (i := 3) rfl
 obtain ⟨cs13, rfl, hc14⟩ := row_el hr_ T_api_Node.z x1_ c9.1 c9.2
 refine plc hE (.r 0 1 <| .b 1 4 hb2 <| .r 2 1 <| .x 3 c9 <| .r 4 1 <| .nil) (fun a hE => pld (hK8 _ _ (wp_seq_k fun K15 hK15 => wp_seq_k fun K16 hK16 => pl0 ?_)))
 have hb4 := hS.blk_at (i := 1) rfl
 refine plc hE (.r 0 1 <| .b 1 0 hb4 <| .nil) (fun a hE => pld (hK16 _ _ (wp_block (wp_seq_k fun K17 hK17 => pl0 (plc hE (.r 0 2 .nil) (fun a hE => pld (hK17 _ _ ?_)))))))
 rcases sp H with ⟨c18, H⟩ | ⟨c18, H⟩
 ·
  replace hE := hE.kt 16 c18
  refine ct hE (wp_seq_k fun K19 hK19 => wp_seq_k fun K20 hK20 => pl0 (plc hE (.r 0 1 <| .b 1 4 hb4 <| .nil) (fun a hE => ?_)))
  obtain ⟨t22, h23, H⟩ := bd H
  refine ple hE (.cl en70 (maps_in.calls x2_.f4 0 65536 _ _ _ hS.own.sub h23)) ?_
  rintro _ u21 a ⟨_, rfl, hC⟩ hE
  replace hS := hS.lent hC
  refine plc hE (.r 3 1 .nil) (fun a hE => pld (hK20 _ _ ?_))
  rcases sp H with ⟨c24, H⟩ | ⟨c24, H⟩
  ·
   replace hE := hE.btn 21 c24
   refine cf hE (wp_skip (hK19 _ _ (wp_seq_k fun K27 hK27 => wp_seq_k fun K28 hK28 => ?_)))
   refine drawn 7 ⟨[], [], fun q => False⟩ mixed rfl (by kernel_rfl) (fun hst => ?_)
   replace hS := hS.drew
   obtain ⟨cs29, rfl, hc30⟩ := row_el (hS.row_at (i := 3) rfl) T_api_Node.z x1_ c9.1 c9.2
   have hb4 := hS.blk_at (i := 1) rfl
   refine mny 0 hst hE (.r 0 3 <| .c 3 (hc30 3 _ rfl) <| .r 4 1 <| .b 5 4 hb4 <| .r 6 1 <| .nil) (fun a hE => ?_)
   refine dn ?_
   refine hK28 _ _ ?_
   rcases sp H with ⟨c31, H⟩ | ⟨c31, H⟩
   ·
    replace hE := hE.kt 29 c31
    refine ct hE (wp_seq_k fun K32 hK32 => pl0 ?_)
    have hb2 := hS.blk_at (i := 2) rfl
    refine plc hE (.bn 0 0 7 hb2 .nil) (fun a hE => ple hE (.sto hS [.int .i64 x0_.f0, .int .i64 x0_.f1, .int .i64 x0_.f2, .int .i64 x0_.f3, .slice (some ⟨b11, 0, none⟩) x0_.f4.length c0_4, .slice A0_5 x0_.f5.length c0_5, .slice A0_6 x0_.f6.length c0_6]) ?_)
    rintro _ u33 a ⟨rfl, hb6, hS, hz⟩ hE
    refine plc hE (.r 2 1 .nil) (fun a hE => pld (hK32 _ _ (wp_ret (then_ret (block_ret (then_ret ?_))))))
    replace hS := hS.tail
    replace hS := hS.tail
    replace hS := hS.tail
    rw [hN] at hS
    obtain rfl := si H
    exact retN hE rfl (of_decide_eq_true rfl) (.cell (by kernel_rfl) (res_blk [.int .i64 x0_.f0, .int .i64 x0_.f1, .int .i64 x0_.f2, .int .i64 x0_.f3, .slice (some ⟨b11, 0, none⟩) x0_.f4.length c0_4, .slice A0_5 x0_.f5.length c0_5, .slice A0_6 x0_.f6.length c0_6] ag26 sz26 hb6 rfl) (.tmp (by kernel_rfl) .nil)) ⟨_, rfl, _, _, _, _, _, _, _, rfl, hS, g0_5, g0_6⟩
   ·
    replace hE := hE.kf 29 c31
    refine cf hE (wp_skip (hK27 _ _ (wp_seq_k fun K34 hK34 => pl0 (plc hE (.r 0 2 <| .b 2 4 hb4 <| .r 3 2 <| .nil) (fun a hE => ?_)))))
    replace hS := hS.front 3 rfl
    obtain ⟨cs36, rfl, hc37⟩ := row_el (hS.row_at (i := 0) rfl) T_api_Node.z x1_ c9.1 c9.2
    refine ple hE (.set (d := T_api_Node.k) (n := x0_.f4.length) (i := x1_) (⟨(nth T_api_Node.z x0_.f4 x1_).f0, (nth T_api_Node.z x0_.f4 x1_).f1, (nth T_api_Node.z x0_.f4 x1_).f2, x2_.f4, (nth T_api_Node.z x0_.f4 x1_).f4, (nth T_api_Node.z x0_.f4 x1_).f5⟩ : T_api_Node) 3 (ea1 _ _ _) hS c9 [.int .i64 ((nth T_api_Node.z x0_.f4 x1_).f0), .int .i64 ((nth T_api_Node.z x0_.f4 x1_).f1), .int .i64 ((nth T_api_Node.z x0_.f4 x1_).f2), .int .i64 ((nth T_api_Node.z x0_.f4 x1_).f3), .bool ((nth T_api_Node.z x0_.f4 x1_).f4), .bool ((nth T_api_Node.z x0_.f4 x1_).f5)] hc37 [.int .i64 ((nth T_api_Node.z x0_.f4 x1_).f0), .int .i64 ((nth T_api_Node.z x0_.f4 x1_).f1), .int .i64 ((nth T_api_Node.z x0_.f4 x1_).f2), .int .i64 x2_.f4, .bool ((nth T_api_Node.z x0_.f4 x1_).f4), .bool ((nth T_api_Node.z x0_.f4 x1_).f5)] rfl) ?_
    rintro _ u35 a ⟨rfl, hS, hz⟩ hE
    refine pld (hK34 _ _ (wp_seq_k fun K38 hK38 => pl0 ?_))
    have hb2 := hS.blk_at (i := 3) rfl
    refine plc hE (.bn 0 0 7 hb2 .nil) (fun a hE => ?_)
    replace hS := hS.front 1 rfl
    refine ple hE (.sto hS [.int .i64 x0_.f0, .int .i64 x0_.f1, .int .i64 x0_.f2, .int .i64 x0_.f3, .slice (some ⟨b11, 0, none⟩) x0_.f4.length c0_4, .slice A0_5 x0_.f5.length c0_5, .slice A0_6 x0_.f6.length c0_6]) ?_
    rintro _ u39 a ⟨rfl, hb6, hS, hz⟩ hE
    refine plc hE (.r 2 1 .nil) (fun a hE => pld (hK38 _ _ (wp_ret (block_ret (then_ret ?_)))))
    have hn40 := (row_form (hS.row_at (i := 1) rfl)).1
    replace hS : St W N F u39 F [box b6 #[.int .i64 x0_.f0, .int .i64 x0_.f1, .int .i64 x0_.f2, .int .i64 x0_.f3, .slice (some ⟨b11, 0, none⟩) ((x0_.f4.set (x1_).toNat (⟨(nth T_api_Node.z x0_.f4 x1_).f0, (nth T_api_Node.z x0_.f4 x1_).f1, (nth T_api_Node.z x0_.f4 x1_).f2, x2_.f4, (nth T_api_Node.z x0_.f4 x1_).f4, (nth T_api_Node.z x0_.f4 x1_).f5⟩ : T_api_Node)).length) c0_4, .slice A0_5 x0_.f5.length c0_5, .slice A0_6 x0_.f6.length c0_6] 26, row T_api_Node.k 104 (.slice (some ⟨b11, 0, none⟩) ((x0_.f4.set (x1_).toNat (⟨(nth T_api_Node.z x0_.f4 x1_).f0, (nth T_api_Node.z x0_.f4 x1_).f1, (nth T_api_Node.z x0_.f4 x1_).f2, x2_.f4, (nth T_api_Node.z x0_.f4 x1_).f4, (nth T_api_Node.z x0_.f4 x1_).f5⟩ : T_api_Node)).length) c0_4) (x0_.f4.set (x1_).toNat (⟨(nth T_api_Node.z x0_.f4 x1_).f0, (nth T_api_Node.z x0_.f4 x1_).f1, (nth T_api_Node.z x0_.f4 x1_).f2, x2_.f4, (nth T_api_Node.z x0_.f4 x1_).f4, (nth T_api_Node.z x0_.f4 x1_).f5⟩ : T_api_Node)), box b4 #[.int .i64 x2_.f0, .int .i64 x2_.f1, .int .i64 x2_.f2, .int .i64 x2_.f3, .int .i64 x2_.f4, .int .i64 x2_.f5, .slice A2_6 x2_.f6.length c2_6] 40, box b2 #[.int .i64 x0_.f0, .int .i64 x0_.f1, .int .i64 x0_.f2, .int .i64 x0_.f3, .slice (some ⟨b11, 0, none⟩) ((x0_.f4.set (x1_).toNat (⟨(nth T_api_Node.z x0_.f4 x1_).f0, (nth T_api_Node.z x0_.f4 x1_).f1, (nth T_api_Node.z x0_.f4 x1_).f2, x2_.f4, (nth T_api_Node.z x0_.f4 x1_).f4, (nth T_api_Node.z x0_.f4 x1_).f5⟩ : T_api_Node)).length) c0_4, .slice A0_5 x0_.f5.length c0_5, .slice A0_6 x0_.f6.length c0_6] 26] := by rw [← hn40]; exact hS
    have hb6 := hS.blk_at (i := 0) rfl
    replace hS := hS.tail
    replace hS := hS.front 1 rfl
    replace hS := hS.tail
    replace hS := hS.front 1 rfl
    replace hS := hS.tail
    rw [hN] at hS
    obtain rfl := si H
    exact retN hE rfl (of_decide_eq_true rfl) (.cell (by kernel_rfl) (res_blk [.int .i64 x0_.f0, .int .i64 x0_.f1, .int .i64 x0_.f2, .int .i64 x0_.f3, .slice (some ⟨b11, 0, none⟩) ((x0_.f4.set (x1_).toNat (⟨(nth T_api_Node.z x0_.f4 x1_).f0, (nth T_api_Node.z x0_.f4 x1_).f1, (nth T_api_Node.z x0_.f4 x1_).f2, x2_.f4, (nth T_api_Node.z x0_.f4 x1_).f4, (nth T_api_Node.z x0_.f4 x1_).f5⟩ : T_api_Node)).length) c0_4, .slice A0_5 x0_.f5.length c0_5, .slice A0_6 x0_.f6.length c0_6] ag26 sz26 hb6 rfl) (.tmp (by kernel_rfl) .nil)) ⟨_, rfl, _, _, _, _, _, _, _, rfl, hS, g0_5, g0_6⟩
  ·
   replace hE := hE.bfn 21 c24
   refine ct hE (wp_seq_k fun K25 hK25 => pl0 ?_)
   have hb2 := hS.blk_at (i := 2) rfl
   refine plc hE (.bn 0 0 7 hb2 .nil) (fun a hE => ple hE (.sto hS [.int .i64 x0_.f0, .int .i64 x0_.f1, .int .i64 x0_.f2, .int .i64 x0_.f3, .slice (some ⟨b11, 0, none⟩) x0_.f4.length c0_4, .slice A0_5 x0_.f5.length c0_5, .slice A0_6 x0_.f6.length c0_6]) ?_)
   rintro _ u26 a ⟨rfl, hb6, hS, hz⟩ hE
   refine plc hE (.r 2 1 .nil) (fun a hE => pld (hK25 _ _ (wp_ret (then_ret (block_ret (then_ret ?_))))))
   replace hS := hS.tail
   replace hS := hS.tail
   replace hS := hS.tail
   rw [hN] at hS
   obtain rfl := si H
   exact retN hE rfl (of_decide_eq_true rfl) (.cell (by kernel_rfl) (res_blk [.int .i64 x0_.f0, .int .i64 x0_.f1, .int .i64 x0_.f2, .int .i64 x0_.f3, .slice (some ⟨b11, 0, none⟩) x0_.f4.length c0_4, .slice A0_5 x0_.f5.length c0_5, .slice A0_6 x0_.f6.length c0_6] ag26 sz26 hb6 rfl) (.tmp (by kernel_rfl) .nil)) ⟨_, rfl, _, _, _, _, _, _, _, rfl, hS, g0_5, g0_6⟩
 ·
  replace hE := hE.kf 16 c18
  refine cf hE (wp_seq_k fun K41 hK41 => ?_)
  have J48 : ∀ kq46, kq46 ≤ k → ∀ (G : Nat → Value) (y44 : Bool) (a : Act) (w' : World), Env 98 G a → At G [(1, .int .i64 x1_), (3, .pointer (some ⟨b2, 0, none⟩)), (5, .pointer (some ⟨b4, 0, none⟩)), (6, .pointer (some ⟨b6, 0, none⟩)), (8, .pointer (some ((⟨b11, 0, none⟩ : Addr).add (x1_.toNat * 6)))), (15, .int .i64 x2_.f0), (37, .bool y44)] → St W N F w' F [box b6 #[.int .i64 0, .int .i64 0, .int .i64 0, .int .i64 0, .slice none 0 0, .slice none 0 0, .slice none 0 0] 26, box b4 #[.int .i64 x2_.f0, .int .i64 x2_.f1, .int .i64 x2_.f2, .int .i64 x2_.f3, .int .i64 x2_.f4, .int .i64 x2_.f5, .slice A2_6 x2_.f6.length c2_6] 40, box b2 #[.int .i64 x0_.f0, .int .i64 x0_.f1, .int .i64 x0_.f2, .int .i64 x0_.f3, .slice (some ⟨b11, 0, none⟩) x0_.f4.length c0_4, .slice A0_5 x0_.f5.length c0_5, .slice A0_6 x0_.f6.length c0_6] 26, row T_api_Node.k 104 (.slice (some ⟨b11, 0, none⟩) x0_.f4.length c0_4) x0_.f4] → maps_node.j45 kq46 x0_ x1_ x2_ y44 = some r → K41 a w' := by
   intro kq46 hkq G y44 a u49 hE hA hS H
   cases kq46 with
   | zero => cases (show none = some r from H)
   | succ k47 =>
    rw [maps_node.j45_s] at H
    obtain ⟨J, hE⟩ := hE.at hA
    refine hK41 _ _ ?_
    rcases sp H with ⟨c50, H⟩ | ⟨c50, H⟩
    ·
     replace hE := hE.bt 37 c50
     refine ct hE (wp_seq_k fun K51 hK51 => ?_)
     refine drawn 10 ⟨[7, 8], [7], fun q => q = b11⟩ mixed rfl (by kernel_rfl) (fun hst => ?_)
     replace hS := hS.drew
     have ne52 : ¬ (b2 = b11) := by intro h; exact hS.ne_row (i := 2) (j := 3) rfl rfl (by decide) h
     have hb2 := hS.blk_at (i := 2) rfl
     have hb4 := hS.blk_at (i := 1) rfl
     refine mny 3 hst hE (.bnX 0 0 7 hb2 ne52 <| .r 1 4 <| .b 5 0 hb4 <| .r 6 1 <| .nil) (fun a hE => ?_)
     replace hS := hS.front 3 rfl
     obtain ⟨cs53, rfl, hc54⟩ := row_el (hS.row_at (i := 0) rfl) T_api_Node.z x1_ c9.1 c9.2
     rcases sp H with ⟨c56, H⟩ | ⟨c56, H⟩
     ·
      refine on1 7 hE (.cl en180 (maps_flag.same (x2_.f0 == 3) _ _ (hc54 4 _ rfl) c56)) ?_
      rintro _ _ a ⟨rfl, rfl⟩ hE
      refine ⟨.of (Agr.refl _), ?_⟩
      replace hS := hS.front 1 rfl
      refine on1 8 hE (.sto hS [.int .i64 x0_.f0, .int .i64 x0_.f1, .int .i64 x0_.f2, .int .i64 x0_.f3, .slice (some ⟨b11, 0, none⟩) x0_.f4.length c0_4, .slice A0_5 x0_.f5.length c0_5, .slice A0_6 x0_.f6.length c0_6]) ?_
      rintro _ u57 a ⟨rfl, hb6, hS, hz⟩ hE
      refine ⟨.d, ?_⟩
      refine mny 0 hst hE (.r 9 1 .nil) (fun a hE => ?_)
      refine dn ?_
      refine hK51 _ _ (wp_ret (block_ret (then_ret ?_)))
      replace hS := hS.tail
      replace hS := hS.front 1 rfl
      replace hS := hS.tail
      replace hS := hS.front 1 rfl
      replace hS := hS.tail
      rw [hN] at hS
      obtain rfl := si H
      exact retN hE rfl (of_decide_eq_true rfl) (.cell (by kernel_rfl) (res_blk [.int .i64 x0_.f0, .int .i64 x0_.f1, .int .i64 x0_.f2, .int .i64 x0_.f3, .slice (some ⟨b11, 0, none⟩) x0_.f4.length c0_4, .slice A0_5 x0_.f5.length c0_5, .slice A0_6 x0_.f6.length c0_6] ag26 sz26 hb6 rfl) (.tmp (by kernel_rfl) .nil)) ⟨_, rfl, _, _, _, _, _, _, _, rfl, hS, g0_5, g0_6⟩
     ·
      refine on1 7 hE (.cl en180 (maps_flag.turn (n := x0_.f4.length) (i := x1_) hS (⟨(nth T_api_Node.z x0_.f4 x1_).f0, (nth T_api_Node.z x0_.f4 x1_).f1, (nth T_api_Node.z x0_.f4 x1_).f2, (nth T_api_Node.z x0_.f4 x1_).f3, (x2_.f0 == 3), (nth T_api_Node.z x0_.f4 x1_).f5⟩ : T_api_Node) 4 c9 [.int .i64 ((nth T_api_Node.z x0_.f4 x1_).f0), .int .i64 ((nth T_api_Node.z x0_.f4 x1_).f1), .int .i64 ((nth T_api_Node.z x0_.f4 x1_).f2), .int .i64 ((nth T_api_Node.z x0_.f4 x1_).f3), .bool ((nth T_api_Node.z x0_.f4 x1_).f4), .bool ((nth T_api_Node.z x0_.f4 x1_).f5)] hc54 ((nth T_api_Node.z x0_.f4 x1_).f4) (x2_.f0 == 3) [.int .i64 ((nth T_api_Node.z x0_.f4 x1_).f0), .int .i64 ((nth T_api_Node.z x0_.f4 x1_).f1), .int .i64 ((nth T_api_Node.z x0_.f4 x1_).f2), .int .i64 ((nth T_api_Node.z x0_.f4 x1_).f3), .bool (x2_.f0 == 3), .bool ((nth T_api_Node.z x0_.f4 x1_).f5)] rfl rfl c56)) ?_
      rintro _ u55 a ⟨rfl, hS, hX⟩ hE
      refine ⟨.c hX, ?_⟩
      replace hS := hS.front 1 rfl
      refine on1 8 hE (.sto hS [.int .i64 x0_.f0, .int .i64 x0_.f1, .int .i64 x0_.f2, .int .i64 x0_.f3, .slice (some ⟨b11, 0, none⟩) x0_.f4.length c0_4, .slice A0_5 x0_.f5.length c0_5, .slice A0_6 x0_.f6.length c0_6]) ?_
      rintro _ u58 a ⟨rfl, hb6, hS, hz⟩ hE
      refine ⟨.d, ?_⟩
      refine mny 0 hst hE (.r 9 1 .nil) (fun a hE => ?_)
      refine dn ?_
      refine hK51 _ _ (wp_ret (block_ret (then_ret ?_)))
      have hn59 := (row_form (hS.row_at (i := 1) rfl)).1
      replace hS : St W N F u58 F [box b6 #[.int .i64 x0_.f0, .int .i64 x0_.f1, .int .i64 x0_.f2, .int .i64 x0_.f3, .slice (some ⟨b11, 0, none⟩) ((x0_.f4.set (x1_).toNat (⟨(nth T_api_Node.z x0_.f4 x1_).f0, (nth T_api_Node.z x0_.f4 x1_).f1, (nth T_api_Node.z x0_.f4 x1_).f2, (nth T_api_Node.z x0_.f4 x1_).f3, (x2_.f0 == 3), (nth T_api_Node.z x0_.f4 x1_).f5⟩ : T_api_Node)).length) c0_4, .slice A0_5 x0_.f5.length c0_5, .slice A0_6 x0_.f6.length c0_6] 26, row T_api_Node.k 104 (.slice (some ⟨b11, 0, none⟩) ((x0_.f4.set (x1_).toNat (⟨(nth T_api_Node.z x0_.f4 x1_).f0, (nth T_api_Node.z x0_.f4 x1_).f1, (nth T_api_Node.z x0_.f4 x1_).f2, (nth T_api_Node.z x0_.f4 x1_).f3, (x2_.f0 == 3), (nth T_api_Node.z x0_.f4 x1_).f5⟩ : T_api_Node)).length) c0_4) (x0_.f4.set (x1_).toNat (⟨(nth T_api_Node.z x0_.f4 x1_).f0, (nth T_api_Node.z x0_.f4 x1_).f1, (nth T_api_Node.z x0_.f4 x1_).f2, (nth T_api_Node.z x0_.f4 x1_).f3, (x2_.f0 == 3), (nth T_api_Node.z x0_.f4 x1_).f5⟩ : T_api_Node)), box b4 #[.int .i64 x2_.f0, .int .i64 x2_.f1, .int .i64 x2_.f2, .int .i64 x2_.f3, .int .i64 x2_.f4, .int .i64 x2_.f5, .slice A2_6 x2_.f6.length c2_6] 40, box b2 #[.int .i64 x0_.f0, .int .i64 x0_.f1, .int .i64 x0_.f2, .int .i64 x0_.f3, .slice (some ⟨b11, 0, none⟩) ((x0_.f4.set (x1_).toNat (⟨(nth T_api_Node.z x0_.f4 x1_).f0, (nth T_api_Node.z x0_.f4 x1_).f1, (nth T_api_Node.z x0_.f4 x1_).f2, (nth T_api_Node.z x0_.f4 x1_).f3, (x2_.f0 == 3), (nth T_api_Node.z x0_.f4 x1_).f5⟩ : T_api_Node)).length) c0_4, .slice A0_5 x0_.f5.length c0_5, .slice A0_6 x0_.f6.length c0_6] 26] := by rw [← hn59]; exact hS
      have hb6 := hS.blk_at (i := 0) rfl
      replace hS := hS.tail
      replace hS := hS.front 1 rfl
      replace hS := hS.tail
      replace hS := hS.front 1 rfl
      replace hS := hS.tail
      rw [hN] at hS
      obtain rfl := si H
      exact retN hE rfl (of_decide_eq_true rfl) (.cell (by kernel_rfl) (res_blk [.int .i64 x0_.f0, .int .i64 x0_.f1, .int .i64 x0_.f2, .int .i64 x0_.f3, .slice (some ⟨b11, 0, none⟩) ((x0_.f4.set (x1_).toNat (⟨(nth T_api_Node.z x0_.f4 x1_).f0, (nth T_api_Node.z x0_.f4 x1_).f1, (nth T_api_Node.z x0_.f4 x1_).f2, (nth T_api_Node.z x0_.f4 x1_).f3, (x2_.f0 == 3), (nth T_api_Node.z x0_.f4 x1_).f5⟩ : T_api_Node)).length) c0_4, .slice A0_5 x0_.f5.length c0_5, .slice A0_6 x0_.f6.length c0_6] ag26 sz26 hb6 rfl) (.tmp (by kernel_rfl) .nil)) ⟨_, rfl, _, _, _, _, _, _, _, rfl, hS, g0_5, g0_6⟩
    ·
     replace hE := hE.bf 37 c50
     refine cf hE (wp_seq_k fun K60 hK60 => ?_)
     have J67 : ∀ kq65, kq65 ≤ k47 → ∀ (G : Nat → Value) (y63 : Bool) (a : Act) (w' : World), Env 98 G a → At G [(1, .int .i64 x1_), (3, .pointer (some ⟨b2, 0, none⟩)), (5, .pointer (some ⟨b4, 0, none⟩)), (6, .pointer (some ⟨b6, 0, none⟩)), (8, .pointer (some ((⟨b11, 0, none⟩ : Addr).add (x1_.toNat * 6)))), (48, .bool y63)] → St W N F w' F [box b6 #[.int .i64 0, .int .i64 0, .int .i64 0, .int .i64 0, .slice none 0 0, .slice none 0 0, .slice none 0 0] 26, box b4 #[.int .i64 x2_.f0, .int .i64 x2_.f1, .int .i64 x2_.f2, .int .i64 x2_.f3, .int .i64 x2_.f4, .int .i64 x2_.f5, .slice A2_6 x2_.f6.length c2_6] 40, box b2 #[.int .i64 x0_.f0, .int .i64 x0_.f1, .int .i64 x0_.f2, .int .i64 x0_.f3, .slice (some ⟨b11, 0, none⟩) x0_.f4.length c0_4, .slice A0_5 x0_.f5.length c0_5, .slice A0_6 x0_.f6.length c0_6] 26, row T_api_Node.k 104 (.slice (some ⟨b11, 0, none⟩) x0_.f4.length c0_4) x0_.f4] → maps_node.j64 kq65 x0_ x1_ x2_ y63 = some r → K60 a w' := by
      intro kq65 hkq G y63 a u68 hE hA hS H
      cases kq65 with
      | zero => cases (show none = some r from H)
      | succ k66 =>
       rw [maps_node.j64_s] at H
       obtain ⟨J, hE⟩ := hE.at hA
       refine hK60 _ _ ?_
       rcases sp H with ⟨c69, H⟩ | ⟨c69, H⟩
       ·
        replace hE := hE.bt 48 c69
        refine ct hE (wp_seq_k fun K70 hK70 => ?_)
        refine drawn 10 ⟨[7, 8], [7], fun q => q = b11⟩ mixed rfl (by kernel_rfl) (fun hst => ?_)
        replace hS := hS.drew
        have ne71 : ¬ (b2 = b11) := by intro h; exact hS.ne_row (i := 2) (j := 3) rfl rfl (by decide) h
        have hb2 := hS.blk_at (i := 2) rfl
        have hb4 := hS.blk_at (i := 1) rfl
        refine mny 3 hst hE (.bnX 0 0 7 hb2 ne71 <| .r 1 4 <| .b 5 0 hb4 <| .r 6 1 <| .nil) (fun a hE => ?_)
        replace hS := hS.front 3 rfl
        obtain ⟨cs72, rfl, hc73⟩ := row_el (hS.row_at (i := 0) rfl) T_api_Node.z x1_ c9.1 c9.2
        rcases sp H with ⟨c75, H⟩ | ⟨c75, H⟩
        ·
         refine on1 7 hE (.cl en180 (maps_flag.same (x2_.f0 == 6) _ _ (hc73 5 _ rfl) c75)) ?_
         rintro _ _ a ⟨rfl, rfl⟩ hE
         refine ⟨.of (Agr.refl _), ?_⟩
         replace hS := hS.front 1 rfl
         refine on1 8 hE (.sto hS [.int .i64 x0_.f0, .int .i64 x0_.f1, .int .i64 x0_.f2, .int .i64 x0_.f3, .slice (some ⟨b11, 0, none⟩) x0_.f4.length c0_4, .slice A0_5 x0_.f5.length c0_5, .slice A0_6 x0_.f6.length c0_6]) ?_
         rintro _ u76 a ⟨rfl, hb6, hS, hz⟩ hE
         refine ⟨.d, ?_⟩
         refine mny 0 hst hE (.r 9 1 .nil) (fun a hE => ?_)
         refine dn ?_
         refine hK70 _ _ (wp_ret (block_ret (then_ret ?_)))
         replace hS := hS.tail
         replace hS := hS.front 1 rfl
         replace hS := hS.tail
         replace hS := hS.front 1 rfl
         replace hS := hS.tail
         rw [hN] at hS
         obtain rfl := si H
         exact retN hE rfl (of_decide_eq_true rfl) (.cell (by kernel_rfl) (res_blk [.int .i64 x0_.f0, .int .i64 x0_.f1, .int .i64 x0_.f2, .int .i64 x0_.f3, .slice (some ⟨b11, 0, none⟩) x0_.f4.length c0_4, .slice A0_5 x0_.f5.length c0_5, .slice A0_6 x0_.f6.length c0_6] ag26 sz26 hb6 rfl) (.tmp (by kernel_rfl) .nil)) ⟨_, rfl, _, _, _, _, _, _, _, rfl, hS, g0_5, g0_6⟩
        ·
         refine on1 7 hE (.cl en180 (maps_flag.turn (n := x0_.f4.length) (i := x1_) hS (⟨(nth T_api_Node.z x0_.f4 x1_).f0, (nth T_api_Node.z x0_.f4 x1_).f1, (nth T_api_Node.z x0_.f4 x1_).f2, (nth T_api_Node.z x0_.f4 x1_).f3, (nth T_api_Node.z x0_.f4 x1_).f4, (x2_.f0 == 6)⟩ : T_api_Node) 5 c9 [.int .i64 ((nth T_api_Node.z x0_.f4 x1_).f0), .int .i64 ((nth T_api_Node.z x0_.f4 x1_).f1), .int .i64 ((nth T_api_Node.z x0_.f4 x1_).f2), .int .i64 ((nth T_api_Node.z x0_.f4 x1_).f3), .bool ((nth T_api_Node.z x0_.f4 x1_).f4), .bool ((nth T_api_Node.z x0_.f4 x1_).f5)] hc73 ((nth T_api_Node.z x0_.f4 x1_).f5) (x2_.f0 == 6) [.int .i64 ((nth T_api_Node.z x0_.f4 x1_).f0), .int .i64 ((nth T_api_Node.z x0_.f4 x1_).f1), .int .i64 ((nth T_api_Node.z x0_.f4 x1_).f2), .int .i64 ((nth T_api_Node.z x0_.f4 x1_).f3), .bool ((nth T_api_Node.z x0_.f4 x1_).f4), .bool (x2_.f0 == 6)] rfl rfl c75)) ?_
         rintro _ u74 a ⟨rfl, hS, hX⟩ hE
         refine ⟨.c hX, ?_⟩
         replace hS := hS.front 1 rfl
         refine on1 8 hE (.sto hS [.int .i64 x0_.f0, .int .i64 x0_.f1, .int .i64 x0_.f2, .int .i64 x0_.f3, .slice (some ⟨b11, 0, none⟩) x0_.f4.length c0_4, .slice A0_5 x0_.f5.length c0_5, .slice A0_6 x0_.f6.length c0_6]) ?_
         rintro _ u77 a ⟨rfl, hb6, hS, hz⟩ hE
         refine ⟨.d, ?_⟩
         refine mny 0 hst hE (.r 9 1 .nil) (fun a hE => ?_)
         refine dn ?_
         refine hK70 _ _ (wp_ret (block_ret (then_ret ?_)))
         have hn78 := (row_form (hS.row_at (i := 1) rfl)).1
         replace hS : St W N F u77 F [box b6 #[.int .i64 x0_.f0, .int .i64 x0_.f1, .int .i64 x0_.f2, .int .i64 x0_.f3, .slice (some ⟨b11, 0, none⟩) ((x0_.f4.set (x1_).toNat (⟨(nth T_api_Node.z x0_.f4 x1_).f0, (nth T_api_Node.z x0_.f4 x1_).f1, (nth T_api_Node.z x0_.f4 x1_).f2, (nth T_api_Node.z x0_.f4 x1_).f3, (nth T_api_Node.z x0_.f4 x1_).f4, (x2_.f0 == 6)⟩ : T_api_Node)).length) c0_4, .slice A0_5 x0_.f5.length c0_5, .slice A0_6 x0_.f6.length c0_6] 26, row T_api_Node.k 104 (.slice (some ⟨b11, 0, none⟩) ((x0_.f4.set (x1_).toNat (⟨(nth T_api_Node.z x0_.f4 x1_).f0, (nth T_api_Node.z x0_.f4 x1_).f1, (nth T_api_Node.z x0_.f4 x1_).f2, (nth T_api_Node.z x0_.f4 x1_).f3, (nth T_api_Node.z x0_.f4 x1_).f4, (x2_.f0 == 6)⟩ : T_api_Node)).length) c0_4) (x0_.f4.set (x1_).toNat (⟨(nth T_api_Node.z x0_.f4 x1_).f0, (nth T_api_Node.z x0_.f4 x1_).f1, (nth T_api_Node.z x0_.f4 x1_).f2, (nth T_api_Node.z x0_.f4 x1_).f3, (nth T_api_Node.z x0_.f4 x1_).f4, (x2_.f0 == 6)⟩ : T_api_Node)), box b4 #[.int .i64 x2_.f0, .int .i64 x2_.f1, .int .i64 x2_.f2, .int .i64 x2_.f3, .int .i64 x2_.f4, .int .i64 x2_.f5, .slice A2_6 x2_.f6.length c2_6] 40, box b2 #[.int .i64 x0_.f0, .int .i64 x0_.f1, .int .i64 x0_.f2, .int .i64 x0_.f3, .slice (some ⟨b11, 0, none⟩) ((x0_.f4.set (x1_).toNat (⟨(nth T_api_Node.z x0_.f4 x1_).f0, (nth T_api_Node.z x0_.f4 x1_).f1, (nth T_api_Node.z x0_.f4 x1_).f2, (nth T_api_Node.z x0_.f4 x1_).f3, (nth T_api_Node.z x0_.f4 x1_).f4, (x2_.f0 == 6)⟩ : T_api_Node)).length) c0_4, .slice A0_5 x0_.f5.length c0_5, .slice A0_6 x0_.f6.length c0_6] 26] := by rw [← hn78]; exact hS
         have hb6 := hS.blk_at (i := 0) rfl
         replace hS := hS.tail
         replace hS := hS.front 1 rfl
         replace hS := hS.tail
         replace hS := hS.front 1 rfl
         replace hS := hS.tail
         rw [hN] at hS
         obtain rfl := si H
         exact retN hE rfl (of_decide_eq_true rfl) (.cell (by kernel_rfl) (res_blk [.int .i64 x0_.f0, .int .i64 x0_.f1, .int .i64 x0_.f2, .int .i64 x0_.f3, .slice (some ⟨b11, 0, none⟩) ((x0_.f4.set (x1_).toNat (⟨(nth T_api_Node.z x0_.f4 x1_).f0, (nth T_api_Node.z x0_.f4 x1_).f1, (nth T_api_Node.z x0_.f4 x1_).f2, (nth T_api_Node.z x0_.f4 x1_).f3, (nth T_api_Node.z x0_.f4 x1_).f4, (x2_.f0 == 6)⟩ : T_api_Node)).length) c0_4, .slice A0_5 x0_.f5.length c0_5, .slice A0_6 x0_.f6.length c0_6] ag26 sz26 hb6 rfl) (.tmp (by kernel_rfl) .nil)) ⟨_, rfl, _, _, _, _, _, _, _, rfl, hS, g0_5, g0_6⟩
       ·
        replace hE := hE.bf 48 c69
        refine cf hE (wp_skip ?_)
        refine block_n ?_
        refine hK15 _ _ (wp_seq_k fun K79 hK79 => pl0 ?_)
        have hb2 := hS.blk_at (i := 2) rfl
        refine plc hE (.r 0 1 <| .b 1 5 hb2 <| .r 2 1 <| .nil) (fun a hE => ?_)
        cases (show none = some r from H)
     refine wp_seq_k fun K61 hK61 => pl0 (plc hE (.r 0 2 .nil) (fun a hE => pld (hK61 _ _ ?_)))
     rcases sp H with ⟨c62, H⟩ | ⟨c62, H⟩
     ·
      replace hE := hE.kt 48 c62
      refine ct hE (wp_skip ?_)
      exact J67 _ (by omega) _ true _ _ hE .of hS H
     ·
      replace hE := hE.kf 48 c62
      refine cf hE (pl0 (plc hE (.r 0 2 .nil) (fun a hE => pld ?_)))
      exact J67 _ (by omega) _ (x2_.f0 == 6) _ _ hE .of hS H
  refine wp_seq_k fun K42 hK42 => pl0 (plc hE (.r 0 2 .nil) (fun a hE => pld (hK42 _ _ ?_)))
  rcases sp H with ⟨c43, H⟩ | ⟨c43, H⟩
  ·
   replace hE := hE.kt 37 c43
   refine ct hE (wp_skip ?_)
   exact J48 _ (by omega) _ true _ _ hE .of hS H
  ·
   replace hE := hE.kf 37 c43
   refine cf hE (pl0 (plc hE (.r 0 2 .nil) (fun a hE => pld ?_)))
   exact J48 _ (by omega) _ (x2_.f0 == 4) _ _ hE .of hS H

/-! ### windrose/maps.turned: function 78 -/
def maps_turned.f (k : Nat) (x0_ : T_api_Map) (x1_ : T_api_Delta) : Option (T_api_Map × Int) := if x1_.f0 = 1 then ((maps_add.f k x0_ x1_).bind fun t14 => (some (t14.1, t14.2))) else (if x1_.f0 = 8 then (none) else (if x1_.f0 = 9 then (some (x0_, 0)) else (if x1_.f0 = 10 then (none) else ((maps_at.f k x0_ x1_.f1).bind fun t40 => (if t40.2 = true then ((maps_node.f k x0_ t40.1 x1_).bind fun t49 => (some (t49.1, t49.2))) else (some (x0_, 5)))))))
def maps_turned.Post (x0_ : T_api_Map) (x1_ : T_api_Delta) (A0_4 : Option Addr) (c0_4 : Nat) (A0_5 : Option Addr) (c0_5 : Nat) (A0_6 : Option Addr) (c0_6 : Nat) (A1_6 : Option Addr) (c1_6 : Nat) (W F : World) (r : T_api_Map × Int) (v : Value) (w' : World) : Prop := ∃ (F' : World) (RA0_4 : Option Addr) (rc0_4 : Nat) (RA0_5 : Option Addr) (rc0_5 : Nat) (RA0_6 : Option Addr) (rc0_6 : Nat), v = .tuple #[.agg #[.int .i64 r.1.f0, .int .i64 r.1.f1, .int .i64 r.1.f2, .int .i64 r.1.f3, .slice RA0_4 r.1.f4.length rc0_4, .slice RA0_5 r.1.f5.length rc0_5, .slice RA0_6 r.1.f6.length rc0_6], .int .i64 r.2] ∧ St W (mine W [row T_api_Node.k 104 (.slice A0_4 x0_.f4.length c0_4) x0_.f4]) F w' F' [row T_api_Node.k 104 (.slice RA0_4 r.1.f4.length rc0_4) r.1.f4] ∧ Rd T_api_Temp.k F' RA0_5 rc0_5 r.1.f5 ∧ Rd T_api_Trail.k F' RA0_6 rc0_6 r.1.f6
theorem maps_turned.calls (k : Nat) (x0_ : T_api_Map) (x1_ : T_api_Delta) (A0_4 : Option Addr) (c0_4 : Nat) (A0_5 : Option Addr) (c0_5 : Nat) (A0_6 : Option Addr) (c0_6 : Nat) (A1_6 : Option Addr) (c1_6 : Nat) (r : T_api_Map × Int) (W F : World) (hown : Own W F [row T_api_Node.k 104 (.slice A0_4 x0_.f4.length c0_4) x0_.f4]) (g0_5 : Rd T_api_Temp.k F A0_5 c0_5 x0_.f5) (g0_6 : Rd T_api_Trail.k F A0_6 c0_6 x0_.f6) (g1_6 : Rd (Kn.int .i64) F A1_6 c1_6 x1_.f6) (H : maps_turned.f k x0_ x1_ = some r) :
    Calls Tryz.prog 78 #[.agg #[.int .i64 x0_.f0, .int .i64 x0_.f1, .int .i64 x0_.f2, .int .i64 x0_.f3, .slice A0_4 x0_.f4.length c0_4, .slice A0_5 x0_.f5.length c0_5, .slice A0_6 x0_.f6.length c0_6], .agg #[.int .i64 x1_.f0, .int .i64 x1_.f1, .int .i64 x1_.f2, .int .i64 x1_.f3, .int .i64 x1_.f4, .int .i64 x1_.f5, .slice A1_6 x1_.f6.length c1_6]] W fun e w' => ∃ v, e = .returned v ∧ maps_turned.Post x0_ x1_ A0_4 c0_4 A0_5 c0_5 A0_6 c0_6 A1_6 c1_6 W F r v w' := by
 have hS := St.start hown
 obtain ⟨N, hN⟩ : ∃ N, N = mine W [row T_api_Node.k 104 (.slice A0_4 x0_.f4.length c0_4) x0_.f4] := ⟨_, rfl⟩
 rw [← hN] at hS
 unfold maps_turned.f at H
 refine enter (n := 50) rfl rfl rfl (Nat.le_of_ble_eq_true rfl) (fun a hE => ?_)
 refine wp_seq_k fun K1 hK1 => pl0 (ple hE (.bx (t := 26) hS [.int .i64 x0_.f0, .int .i64 x0_.f1, .int .i64 x0_.f2, .int .i64 x0_.f3, .slice A0_4 x0_.f4.length c0_4, .slice A0_5 x0_.f5.length c0_5, .slice A0_6 x0_.f6.length c0_6]) ?_)
 rintro _ u3 a ⟨b2, rfl, hb2, hS, hg⟩ hE
 refine ple hE (.bx (t := 40) hS [.int .i64 x1_.f0, .int .i64 x1_.f1, .int .i64 x1_.f2, .int .i64 x1_.f3, .int .i64 x1_.f4, .int .i64 x1_.f5, .slice A1_6 x1_.f6.length c1_6]) ?_
 rintro _ u5 a ⟨b4, rfl, hb4, hS, hg⟩ hE
 refine ple hE (.al (t := 26) hS [.int .i64 0, .int .i64 0, .int .i64 0, .int .i64 0, .slice none 0 0, .slice none 0 0, .slice none 0 0]) ?_
 rintro _ u7 a ⟨b6, rfl, hb6, hS, hg⟩ hE
 refine plc hE (.r 3 1 .nil) (fun a hE => pld (hK1 _ _ (wp_seq_k fun K8 hK8 => wp_seq_k fun K9 hK9 => pl0 ?_)))
 have hb4 := hS.blk_at (i := 1) rfl
 refine plc hE (.r 0 1 <| .b 1 0 hb4 <| .nil) (fun a hE => pld (hK9 _ _ (wp_block (wp_seq_k fun K10 hK10 => pl0 (plc hE (.r 0 2 .nil) (fun a hE => pld (hK10 _ _ ?_)))))))
 rcases sp H with ⟨c11, H⟩ | ⟨c11, H⟩
 ·
  replace hE := hE.kt 10 c11
  refine ct hE (wp_seq_k fun K12 hK12 => pl0 ?_)
  have hb2 := hS.blk_at (i := 2) rfl
  refine plc hE (.bn 0 0 7 hb2 <| .bn 1 0 7 hb4 <| .nil) (fun a hE => ?_)
  replace hS := hS.front 3 rfl
  obtain ⟨t14, h15, H⟩ := bd H
  refine ple hE (.cl en132 (maps_add.calls k x0_ x1_ _ _ _ _ _ _ _ _ _ _ _ (Own.left (X := [row T_api_Node.k 104 (.slice A0_4 x0_.f4.length c0_4) x0_.f4]) hS.own) g0_5 g0_6 g1_6 h15)) ?_
  rintro _ u13 a ⟨F16, A17, c18, A21, c22, A24, c25, rfl, hC, g23, g26⟩ hE
  have hs := hC.sub
  replace hS := hS.called (X := [row T_api_Node.k 104 (.slice A0_4 x0_.f4.length c0_4) x0_.f4]) hC
  replace g0_5 := g0_5.mono hs
  replace g0_6 := g0_6.mono hs
  replace g1_6 := g1_6.mono hs
  refine plc hE (.r 3 2 .nil) (fun a hE => ?_)
  replace hS := hS.front 1 rfl
  refine ple hE (.sto hS [.int .i64 t14.1.f0, .int .i64 t14.1.f1, .int .i64 t14.1.f2, .int .i64 t14.1.f3, .slice A17 t14.1.f4.length c18, .slice A21 t14.1.f5.length c22, .slice A24 t14.1.f6.length c25]) ?_
  rintro _ u27 a ⟨rfl, hb6, hS, hz⟩ hE
  refine plc hE (.r 6 1 .nil) (fun a hE => pld (hK12 _ _ (wp_ret (block_ret (then_ret ?_)))))
  replace hS := hS.tail
  replace hS := hS.front 1 rfl
  replace hS := hS.tail
  replace hS := hS.front 1 rfl
  replace hS := hS.tail
  rw [hN] at hS
  obtain rfl := si H
  exact retN hE rfl (of_decide_eq_true rfl) (.cell (by kernel_rfl) (res_blk [.int .i64 t14.1.f0, .int .i64 t14.1.f1, .int .i64 t14.1.f2, .int .i64 t14.1.f3, .slice A17 t14.1.f4.length c18, .slice A21 t14.1.f5.length c22, .slice A24 t14.1.f6.length c25] ag26 sz26 hb6 rfl) (.tmp (by kernel_rfl) .nil)) ⟨_, rfl, _, _, _, _, _, _, _, rfl, hS, g23, g26⟩
 ·
  replace hE := hE.kf 10 c11
  refine cf hE (wp_seq_k fun K28 hK28 => pl0 (plc hE (.r 0 2 .nil) (fun a hE => pld (hK28 _ _ ?_))))
  rcases sp H with ⟨c29, H⟩ | ⟨c29, H⟩
  ·
   replace hE := hE.kt 17 c29
   refine ct hE (wp_seq_k fun K30 hK30 => pl0 ?_)
   have hb2 := hS.blk_at (i := 2) rfl
   refine plc hE (.bn 0 0 7 hb2 <| .bn 1 0 7 hb4 <| .nil) (fun a hE => ?_)
   cases (show none = some r from H)
  ·
   replace hE := hE.kf 17 c29
   refine cf hE (wp_seq_k fun K31 hK31 => pl0 (plc hE (.r 0 2 .nil) (fun a hE => pld (hK31 _ _ ?_))))
   rcases sp H with ⟨c32, H⟩ | ⟨c32, H⟩
   ·
    replace hE := hE.kt 24 c32
    refine ct hE (wp_seq_k fun K33 hK33 => pl0 ?_)
    have hb2 := hS.blk_at (i := 2) rfl
    refine plc hE (.bn 0 0 7 hb2 .nil) (fun a hE => ple hE (.sto hS [.int .i64 x0_.f0, .int .i64 x0_.f1, .int .i64 x0_.f2, .int .i64 x0_.f3, .slice A0_4 x0_.f4.length c0_4, .slice A0_5 x0_.f5.length c0_5, .slice A0_6 x0_.f6.length c0_6]) ?_)
    rintro _ u34 a ⟨rfl, hb6, hS, hz⟩ hE
    refine plc hE (.r 2 1 .nil) (fun a hE => pld (hK33 _ _ (wp_ret (block_ret (then_ret ?_)))))
    replace hS := hS.tail
    replace hS := hS.tail
    replace hS := hS.tail
    rw [hN] at hS
    obtain rfl := si H
    exact retN hE rfl (of_decide_eq_true rfl) (.cell (by kernel_rfl) (res_blk [.int .i64 x0_.f0, .int .i64 x0_.f1, .int .i64 x0_.f2, .int .i64 x0_.f3, .slice A0_4 x0_.f4.length c0_4, .slice A0_5 x0_.f5.length c0_5, .slice A0_6 x0_.f6.length c0_6] ag26 sz26 hb6 rfl) (.tmp (by kernel_rfl) .nil)) ⟨_, rfl, _, _, _, _, _, _, _, rfl, hS, g0_5, g0_6⟩
   ·
    replace hE := hE.kf 24 c32
    refine cf hE (wp_seq_k fun K35 hK35 => pl0 (plc hE (.r 0 2 .nil) (fun a hE => pld (hK35 _ _ ?_))))
    rcases sp H with ⟨c36, H⟩ | ⟨c36, H⟩
    ·
     replace hE := hE.kt 27 c36
     refine ct hE (wp_seq_k fun K37 hK37 => pl0 ?_)
     have hb2 := hS.blk_at (i := 2) rfl
     refine plc hE (.bn 0 0 7 hb2 <| .bn 1 0 7 hb4 <| .nil) (fun a hE => ?_)
     cases (show none = some r from H)
    ·
     replace hE := hE.kf 27 c36
     refine cf hE (wp_skip ?_)
     refine block_n ?_
     refine hK8 _ _ (wp_seq_k fun K38 hK38 => pl0 ?_)
     have hb2 := hS.blk_at (i := 2) rfl
     refine plc hE (.bn 0 0 7 hb2 <| .r 1 1 <| .b 2 1 hb4 <| .nil) (fun a hE => ?_)
     obtain ⟨t40, h41, H⟩ := bd H
     refine ple hE (.cl en135 (maps_at.calls k x0_ x1_.f1 _ _ _ _ _ _ _ _ _ (Sub.refl _) (hS.rd_at (i := 3) rfl) (g0_5.mono hS.own.sub) (g0_6.mono hS.own.sub) h41)) ?_
     rintro _ u39 a ⟨_, rfl, hC⟩ hE
     replace hS := hS.lent hC
     refine plc hE (.r 4 5 .nil) (fun a hE => pld (hK38 _ _ (wp_seq_k fun K42 hK42 => wp_seq_k fun K43 hK43 => pl0 (plc hE (.r 0 2 .nil) (fun a hE => pld (hK43 _ _ ?_))))))
     rcases sp H with ⟨c44, H⟩ | ⟨c44, H⟩
     ·
      replace hE := hE.btn 42 c44
      refine cf hE (wp_skip (hK42 _ _ (wp_seq_k fun K47 hK47 => pl0 ?_)))
      have hb2 := hS.blk_at (i := 2) rfl
      have hb4 := hS.blk_at (i := 1) rfl
      refine plc hE (.bn 0 0 7 hb2 <| .r 1 1 <| .bn 2 0 7 hb4 <| .nil) (fun a hE => ?_)
      replace hS := hS.front 3 rfl
      obtain ⟨t49, h50, H⟩ := bd H
      refine ple hE (.cl en136 (maps_node.calls k x0_ t40.1 x1_ _ _ _ _ _ _ _ _ _ _ _ (Own.left (X := [row T_api_Node.k 104 (.slice A0_4 x0_.f4.length c0_4) x0_.f4]) hS.own) g0_5 g0_6 g1_6 h50)) ?_
      rintro _ u48 a ⟨F51, A52, c53, A56, c57, A59, c60, rfl, hC, g58, g61⟩ hE
      have hs := hC.sub
      replace hS := hS.called (X := [row T_api_Node.k 104 (.slice A0_4 x0_.f4.length c0_4) x0_.f4]) hC
      replace g0_5 := g0_5.mono hs
      replace g0_6 := g0_6.mono hs
      replace g1_6 := g1_6.mono hs
      refine plc hE (.r 4 2 .nil) (fun a hE => ?_)
      replace hS := hS.front 1 rfl
      refine ple hE (.sto hS [.int .i64 t49.1.f0, .int .i64 t49.1.f1, .int .i64 t49.1.f2, .int .i64 t49.1.f3, .slice A52 t49.1.f4.length c53, .slice A56 t49.1.f5.length c57, .slice A59 t49.1.f6.length c60]) ?_
      rintro _ u62 a ⟨rfl, hb6, hS, hz⟩ hE
      refine plc hE (.r 7 1 .nil) (fun a hE => pld (hK47 _ _ (wp_ret ?_)))
      replace hS := hS.tail
      replace hS := hS.front 1 rfl
      replace hS := hS.tail
      replace hS := hS.front 1 rfl
      replace hS := hS.tail
      rw [hN] at hS
      obtain rfl := si H
      exact retN hE rfl (of_decide_eq_true rfl) (.cell (by kernel_rfl) (res_blk [.int .i64 t49.1.f0, .int .i64 t49.1.f1, .int .i64 t49.1.f2, .int .i64 t49.1.f3, .slice A52 t49.1.f4.length c53, .slice A56 t49.1.f5.length c57, .slice A59 t49.1.f6.length c60] ag26 sz26 hb6 rfl) (.tmp (by kernel_rfl) .nil)) ⟨_, rfl, _, _, _, _, _, _, _, rfl, hS, g58, g61⟩
     ·
      replace hE := hE.bfn 42 c44
      refine ct hE (wp_seq_k fun K45 hK45 => pl0 ?_)
      have hb2 := hS.blk_at (i := 2) rfl
      refine plc hE (.bn 0 0 7 hb2 .nil) (fun a hE => ple hE (.sto hS [.int .i64 x0_.f0, .int .i64 x0_.f1, .int .i64 x0_.f2, .int .i64 x0_.f3, .slice A0_4 x0_.f4.length c0_4, .slice A0_5 x0_.f5.length c0_5, .slice A0_6 x0_.f6.length c0_6]) ?_)
      rintro _ u46 a ⟨rfl, hb6, hS, hz⟩ hE
      refine plc hE (.r 2 1 .nil) (fun a hE => pld (hK45 _ _ (wp_ret (then_ret ?_))))
      replace hS := hS.tail
      replace hS := hS.tail
      replace hS := hS.tail
      rw [hN] at hS
      obtain rfl := si H
      exact retN hE rfl (of_decide_eq_true rfl) (.cell (by kernel_rfl) (res_blk [.int .i64 x0_.f0, .int .i64 x0_.f1, .int .i64 x0_.f2, .int .i64 x0_.f3, .slice A0_4 x0_.f4.length c0_4, .slice A0_5 x0_.f5.length c0_5, .slice A0_6 x0_.f6.length c0_6] ag26 sz26 hb6 rfl) (.tmp (by kernel_rfl) .nil)) ⟨_, rfl, _, _, _, _, _, _, _, rfl, hS, g0_5, g0_6⟩

/-! ### windrose/maps.temp$1: function 165 -/
def maps_temp_1.f (x0_ : T_api_Temp) (x1_ : Int) : Option Int := (cmp_Compare_int.f x0_.f0 x1_).bind fun t6 => (some t6)
def maps_temp_1.Post (W F : World) (r : Int) (v : Value) (w' : World) : Prop := ∃ (F' : World), v = .int .i64 r ∧ St W (mine W []) F w' F' []
theorem maps_temp_1.calls (x0_ : T_api_Temp) (x1_ : Int) (A0_1 : Option Addr) (c0_1 : Nat) (r : Int) (W F : World) (hown : Sub F W) (g0_1 : Rd (Kn.int .i64) F A0_1 c0_1 x0_.f1) (H : maps_temp_1.f x0_ x1_ = some r) :
    Calls Tryz.prog 165 #[.agg #[.int .i64 x0_.f0, .slice A0_1 x0_.f1.length c0_1], .int .i64 x1_] W fun e w' => ∃ v, e = .returned v ∧ maps_temp_1.Post W F r v w' := by
 have hS := St.start (Own.nil hown)
 unfold maps_temp_1.f at H
 refine enter (n := 9) rfl rfl rfl (Nat.le_of_ble_eq_true rfl) (fun a hE => ?_)
 refine wp_seq_k fun K1 hK1 => pl0 (ple hE (.bx (t := 97) hS [.int .i64 x0_.f0, .slice A0_1 x0_.f1.length c0_1]) ?_)
 rintro _ u3 a ⟨b2, rfl, hb2, hS, hg⟩ hE
 refine plc hE (.r 1 1 .nil) (fun a hE => pld (hK1 _ _ (wp_seq_k fun K4 hK4 => pl0 (plc hE (.r 0 1 <| .b 1 0 hb2 <| .r 2 1 <| .nil) (fun a hE => ?_)))))
 obtain ⟨t6, h7, H⟩ := bd H
 refine ple hE (.cl en161 (cmp_Compare_int.calls x0_.f0 x1_ _ _ _ hS.own.sub h7)) ?_
 rintro _ u5 a ⟨_, rfl, hC⟩ hE
 replace hS := hS.lent hC
 refine plc hE (.r 4 1 .nil) (fun a hE => pld (hK4 _ _ (wp_ret ?_)))
 replace hS := hS.tail
 obtain rfl := si H
 exact rt1 hE ⟨_, rfl, _, rfl, hS⟩

end Go.Proofs.YtpohepinmjmbkaaGreat.QB
