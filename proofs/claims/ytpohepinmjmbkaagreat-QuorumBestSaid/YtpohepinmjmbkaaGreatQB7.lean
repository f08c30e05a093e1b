/- Functions of the program, what each computes (written by wip/s/sl.py). -/
import Derived.Test.YtpohepinmjmbkaaGreatQB6
namespace Go.Proofs.YtpohepinmjmbkaaGreat.QB
open Go Go.RowKit Go.Proofs.YtpohepinmjmbkaaGreat.Sl
set_option linter.unusedVariables false
set_option linter.unusedSimpArgs false
set_option maxHeartbeats 4000000
set_option maxRecDepth 100000
/-! ### windrose/quorum.Decide: function 50 -/
mutual
def quorum_Decide.j45 : Nat → T_api_Map → Int → List T_api_Info → List Int → Bool → Option (T_api_Verdict × Int)
  | 0, _, _, _, _, _ => none
  | k + 1, x0_, x1_, x2_, t20, y44 => (quorum_Count.f k x0_ x1_ x2_).bind fun t54 => (quorum_Decide.l71 k x0_ x2_ t54 t20 0 y44 [])
def quorum_Decide.l71 : Nat → T_api_Map → List T_api_Info → List T_api_Span → List Int → Int → Bool → List Int → Option (T_api_Verdict × Int)
  | 0, _, _, _, _, _, _, _ => none
  | k + 1, x0_, x2_, t54, l65, x66, y67, l70 => if x66 < (t54.length : Int) then (if 0 ≤ x66 ∧ x66 < (t54.length : Int) then (if ((l65.length : Int) + (((nth T_api_Span.z t54 x66).f1).length : Int)) * 8 ≤ 140737488355328 then ((slices_ContainsFunc__int_int_of_quorum_Decide_1.f k ((nth T_api_Span.z t54 x66).f1) x2_).bind fun t100 => (if t100 = true then (quorum_Decide.l71 k x0_ x2_ t54 (l65 ++ (nth T_api_Span.z t54 x66).f1) (w64 (x66 + 1)) y67 l70) else ((slices_ContainsFunc__int_int_of_quorum_Decide_3.f k ((nth T_api_Span.z t54 x66).f1) x0_).bind fun t107 => (if t107 = true then (quorum_Decide.l71 k x0_ x2_ t54 (l65 ++ (nth T_api_Span.z t54 x66).f1) (w64 (x66 + 1)) false l70) else (if ((l70.length : Int) + ((1 : Nat) : Int)) * 8 ≤ 140737488355328 then (quorum_Decide.l71 k x0_ x2_ t54 (l65 ++ (nth T_api_Span.z t54 x66).f1) (w64 (x66 + 1)) false (l70 ++ [(nth T_api_Span.z t54 x66).f0])) else (none)))))) else (none)) else (none)) else ((slices_Sort__int_int.f l65).bind fun t122 => ((slices_Compact__int_int.f k t122).bind fun t129 => (quorum_Decide.l141 k x0_ x2_ y67 l70 t129 0 [])))
def quorum_Decide.l141 : Nat → T_api_Map → List T_api_Info → Bool → List Int → List Int → Int → List Int → Option (T_api_Verdict × Int)
  | 0, _, _, _, _, _, _, _ => none
  | k + 1, x0_, x2_, y67, l70, t129, x137, l140 => if x137 < (t129.length : Int) then (if 0 ≤ x137 ∧ x137 < (t129.length : Int) then ((quorum_Decide_2.f k (nth 0 t129 x137) x2_).bind fun t158 => (if t158 = true then ((quorum_up.f k x0_ (nth 0 t129 x137)).bind fun t162 => (quorum_Decide.j165 k x0_ x2_ y67 l70 t129 x137 l140 t162)) else (quorum_Decide.j165 k x0_ x2_ y67 l70 t129 x137 l140 false))) else (none)) else (if y67 = true then ((quorum_Best.f k x2_).bind fun t186 => (quorum_Decide.j193 k y67 l70 l140 t186.1.f0)) else (quorum_Decide.j193 k y67 l70 l140 0))
def quorum_Decide.j165 : Nat → T_api_Map → List T_api_Info → Bool → List Int → List Int → Int → List Int → Bool → Option (T_api_Verdict × Int)
  | 0, _, _, _, _, _, _, _, _ => none
  | k + 1, x0_, x2_, y67, l70, t129, x137, l140, y164 => if y164 = true then (if ((l140.length : Int) + ((1 : Nat) : Int)) * 8 ≤ 140737488355328 then (quorum_Decide.l141 k x0_ x2_ y67 l70 t129 (w64 (x137 + 1)) (l140 ++ [(nth 0 t129 x137)])) else (none)) else (quorum_Decide.l141 k x0_ x2_ y67 l70 t129 (w64 (x137 + 1)) l140)
def quorum_Decide.j193 : Nat → Bool → List Int → List Int → Int → Option (T_api_Verdict × Int)
  | 0, _, _, _, _ => none
  | k + 1, y67, l70, l140, x192 => some ((⟨y67, x192, l140, l70⟩ : T_api_Verdict), 0)
end
theorem quorum_Decide.j45_s (k : Nat) (x0_ : T_api_Map) (x1_ : Int) (x2_ : List T_api_Info) (t20 : List Int) (y44 : Bool) : quorum_Decide.j45 (k + 1) x0_ x1_ x2_ t20 y44 = ((quorum_Count.f k x0_ x1_ x2_).bind fun t54 => (quorum_Decide.l71 k x0_ x2_ t54 t20 0 y44 [])) := by kernel_rfl
theorem quorum_Decide.l71_s (k : Nat) (x0_ : T_api_Map) (x2_ : List T_api_Info) (t54 : List T_api_Span) (l65 : List Int) (x66 : Int) (y67 : Bool) (l70 : List Int) : quorum_Decide.l71 (k + 1) x0_ x2_ t54 l65 x66 y67 l70 = (if x66 < (t54.length : Int) then (if 0 ≤ x66 ∧ x66 < (t54.length : Int) then (if ((l65.length : Int) + (((nth T_api_Span.z t54 x66).f1).length : Int)) * 8 ≤ 140737488355328 then ((slices_ContainsFunc__int_int_of_quorum_Decide_1.f k ((nth T_api_Span.z t54 x66).f1) x2_).bind fun t100 => (if t100 = true then (quorum_Decide.l71 k x0_ x2_ t54 (l65 ++ (nth T_api_Span.z t54 x66).f1) (w64 (x66 + 1)) y67 l70) else ((slices_ContainsFunc__int_int_of_quorum_Decide_3.f k ((nth T_api_Span.z t54 x66).f1) x0_).bind fun t107 => (if t107 = true then (quorum_Decide.l71 k x0_ x2_ t54 (l65 ++ (nth T_api_Span.z t54 x66).f1) (w64 (x66 + 1)) false l70) else (if ((l70.length : Int) + ((1 : Nat) : Int)) * 8 ≤ 140737488355328 then (quorum_Decide.l71 k x0_ x2_ t54 (l65 ++ (nth T_api_Span.z t54 x66).f1) (w64 (x66 + 1)) false (l70 ++ [(nth T_api_Span.z t54 x66).f0])) else (none)))))) else (none)) else (none)) else ((slices_Sort__int_int.f l65).bind fun t122 => ((slices_Compact__int_int.f k t122).bind fun t129 => (quorum_Decide.l141 k x0_ x2_ y67 l70 t129 0 [])))) := by kernel_rfl
theorem quorum_Decide.l141_s (k : Nat) (x0_ : T_api_Map) (x2_ : List T_api_Info) (y67 : Bool) (l70 : List Int) (t129 : List Int) (x137 : Int) (l140 : List Int) : quorum_Decide.l141 (k + 1) x0_ x2_ y67 l70 t129 x137 l140 = (if x137 < (t129.length : Int) then (if 0 ≤ x137 ∧ x137 < (t129.length : Int) then ((quorum_Decide_2.f k (nth 0 t129 x137) x2_).bind fun t158 => (if t158 = true then ((quorum_up.f k x0_ (nth 0 t129 x137)).bind fun t162 => (quorum_Decide.j165 k x0_ x2_ y67 l70 t129 x137 l140 t162)) else (quorum_Decide.j165 k x0_ x2_ y67 l70 t129 x137 l140 false))) else (none)) else (if y67 = true then ((quorum_Best.f k x2_).bind fun t186 => (quorum_Decide.j193 k y67 l70 l140 t186.1.f0)) else (quorum_Decide.j193 k y67 l70 l140 0))) := by kernel_rfl
theorem quorum_Decide.j165_s (k : Nat) (x0_ : T_api_Map) (x2_ : List T_api_Info) (y67 : Bool) (l70 : List Int) (t129 : List Int) (x137 : Int) (l140 : List Int) (y164 : Bool) : quorum_Decide.j165 (k + 1) x0_ x2_ y67 l70 t129 x137 l140 y164 = (if y164 = true then (if ((l140.length : Int) + ((1 : Nat) : Int)) * 8 ≤ 140737488355328 then (quorum_Decide.l141 k x0_ x2_ y67 l70 t129 (w64 (x137 + 1)) (l140 ++ [(nth 0 t129 x137)])) else (none)) else (quorum_Decide.l141 k x0_ x2_ y67 l70 t129 (w64 (x137 + 1)) l140)) := by kernel_rfl
theorem quorum_Decide.j193_s (k : Nat) (y67 : Bool) (l70 : List Int) (l140 : List Int) (x192 : Int) : quorum_Decide.j193 (k + 1) y67 l70 l140 x192 = (some ((⟨y67, x192, l140, l70⟩ : T_api_Verdict), 0)) := by kernel_rfl
def quorum_Decide.f (k : Nat) (x0_ : T_api_Map) (x1_ : Int) (x2_ : List T_api_Info) : Option (T_api_Verdict × Int) := (quorum_sound.f k x0_ x1_ x2_).bind fun t11 => (if t11 = true then ((maps_Acting.f k x0_ x1_).bind fun t20 => (if (t20.length : Int) ≥ x0_.f2 then ((slices_ContainsFunc__int_int_of_quorum_Decide_2.f k t20 x2_).bind fun t35 => (quorum_Decide.j45 k x0_ x1_ x2_ t20 (!t35))) else (quorum_Decide.j45 k x0_ x1_ x2_ t20 false))) else (some ((⟨false, 0, [], []⟩ : T_api_Verdict), 1)))
def quorum_Decide.Post (W F : World) (r : T_api_Verdict × Int) (v : Value) (w' : World) : Prop := ∃ (F' : World) (RA0_2 : Option Addr) (rc0_2 : Nat) (RA0_3 : Option Addr) (rc0_3 : Nat), v = .tuple #[.agg #[.bool r.1.f0, .int .i64 r.1.f1, .slice RA0_2 r.1.f2.length rc0_2, .slice RA0_3 r.1.f3.length rc0_3], .int .i64 r.2] ∧ St W (mine W []) F w' F' [row (Kn.int .i64) 3 (.slice RA0_2 r.1.f2.length rc0_2) r.1.f2, row (Kn.int .i64) 3 (.slice RA0_3 r.1.f3.length rc0_3) r.1.f3]
theorem quorum_Decide.calls (k : Nat) (x0_ : T_api_Map) (x1_ : Int) (x2_ : List T_api_Info) (A0_4 : Option Addr) (c0_4 : Nat) (A0_5 : Option Addr) (c0_5 : Nat) (A0_6 : Option Addr) (c0_6 : Nat) (A2_0 : Option Addr) (c2_0 : Nat) (r : T_api_Verdict × Int) (W F : World) (hown : Sub F W) (g0_4 : Rd T_api_Node.k F A0_4 c0_4 x0_.f4) (g0_5 : Rd T_api_Temp.k F A0_5 c0_5 x0_.f5) (g0_6 : Rd T_api_Trail.k F A0_6 c0_6 x0_.f6) (g2_0 : Rd T_api_Info.k F A2_0 c2_0 x2_) (H : quorum_Decide.f k x0_ x1_ x2_ = some r) :
    Calls Tryz.prog 50 #[.agg #[.int .i64 x0_.f0, .int .i64 x0_.f1, .int .i64 x0_.f2, .int .i64 x0_.f3, .slice A0_4 x0_.f4.length c0_4, .slice A0_5 x0_.f5.length c0_5, .slice A0_6 x0_.f6.length c0_6], .int .i64 x1_, .slice A2_0 x2_.length c2_0] W fun e w' => ∃ v, e = .returned v ∧ quorum_Decide.Post W F r v w' := by
 have hS := St.start (Own.nil hown)
 unfold quorum_Decide.f at H
 refine enter (n := 109) rfl rfl rfl (Nat.le_of_ble_eq_true rfl) (fun a hE => ?_)
 refine wp_seq_k fun K1 hK1 => pl0 (ple hE (.bx (t := 26) hS [.int .i64 x0_.f0, .int .i64 x0_.f1, .int .i64 x0_.f2, .int .i64 x0_.f3, .slice A0_4 x0_.f4.length c0_4, .slice A0_5 x0_.f5.length c0_5, .slice A0_6 x0_.f6.length c0_6]) ?_)
 rintro _ u3 a ⟨b2, rfl, hb2, hS, hg⟩ hE
 refine ple hE (.bx (t := 72) hS [.slice A2_0 x2_.length c2_0]) ?_
 rintro _ u5 a ⟨b4, rfl, hb4, hS, hg⟩ hE
 refine ple hE (.al (t := 74) hS [.bool false, .int .i64 0, .slice none 0 0, .slice none 0 0]) ?_
 rintro _ u7 a ⟨b6, rfl, hb6, hS, hg⟩ hE
 refine plc hE (.r 3 1 .nil) (fun a hE => pld (hK1 _ _ (wp_seq_k fun K8 hK8 => wp_seq_k fun K9 hK9 => pl0 ?_)))
 have hb2 := hS.blk_at (i := 2) rfl
 have hb4 := hS.blk_at (i := 1) rfl
 refine plc hE (.bn 0 0 7 hb2 <| .r 1 1 <| .b 2 0 hb4 <| .nil) (fun a hE => ?_)
 obtain ⟨t11, h12, H⟩ := bd H
 refine ple hE (.cl en103 (quorum_sound.calls k x0_ x1_ x2_ _ _ _ _ _ _ _ _ _ _ _ hS.own.sub g0_4 g0_5 g0_6 g2_0 h12)) ?_
 rintro _ u10 a ⟨_, rfl, hC⟩ hE
 replace hS := hS.lent hC
 refine plc hE (.r 4 1 .nil) (fun a hE => pld (hK9 _ _ ?_))
 rcases sp H with ⟨c13, H⟩ | ⟨c13, H⟩
 ·
  replace hE := hE.btn 23 c13
  refine cf hE (wp_skip (hK8 _ _ (wp_seq_k fun K18 hK18 => pl0 ?_)))
  have hb2 := hS.blk_at (i := 2) rfl
  refine plc hE (.bn 0 0 7 hb2 <| .r 1 1 <| .nil) (fun a hE => ?_)
  obtain ⟨t20, h21, H⟩ := bd H
  refine ple hE (.cl en24 (maps_Acting.calls k x0_ x1_ _ _ _ _ _ _ _ _ _ hS.own.sub g0_4 g0_5 g0_6 h21)) ?_
  rintro _ u19 a ⟨F22, A23, c24, rfl, hC⟩ hE
  have hs := hC.sub
  replace hS := hS.called (X := []) hC
  replace g0_4 := g0_4.mono hs
  replace g0_5 := g0_5.mono hs
  replace g0_6 := g0_6.mono hs
  replace g2_0 := g2_0.mono hs
  refine plc hE (.r 3 1 .nil) (fun a hE => pld (hK18 _ _ (wp_seq_k fun K27 hK27 => pl0 (plc hE (.r 0 1 .nil) (fun a hE => ple hE (.al (t := 129) hS [.nilFunc]) ?_)))))
  rintro _ u29 a ⟨b28, rfl, hb28, hS, hg⟩ hE
  refine ple hE (.sto hS [.func (.func 104) #[] #[.pointer (some ⟨b4, 0, none⟩)]]) ?_
  rintro _ u30 a ⟨rfl, hb28, hS, hz⟩ hE
  refine pld (hK27 _ _ (wp_seq_k fun K31 hK31 => pl0 (plc hE (.r 0 2 .nil) (fun a hE => pld (hK31 _ _ (wp_seq_k fun K32 hK32 => ?_))))))
  have J48 : ∀ kq46, kq46 ≤ k → ∀ (G : Nat → Value) (b43 : Nat) (y44 : Bool) (a : Act) (w' : World), Env 109 G a → At G [(1, .int .i64 x1_), (3, .pointer (some ⟨b2, 0, none⟩)), (5, .pointer (some ⟨b4, 0, none⟩)), (6, .pointer (some ⟨b6, 0, none⟩)), (8, .slice A23 t20.length c24), (9, .pointer (some ⟨b28, 0, none⟩)), (10, .func (.func 106) #[] #[.pointer (some ⟨b28, 0, none⟩)]), (11, .pointer (some ⟨b43, 0, none⟩))] → St W (mine W []) F w' F22 [box b28 #[.func (.func 104) #[] #[.pointer (some ⟨b4, 0, none⟩)]] 129, box b6 #[.bool false, .int .i64 0, .slice none 0 0, .slice none 0 0] 74, box b4 #[.slice A2_0 x2_.length c2_0] 72, box b2 #[.int .i64 x0_.f0, .int .i64 x0_.f1, .int .i64 x0_.f2, .int .i64 x0_.f3, .slice A0_4 x0_.f4.length c0_4, .slice A0_5 x0_.f5.length c0_5, .slice A0_6 x0_.f6.length c0_6] 26, box b43 #[.bool y44, .int .i64 0, .slice none 0 0, .slice none 0 0] 74, row (Kn.int .i64) 3 (.slice A23 t20.length c24) t20] → quorum_Decide.j45 kq46 x0_ x1_ x2_ t20 y44 = some r → K32 a w' := by
   intro kq46 hkq G b43 y44 a u49 hE hA hS H
   cases kq46 with
   | zero => cases (show none = some r from H)
   | succ k47 =>
    rw [quorum_Decide.j45_s] at H
    obtain ⟨J, hE⟩ := hE.at hA
    refine hK32 _ _ (wp_seq_k fun K50 hK50 => pl0 (plc hE (.r 0 2 .nil) (fun a hE => pld (hK50 _ _ (wp_seq_k fun K51 hK51 => wp_seq_k fun K52 hK52 => pl0 ?_)))))
    have hb2 := hS.blk_at (i := 3) rfl
    have hb4 := hS.blk_at (i := 2) rfl
    refine plc hE (.bn 0 0 7 hb2 <| .r 1 1 <| .b 2 0 hb4 <| .nil) (fun a hE => ?_)
    obtain ⟨t54, h55, H⟩ := bd H
    refine ple hE (.cl en51 (quorum_Count.calls k47 x0_ x1_ x2_ _ _ _ _ _ _ _ _ _ _ _ hS.own.sub g0_4 g0_5 g0_6 g2_0 h55)) ?_
    rintro _ u53 a ⟨F56, A57, c58, rfl, hC⟩ hE
    have hs := hC.sub
    replace hS := hS.called (X := []) hC
    replace g0_4 := g0_4.mono hs
    replace g0_5 := g0_5.mono hs
    replace g0_6 := g0_6.mono hs
    replace g2_0 := g2_0.mono hs
    refine plc hE (.r 4 2 .nil) (fun a hE => pld (hK52 _ _ (wp_block ?_)))
    replace hS := hS.nilrow (Kn.int .i64) 3
    replace hS := hS.front 7 rfl
    replace hS := hS.front 2 rfl
    replace hS := hS.front 7 rfl
    replace hS := hS.front 7 rfl
    replace hS := hS.front 7 rfl
    replace hS := hS.front 7 rfl
    replace hS := hS.front 7 rfl
    refine wp_loop_ghost (fun kq72 a w' => ∃ (G : Nat → Value) (A63 : Option Addr) (c64 : Nat) (l65 : List Int) (x66 : Int) (y67 : Bool) (A68 : Option Addr) (c69 : Nat) (l70 : List Int), kq72 ≤ k47 ∧ Env 109 G a ∧ At G [(3, .pointer (some ⟨b2, 0, none⟩)), (5, .pointer (some ⟨b4, 0, none⟩)), (6, .pointer (some ⟨b6, 0, none⟩)), (9, .pointer (some ⟨b28, 0, none⟩)), (10, .func (.func 106) #[] #[.pointer (some ⟨b28, 0, none⟩)]), (11, .pointer (some ⟨b43, 0, none⟩)), (12, .slice A63 l65.length c64), (46, .slice A57 t54.length c58), (47, .int .i64 (t54.length : Int)), (48, .int .i64 x66)] ∧ St W (mine W []) F w' F56 [box b28 #[.func (.func 104) #[] #[.pointer (some ⟨b4, 0, none⟩)]] 129, box b6 #[.bool false, .int .i64 0, .slice none 0 0, .slice none 0 0] 74, box b4 #[.slice A2_0 x2_.length c2_0] 72, box b2 #[.int .i64 x0_.f0, .int .i64 x0_.f1, .int .i64 x0_.f2, .int .i64 x0_.f3, .slice A0_4 x0_.f4.length c0_4, .slice A0_5 x0_.f5.length c0_5, .slice A0_6 x0_.f6.length c0_6] 26, box b43 #[.bool y67, .int .i64 0, .slice none 0 0, .slice A68 l70.length c69] 74, row T_api_Span.k 51 (.slice A57 t54.length c58) t54, row (Kn.int .i64) 3 (.slice A63 l65.length c64) l65, row (Kn.int .i64) 3 (.slice A68 l70.length c69) l70] ∧  quorum_Decide.l71 kq72 x0_ x2_ t54 l65 x66 y67 l70 = some r) k47 ⟨_, A23, c24, t20, 0, y44, none, 0, [], Nat.le_refl _, hE, .of, hS, H⟩ ?_
    rintro kq72 a u74 ⟨G, A63, c64, l65, x66, y67, A68, c69, l70, hkq, hE, hA, hS, H⟩
    cases kq72 with
    | zero => cases (show none = some r from H)
    | succ k73 =>
     rw [quorum_Decide.l71_s] at H
     obtain ⟨J, hE⟩ := hE.at hA
     refine wp_seq_k fun K75 hK75 => pl0 (plc hE (.r 0 1 .nil) (fun a hE => pld (hK75 _ _ (wp_seq_k fun K76 hK76 => ?_))))
     rcases sp H with ⟨c77, H⟩ | ⟨c77, H⟩
     ·
      replace hE := hE.kt 49 c77
      refine ct hE (wp_skip (hK76 _ _ (wp_seq_k fun K78 hK78 => wp_block (wp_seq_k fun K79 hK79 => pl0 ?_))))
      obtain ⟨c80, H⟩ := gd H
      have hr81 := hS.row_at (i := 5) rfl
      have hE_ := hE
      obtain ⟨b82, rfl⟩ := row_addr hr81 c80.1 c80.2
      replace hE := hE_
      have hr_ := hS.row_at (i := 5) rfl
      obtain ⟨cs84, ⟨A86, c87, rfl, g88⟩, hc85⟩ := row_el hr_ T_api_Span.z x66 c80.1 c80.2
      refine plc hE (.x 0 c80 <| .cs 1 hc85 <| .nil) (fun a hE => ple hE (.al (t := 51) hS [.int .i64 0, .slice none 0 0]) ?_)
      rintro _ u90 a ⟨b89, rfl, hb89, hS, hg⟩ hE
      refine ple hE (.sto hS [.int .i64 ((nth T_api_Span.z t54 x66).f0), .slice A86 (((nth T_api_Span.z t54 x66).f1).length) c87]) ?_
      rintro _ u91 a ⟨rfl, hb89, hS, hz⟩ hE
      refine pld (hK79 _ _ (wp_seq_k fun K92 hK92 => pl0 (plc hE (.r 0 2 <| .b 2 1 hb89 <| .nil) (fun a hE => ?_))))
      obtain ⟨c93, H⟩ := gd H
      replace hS := hS.front 7 rfl
      refine ple hE (.ap (d := (Kn.int .i64)) 8 hS (g88.src hS.own.sub) c93 c87) ?_
      rintro _ u96 a ⟨A94, c95, rfl, hS, hz⟩ hE
      refine plc hE (.r 4 1 .nil) (fun a hE => pld (hK92 _ _ (wp_seq_k fun K97 hK97 => wp_seq_k fun K98 hK98 => pl0 ?_)))
      have hb89 := hS.blk_at (i := 1) rfl
      have hb28 := hS.blk_at (i := 2) rfl
      refine plc hE (.r 0 1 <| .b 1 1 hb89 <| .b 2 0 hb28 <| .nil) (fun a hE => ?_)
      obtain ⟨t100, h101, H⟩ := bd H
      refine ple hE (.cl en107 (slices_ContainsFunc__int_int_of_quorum_Decide_1.calls k73 ((nth T_api_Span.z t54 x66).f1) x2_ _ _ _ _ _ _ _ _ (Sub.refl _) (g88.mono hS.own.sub) (g2_0.mono hS.own.sub) (hS.blk_at (i := 4) rfl) h101)) ?_
      rintro _ u99 a ⟨_, rfl, hC⟩ hE
      replace hS := hS.lent hC
      refine pld (hK98 _ _ ?_)
      rcases sp H with ⟨c102, H⟩ | ⟨c102, H⟩
      ·
       replace hE := hE.bt 59 c102
       refine ct hE ?_
       refine wp_exit ?_
       refine hK78 _ _ (pl0 (plc hE (.r 0 2 .nil) (fun a hE => pld ?_)))
       replace hS := hS.front 1 rfl
       replace hS := hS.tail
       replace hS := hS.front 7 rfl
       replace hS := hS.front 1 rfl
       replace hS := hS.front 7 rfl
       replace hS := hS.front 7 rfl
       replace hS := hS.front 7 rfl
       replace hS := hS.front 7 rfl
       replace hS := hS.front 7 rfl
       replace hS := hS.front 7 rfl
       exact then_n ⟨k73, by omega, _, A94, c95, (l65 ++ (nth T_api_Span.z t54 x66).f1), (w64 (x66 + 1)), y67, A68, c69, l70, by omega, hE, .of, hS, H⟩
      ·
       replace hE := hE.bf 59 c102
       refine cf hE (wp_skip (hK97 _ _ (wp_seq_k fun K103 hK103 => pl0 (plc hE (.r 0 1 .nil) (fun a hE => ?_)))))
       replace hS := hS.front 6 rfl
       refine ple hE (.sto hS [.bool false, .int .i64 0, .slice none 0 0, .slice A68 l70.length c69]) ?_
       rintro _ u104 a ⟨rfl, hb43, hS, hz⟩ hE
       refine pld (hK103 _ _ (wp_seq_k fun K105 hK105 => pl0 ?_))
       have hb89 := hS.blk_at (i := 2) rfl
       refine plc hE (.r 0 1 <| .b 1 1 hb89 <| .r 2 1 <| .nil) (fun a hE => ?_)
       obtain ⟨t107, h108, H⟩ := bd H
       refine ple hE (.cl en107 (slices_ContainsFunc__int_int_of_quorum_Decide_3.calls k73 ((nth T_api_Span.z t54 x66).f1) x0_ _ _ _ _ _ _ _ _ _ _ _ _ (Sub.refl _) (g88.mono hS.own.sub) (g0_4.mono hS.own.sub) (g0_5.mono hS.own.sub) (g0_6.mono hS.own.sub) (hS.blk_at (i := 6) rfl) h108)) ?_
       rintro _ u106 a ⟨_, rfl, hC⟩ hE
       replace hS := hS.lent hC
       refine plc hE (.r 4 1 .nil) (fun a hE => pld (hK105 _ _ ?_))
       rcases sp H with ⟨c109, H⟩ | ⟨c109, H⟩
       ·
        replace hE := hE.btn 65 c109
        refine cf hE (wp_skip ?_)
        refine block_n ?_
        refine hK78 _ _ (pl0 (plc hE (.r 0 2 .nil) (fun a hE => pld ?_)))
        replace hS := hS.front 2 rfl
        replace hS := hS.tail
        replace hS := hS.front 7 rfl
        replace hS := hS.front 2 rfl
        replace hS := hS.front 7 rfl
        replace hS := hS.front 3 rfl
        replace hS := hS.front 7 rfl
        replace hS := hS.front 7 rfl
        replace hS := hS.front 7 rfl
        replace hS := hS.front 7 rfl
        exact then_n ⟨k73, by omega, _, A94, c95, (l65 ++ (nth T_api_Span.z t54 x66).f1), (w64 (x66 + 1)), false, A68, c69, l70, by omega, hE, .of, hS, H⟩
       ·
        replace hE := hE.bfn 65 c109
        refine ct hE (pl0 ?_)
        have hb43 := hS.blk_at (i := 0) rfl
        have hb89 := hS.blk_at (i := 2) rfl
        refine plc hE (.r 0 1 <| .b 1 3 hb43 <| .r 2 1 <| .b 3 0 hb89 <| .nil) (fun a hE => ple hE (.lit (d := (Kn.int .i64)) (e := 3) hS [(nth T_api_Span.z t54 x66).f0] (.cons rfl .nil)) ?_)
        rintro _ u110 a ⟨A111, c112, rfl, hS, hg⟩ hE
        obtain ⟨c114, H⟩ := gd H
        replace hS := hS.front 9 rfl
        refine ple hE (.ap (d := (Kn.int .i64)) 8 hS (row_src (hS.row_at (i := 1) rfl)) c114 c112) ?_
        rintro _ u117 a ⟨A115, c116, rfl, hS, hz⟩ hE
        refine plc hE (.r 6 1 .nil) (fun a hE => ?_)
        replace hS := hS.front 2 rfl
        refine ple hE (.sto hS [.bool false, .int .i64 0, .slice none 0 0, .slice A115 ((l70 ++ [(nth T_api_Span.z t54 x66).f0]).length) c116]) ?_
        rintro _ u118 a ⟨rfl, hb43, hS, hz⟩ hE
        refine pld ?_
        refine block_n ?_
        refine hK78 _ _ (pl0 (plc hE (.r 0 2 .nil) (fun a hE => pld ?_)))
        replace hS := hS.front 2 rfl
        replace hS := hS.tail
        replace hS := hS.front 3 rfl
        replace hS := hS.tail
        replace hS := hS.front 1 rfl
        replace hS := hS.front 2 rfl
        replace hS := hS.front 7 rfl
        replace hS := hS.front 3 rfl
        replace hS := hS.front 7 rfl
        replace hS := hS.front 7 rfl
        replace hS := hS.front 7 rfl
        replace hS := hS.front 7 rfl
        exact then_n ⟨k73, by omega, _, A94, c95, (l65 ++ (nth T_api_Span.z t54 x66).f1), (w64 (x66 + 1)), false, A115, c116, (l70 ++ [(nth T_api_Span.z t54 x66).f0]), by omega, hE, .of, hS, H⟩
     ·
      replace hE := hE.kf 49 c77
      refine cf hE ?_
      refine wp_exit ?_
      refine hK51 _ _ (wp_seq_k fun K120 hK120 => pl0 (plc hE (.r 0 1 .nil) (fun a hE => ?_)))
      replace hS := hS.front 6 rfl
      obtain ⟨t122, h123, H⟩ := bd H
      refine ple hE (.cl en110 (slices_Sort__int_int.calls l65 _ _ _ _ _ (Own.left (X := [row (Kn.int .i64) 3 (.slice A63 l65.length c64) l65]) hS.own) h123)) ?_
      rintro _ u121 a ⟨F124, rfl, hC⟩ hE
      have hs := hC.sub
      replace hS := hS.called (X := [row (Kn.int .i64) 3 (.slice A63 l65.length c64) l65]) hC
      replace g2_0 := g2_0.mono hs
      replace g0_4 := g0_4.mono hs
      replace g0_5 := g0_5.mono hs
      replace g0_6 := g0_6.mono hs
      refine pld (hK120 _ _ (wp_seq_k fun K125 hK125 => wp_seq_k fun K126 hK126 => pl0 (plc hE (.r 0 1 .nil) (fun a hE => ?_))))
      have hn127 := (row_form (hS.row_at (i := 0) rfl)).1
      replace hE := hE.set (d := 12) (v := .slice A63 t122.length c64) (Eq.trans (b := .slice A63 l65.length c64) (by kernel_rfl) (by rw [← hn127]))
      replace hE := hE.set (d := 74) (v := .slice A63 t122.length c64) (Eq.trans (b := .slice A63 l65.length c64) (by kernel_rfl) (by rw [← hn127]))
      replace hE := hE.set (d := 76) (v := .slice A63 t122.length c64) (Eq.trans (b := .slice A63 l65.length c64) (by kernel_rfl) (by rw [← hn127]))
      replace hS : St W (mine W []) F u121 F124 [row (Kn.int .i64) 3 (.slice A63 t122.length c64) t122, box b28 #[.func (.func 104) #[] #[.pointer (some ⟨b4, 0, none⟩)]] 129, box b6 #[.bool false, .int .i64 0, .slice none 0 0, .slice none 0 0] 74, box b4 #[.slice A2_0 x2_.length c2_0] 72, box b2 #[.int .i64 x0_.f0, .int .i64 x0_.f1, .int .i64 x0_.f2, .int .i64 x0_.f3, .slice A0_4 x0_.f4.length c0_4, .slice A0_5 x0_.f5.length c0_5, .slice A0_6 x0_.f6.length c0_6] 26, box b43 #[.bool y67, .int .i64 0, .slice none 0 0, .slice A68 l70.length c69] 74, row T_api_Span.k 51 (.slice A57 t54.length c58) t54, row (Kn.int .i64) 3 (.slice A68 l70.length c69) l70] := by rw [← hn127]; exact hS
      obtain ⟨t129, h130, H⟩ := bd H
      refine ple hE (.cl en111 (slices_Compact__int_int.calls k73 t122 _ _ _ _ _ (Own.left (X := [row (Kn.int .i64) 3 (.slice A63 t122.length c64) t122]) hS.own) h130)) ?_
      rintro _ u128 a ⟨F131, A132, c133, rfl, hC⟩ hE
      have hs := hC.sub
      replace hS := hS.called (X := [row (Kn.int .i64) 3 (.slice A63 t122.length c64) t122]) hC
      replace g2_0 := g2_0.mono hs
      replace g0_4 := g0_4.mono hs
      replace g0_5 := g0_5.mono hs
      replace g0_6 := g0_6.mono hs
      refine plc hE (.r 2 2 .nil) (fun a hE => pld (hK126 _ _ (wp_block ?_)))
      replace hS := hS.nilrow (Kn.int .i64) 3
      replace hS := hS.front 7 rfl
      replace hS := hS.tail
      replace hS := hS.front 7 rfl
      replace hS := hS.front 2 rfl
      replace hS := hS.front 7 rfl
      replace hS := hS.front 7 rfl
      replace hS := hS.front 7 rfl
      replace hS := hS.front 7 rfl
      replace hS := hS.front 7 rfl
      refine wp_loop_ghost (fun kq142 a w' => ∃ (G : Nat → Value) (x137 : Int) (A138 : Option Addr) (c139 : Nat) (l140 : List Int), kq142 ≤ k73 ∧ Env 109 G a ∧ At G [(3, .pointer (some ⟨b2, 0, none⟩)), (5, .pointer (some ⟨b4, 0, none⟩)), (6, .pointer (some ⟨b6, 0, none⟩)), (10, .func (.func 106) #[] #[.pointer (some ⟨b28, 0, none⟩)]), (11, .pointer (some ⟨b43, 0, none⟩)), (77, .slice A132 t129.length c133), (78, .int .i64 (t129.length : Int)), (79, .int .i64 x137)] ∧ St W (mine W []) F w' F131 [box b28 #[.func (.func 104) #[] #[.pointer (some ⟨b4, 0, none⟩)]] 129, box b6 #[.bool false, .int .i64 0, .slice none 0 0, .slice none 0 0] 74, box b4 #[.slice A2_0 x2_.length c2_0] 72, box b2 #[.int .i64 x0_.f0, .int .i64 x0_.f1, .int .i64 x0_.f2, .int .i64 x0_.f3, .slice A0_4 x0_.f4.length c0_4, .slice A0_5 x0_.f5.length c0_5, .slice A0_6 x0_.f6.length c0_6] 26, box b43 #[.bool y67, .int .i64 0, .slice A138 l140.length c139, .slice A68 l70.length c69] 74, row (Kn.int .i64) 3 (.slice A132 t129.length c133) t129, row (Kn.int .i64) 3 (.slice A68 l70.length c69) l70, row (Kn.int .i64) 3 (.slice A138 l140.length c139) l140] ∧  quorum_Decide.l141 kq142 x0_ x2_ y67 l70 t129 x137 l140 = some r) k73 ⟨_, 0, none, 0, [], Nat.le_refl _, hE, .of, hS, H⟩ ?_
      rintro kq142 a u144 ⟨G, x137, A138, c139, l140, hkq, hE, hA, hS, H⟩
      cases kq142 with
      | zero => cases (show none = some r from H)
      | succ k143 =>
       rw [quorum_Decide.l141_s] at H
       obtain ⟨J, hE⟩ := hE.at hA
       refine wp_seq_k fun K145 hK145 => pl0 (plc hE (.r 0 1 .nil) (fun a hE => pld (hK145 _ _ (wp_seq_k fun K146 hK146 => ?_))))
       rcases sp H with ⟨c147, H⟩ | ⟨c147, H⟩
       ·
        replace hE := hE.kt 80 c147
        refine ct hE (wp_skip (hK146 _ _ (wp_seq_k fun K148 hK148 => wp_block (wp_seq_k fun K149 hK149 => pl0 ?_))))
        obtain ⟨c150, H⟩ := gd H
        have hr151 := hS.row_at (i := 5) rfl
        have hE_ := hE
        obtain ⟨b152, rfl⟩ := row_addr hr151 c150.1 c150.2
        replace hE := hE_
        have hr_ := hS.row_at (i := 5) rfl
        obtain ⟨cs154, rfl, hc155⟩ := row_el hr_ 0 x137 c150.1 c150.2
        refine plc hE (.x 0 c150 <| .c 1 (hc155 0 _ rfl) <| .r 2 1 <| .nil) (fun a hE => pld (hK149 _ _ (wp_seq_k fun K156 hK156 => ?_)))
        have J168 : ∀ kq166, kq166 ≤ k143 → ∀ (G : Nat → Value) (y164 : Bool) (a : Act) (w' : World), Env 109 G a → At G [(3, .pointer (some ⟨b2, 0, none⟩)), (5, .pointer (some ⟨b4, 0, none⟩)), (6, .pointer (some ⟨b6, 0, none⟩)), (10, .func (.func 106) #[] #[.pointer (some ⟨b28, 0, none⟩)]), (11, .pointer (some ⟨b43, 0, none⟩)), (16, .int .i64 (nth 0 t129 x137)), (77, .slice (some ⟨b152, 0, none⟩) t129.length c133), (78, .int .i64 (t129.length : Int)), (79, .int .i64 x137), (90, .bool y164)] → St W (mine W []) F w' F131 [box b28 #[.func (.func 104) #[] #[.pointer (some ⟨b4, 0, none⟩)]] 129, box b6 #[.bool false, .int .i64 0, .slice none 0 0, .slice none 0 0] 74, box b4 #[.slice A2_0 x2_.length c2_0] 72, box b2 #[.int .i64 x0_.f0, .int .i64 x0_.f1, .int .i64 x0_.f2, .int .i64 x0_.f3, .slice A0_4 x0_.f4.length c0_4, .slice A0_5 x0_.f5.length c0_5, .slice A0_6 x0_.f6.length c0_6] 26, box b43 #[.bool y67, .int .i64 0, .slice A138 l140.length c139, .slice A68 l70.length c69] 74, row (Kn.int .i64) 3 (.slice (some ⟨b152, 0, none⟩) t129.length c133) t129, row (Kn.int .i64) 3 (.slice A68 l70.length c69) l70, row (Kn.int .i64) 3 (.slice A138 l140.length c139) l140] → quorum_Decide.j165 kq166 x0_ x2_ y67 l70 t129 x137 l140 y164 = some r → K156 a w' := by
         intro kq166 hkq G y164 a u169 hE hA hS H
         cases kq166 with
         | zero => cases (show none = some r from H)
         | succ k167 =>
          rw [quorum_Decide.j165_s] at H
          obtain ⟨J, hE⟩ := hE.at hA
          refine hK156 _ _ ?_
          rcases sp H with ⟨c170, H⟩ | ⟨c170, H⟩
          ·
           replace hE := hE.bt 90 c170
           refine ct hE (pl0 ?_)
           have hb43 := hS.blk_at (i := 4) rfl
           refine plc hE (.r 0 1 <| .b 1 2 hb43 <| .r 2 1 <| .nil) (fun a hE => ple hE (.lit (d := (Kn.int .i64)) (e := 3) hS [(nth 0 t129 x137)] (.cons rfl .nil)) ?_)
           rintro _ u171 a ⟨A172, c173, rfl, hS, hg⟩ hE
           obtain ⟨c175, H⟩ := gd H
           replace hS := hS.front 8 rfl
           refine ple hE (.ap (d := (Kn.int .i64)) 8 hS (row_src (hS.row_at (i := 1) rfl)) c175 c173) ?_
           rintro _ u178 a ⟨A176, c177, rfl, hS, hz⟩ hE
           refine plc hE (.r 5 1 .nil) (fun a hE => ?_)
           replace hS := hS.front 6 rfl
           refine ple hE (.sto hS [.bool y67, .int .i64 0, .slice A176 ((l140 ++ [(nth 0 t129 x137)]).length) c177, .slice A68 l70.length c69]) ?_
           rintro _ u179 a ⟨rfl, hb43, hS, hz⟩ hE
           refine pld ?_
           refine block_n ?_
           refine hK148 _ _ (pl0 (plc hE (.r 0 2 .nil) (fun a hE => pld ?_)))
           replace hS := hS.front 2 rfl
           replace hS := hS.tail
           replace hS := hS.front 1 rfl
           replace hS := hS.front 7 rfl
           replace hS := hS.front 7 rfl
           replace hS := hS.front 3 rfl
           replace hS := hS.front 7 rfl
           replace hS := hS.front 7 rfl
           replace hS := hS.front 7 rfl
           replace hS := hS.front 7 rfl
           exact then_n ⟨k167, by omega, _, (w64 (x137 + 1)), A176, c177, (l140 ++ [(nth 0 t129 x137)]), by omega, hE, .of, hS, H⟩
          ·
           replace hE := hE.bf 90 c170
           refine cf hE (wp_skip ?_)
           refine block_n ?_
           refine hK148 _ _ (pl0 (plc hE (.r 0 2 .nil) (fun a hE => pld ?_)))
           exact then_n ⟨k167, by omega, _, (w64 (x137 + 1)), A138, c139, l140, by omega, hE, .of, hS, H⟩
        refine pl0 (plc hE (.r 0 2 .nil) (fun a hE => ?_))
        obtain ⟨t158, h159, H⟩ := bd H
        refine ple hE (.cl en106 (quorum_Decide_2.calls k143 (nth 0 t129 x137) x2_ _ _ _ _ _ _ _ (Sub.refl _) (g2_0.mono hS.own.sub) (hS.blk_at (i := 2) rfl) (hS.blk_at (i := 0) rfl) h159)) ?_
        rintro _ u157 a ⟨_, rfl, hC⟩ hE
        replace hS := hS.lent hC
        refine plc hE (.r 3 1 .nil) (fun a hE => ?_)
        rcases sp H with ⟨c160, H⟩ | ⟨c160, H⟩
        ·
         replace hE := hE.bt 86 c160
         have hb2 := hS.blk_at (i := 3) rfl
         refine plc hE (.bn 4 0 7 hb2 <| .r 5 1 <| .nil) (fun a hE => ?_)
         obtain ⟨t162, h163, H⟩ := bd H
         refine ple hE (.cl en109 (quorum_up.calls k143 x0_ (nth 0 t129 x137) _ _ _ _ _ _ _ _ _ hS.own.sub g0_4 g0_5 g0_6 h163)) ?_
         rintro _ u161 a ⟨_, rfl, hC⟩ hE
         replace hS := hS.lent hC
         refine plc hE (.r 7 1 .nil) (fun a hE => pld ?_)
         exact J168 _ (by omega) _ t162 _ _ hE .of hS H
        ·
         replace hE := hE.bf 86 c160
         refine plc hE (.r 4 4 .nil) (fun a hE => pld ?_)
         exact J168 _ (by omega) _ false _ _ hE .of hS H
       ·
        replace hE := hE.kf 80 c147
        refine cf hE ?_
        refine wp_exit ?_
        refine hK125 _ _ (wp_seq_k fun K181 hK181 => ?_)
        have J196 : ∀ kq194, kq194 ≤ k143 → ∀ (G : Nat → Value) (x192 : Int) (a : Act) (w' : World), Env 109 G a → At G [(6, .pointer (some ⟨b6, 0, none⟩)), (11, .pointer (some ⟨b43, 0, none⟩))] → St W (mine W []) F w' F131 [box b43 #[.bool y67, .int .i64 x192, .slice A138 l140.length c139, .slice A68 l70.length c69] 74, box b28 #[.func (.func 104) #[] #[.pointer (some ⟨b4, 0, none⟩)]] 129, box b6 #[.bool false, .int .i64 0, .slice none 0 0, .slice none 0 0] 74, box b4 #[.slice A2_0 x2_.length c2_0] 72, box b2 #[.int .i64 x0_.f0, .int .i64 x0_.f1, .int .i64 x0_.f2, .int .i64 x0_.f3, .slice A0_4 x0_.f4.length c0_4, .slice A0_5 x0_.f5.length c0_5, .slice A0_6 x0_.f6.length c0_6] 26, row (Kn.int .i64) 3 (.slice A68 l70.length c69) l70, row (Kn.int .i64) 3 (.slice A138 l140.length c139) l140] → quorum_Decide.j193 kq194 y67 l70 l140 x192 = some r → K181 a w' := by
         intro kq194 hkq G x192 a u197 hE hA hS H
         cases kq194 with
         | zero => cases (show none = some r from H)
         | succ k195 =>
          rw [quorum_Decide.j193_s] at H
          obtain ⟨J, hE⟩ := hE.at hA
          refine hK181 _ _ (wp_seq_k fun K198 hK198 => pl0 ?_)
          have hb43 := hS.blk_at (i := 0) rfl
          refine plc hE (.bn 0 0 4 hb43 .nil) (fun a hE => ?_)
          replace hS := hS.front 2 rfl
          refine ple hE (.sto hS [.bool y67, .int .i64 x192, .slice A138 l140.length c139, .slice A68 l70.length c69]) ?_
          rintro _ u199 a ⟨rfl, hb6, hS, hz⟩ hE
          refine plc hE (.r 2 1 .nil) (fun a hE => pld (hK198 _ _ (wp_ret ?_)))
          replace hS := hS.tail
          replace hS := hS.tail
          replace hS := hS.tail
          replace hS := hS.tail
          replace hS := hS.tail
          replace hS := hS.front 1 rfl
          obtain rfl := si H
          exact retN hE rfl (of_decide_eq_true rfl) (.cell (by kernel_rfl) (res_blk [.bool y67, .int .i64 x192, .slice A138 l140.length c139, .slice A68 l70.length c69] ag74 sz74 hb6 rfl) (.tmp (by kernel_rfl) .nil)) ⟨_, rfl, _, _, _, _, _, rfl, hS⟩
        refine wp_seq_k fun K182 hK182 => pl0 ?_
        have hb43 := hS.blk_at (i := 4) rfl
        refine plc hE (.r 0 1 <| .b 1 0 hb43 <| .nil) (fun a hE => pld (hK182 _ _ ?_))
        rcases sp H with ⟨c183, H⟩ | ⟨c183, H⟩
        ·
         replace hE := hE.bt 99 c183
         refine ct hE (wp_seq_k fun K184 hK184 => pl0 ?_)
         have hb4 := hS.blk_at (i := 2) rfl
         refine plc hE (.b 0 0 hb4 .nil) (fun a hE => ?_)
         obtain ⟨t186, h187, H⟩ := bd H
         refine ple hE (.cl en57 (quorum_Best.calls k143 x2_ _ _ _ _ _ hS.own.sub g2_0 h187)) ?_
         rintro _ u185 a ⟨_, rfl, hC⟩ hE
         replace hS := hS.lent hC
         refine plc hE (.r 2 3 .nil) (fun a hE => ple hE (.al (t := 86) hS [.int .i64 0, .int .i64 0, .int .i64 0, .int .i64 0, .int .i64 0]) ?_)
         rintro _ u189 a ⟨b188, rfl, hb188, hS, hg⟩ hE
         refine ple hE (.sto hS [.int .i64 t186.1.f0, .int .i64 t186.1.f1, .int .i64 t186.1.f2, .int .i64 t186.1.f3, .int .i64 t186.1.f4]) ?_
         rintro _ u190 a ⟨rfl, hb188, hS, hz⟩ hE
         refine plc hE (.r 7 1 .nil) (fun a hE => pld (hK184 _ _ (pl0 (plc hE (.r 0 1 <| .b 1 0 hb188 <| .r 2 1 <| .nil) (fun a hE => ?_)))))
         replace hS := hS.front 5 rfl
         refine ple hE (.sto hS [.bool y67, .int .i64 t186.1.f0, .slice A138 l140.length c139, .slice A68 l70.length c69]) ?_
         rintro _ u191 a ⟨rfl, hb43, hS, hz⟩ hE
         refine pld ?_
         replace hS := hS.front 1 rfl
         replace hS := hS.tail
         replace hS := hS.front 5 rfl
         replace hS := hS.tail
         exact J196 _ (by omega) _ t186.1.f0 _ _ hE .of hS H
        ·
         replace hE := hE.bf 99 c183
         refine cf hE (wp_skip ?_)
         replace hS := hS.front 5 rfl
         replace hS := hS.tail
         replace hS := hS.front 6 rfl
         replace hS := hS.front 6 rfl
         replace hS := hS.front 5 rfl
         replace hS := hS.front 5 rfl
         replace hS := hS.front 5 rfl
         replace hS := hS.front 5 rfl
         replace hS := hS.front 6 rfl
         exact J196 _ (by omega) _ 0 _ _ hE .of hS H
  refine pl0 ?_
  have hb2 := hS.blk_at (i := 4) rfl
  refine plc hE (.r 0 3 <| .b 3 2 hb2 <| .r 4 2 <| .nil) (fun a hE => ?_)
  rcases sp H with ⟨c33, H⟩ | ⟨c33, H⟩
  ·
   replace hE := hE.kt 35 c33
   refine plc hE (.r 6 2 .nil) (fun a hE => ?_)
   obtain ⟨t35, h36, H⟩ := bd H
   refine ple hE (.cl en107 (slices_ContainsFunc__int_int_of_quorum_Decide_2.calls k t20 x2_ _ _ _ _ _ _ _ _ _ (Sub.refl _) (hS.rd_at (i := 1) rfl) (g2_0.mono hS.own.sub) (hS.blk_at (i := 3) rfl) (hS.blk_at (i := 0) rfl) h36)) ?_
   rintro _ u34 a ⟨_, rfl, hC⟩ hE
   replace hS := hS.lent hC
   refine plc hE (.r 9 3 .nil) (fun a hE => ple hE (.al (t := 74) hS [.bool false, .int .i64 0, .slice none 0 0, .slice none 0 0]) ?_)
   rintro _ u38 a ⟨b37, rfl, hb37, hS, hg⟩ hE
   refine ple hE (.sto hS [.bool (!t35), .int .i64 0, .slice none 0 0, .slice none 0 0]) ?_
   rintro _ u39 a ⟨rfl, hb37, hS, hz⟩ hE
   refine pld ?_
   replace hS := hS.front 2 rfl
   replace hS := hS.front 1 rfl
   replace hS := hS.front 5 rfl
   replace hS := hS.front 5 rfl
   replace hS := hS.front 5 rfl
   replace hS := hS.front 5 rfl
   exact J48 _ (by omega) _ b37 (!t35) _ _ hE .of hS H
  ·
   replace hE := hE.kf 35 c33
   refine plc hE (.r 6 6 .nil) (fun a hE => ple hE (.al (t := 74) hS [.bool false, .int .i64 0, .slice none 0 0, .slice none 0 0]) ?_)
   rintro _ u41 a ⟨b40, rfl, hb40, hS, hg⟩ hE
   refine ple hE (.sto hS [.bool false, .int .i64 0, .slice none 0 0, .slice none 0 0]) ?_
   rintro _ u42 a ⟨rfl, hb40, hS, hz⟩ hE
   refine pld ?_
   replace hS := hS.front 2 rfl
   replace hS := hS.front 1 rfl
   replace hS := hS.front 5 rfl
   replace hS := hS.front 5 rfl
   replace hS := hS.front 5 rfl
   replace hS := hS.front 5 rfl
   exact J48 _ (by omega) _ b40 false _ _ hE .of hS H
 ·
  replace hE := hE.bfn 23 c13
  refine ct hE (wp_seq_k fun K14 hK14 => pl0 (plc hE (.r 0 1 .nil) (fun a hE => ple hE (.sto hS [.bool false, .int .i64 0, .slice none 0 0, .slice none 0 0]) ?_)))
  rintro _ u15 a ⟨rfl, hb6, hS, hz⟩ hE
  refine plc hE (.r 2 1 .nil) (fun a hE => pld (hK14 _ _ (wp_ret (then_ret ?_))))
  replace hS := hS.nilrow (Kn.int .i64) 3
  replace hS := hS.nilrow (Kn.int .i64) 3
  replace hS := hS.front 2 rfl
  replace hS := hS.tail
  replace hS := hS.front 2 rfl
  replace hS := hS.tail
  replace hS := hS.front 2 rfl
  replace hS := hS.tail
  replace hS := hS.front 1 rfl
  obtain rfl := si H
  exact retN hE rfl (of_decide_eq_true rfl) (.cell (by kernel_rfl) (res_blk [.bool false, .int .i64 0, .slice none 0 0, .slice none 0 0] ag74 sz74 hb6 rfl) (.tmp (by kernel_rfl) .nil)) ⟨_, rfl, _, _, _, _, _, rfl, hS⟩

/-! ### windrose/windroseref02.Ints: function 21 -/
def windroseref02_Ints.l9 : Nat → List Int → List Int → Int → Option Bool
  | 0, _, _, _ => none
  | k + 1, x0_, x1_, x8 => if x8 < (x0_.length : Int) then (if 0 ≤ x8 ∧ x8 < (x0_.length : Int) then (if 0 ≤ x8 ∧ x8 < (x1_.length : Int) then (if (nth 0 x0_ x8) = (nth 0 x1_ x8) then (windroseref02_Ints.l9 k x0_ x1_ (w64 (x8 + 1))) else (some false)) else (none)) else (none)) else (some true)
theorem windroseref02_Ints.l9_s (k : Nat) (x0_ : List Int) (x1_ : List Int) (x8 : Int) : windroseref02_Ints.l9 (k + 1) x0_ x1_ x8 = (if x8 < (x0_.length : Int) then (if 0 ≤ x8 ∧ x8 < (x0_.length : Int) then (if 0 ≤ x8 ∧ x8 < (x1_.length : Int) then (if (nth 0 x0_ x8) = (nth 0 x1_ x8) then (windroseref02_Ints.l9 k x0_ x1_ (w64 (x8 + 1))) else (some false)) else (none)) else (none)) else (some true)) := by kernel_rfl
def windroseref02_Ints.f (k : Nat) (x0_ : List Int) (x1_ : List Int) : Option Bool := if (x0_.length : Int) = (x1_.length : Int) then (windroseref02_Ints.l9 k x0_ x1_ 0) else (some false)
def windroseref02_Ints.Post (W F : World) (r : Bool) (v : Value) (w' : World) : Prop := ∃ (F' : World), v = .bool r ∧ St W (mine W []) F w' F' []
theorem windroseref02_Ints.calls (k : Nat) (x0_ : List Int) (x1_ : List Int) (A0_0 : Option Addr) (c0_0 : Nat) (A1_0 : Option Addr) (c1_0 : Nat) (r : Bool) (W F : World) (hown : Sub F W) (g0_0 : Rd (Kn.int .i64) F A0_0 c0_0 x0_) (g1_0 : Rd (Kn.int .i64) F A1_0 c1_0 x1_) (H : windroseref02_Ints.f k x0_ x1_ = some r) :
    Calls Tryz.prog 21 #[.slice A0_0 x0_.length c0_0, .slice A1_0 x1_.length c1_0] W fun e w' => ∃ v, e = .returned v ∧ windroseref02_Ints.Post W F r v w' := by
 have hS := St.start (Own.nil hown)
 unfold windroseref02_Ints.f at H
 refine enter (n := 26) rfl rfl rfl (Nat.le_of_ble_eq_true rfl) (fun a hE => ?_)
 refine wp_seq_k fun K1 hK1 => pl0 (plc hE (.r 0 1 .nil) (fun a hE => pld (hK1 _ _ (wp_seq_k fun K2 hK2 => wp_seq_k fun K3 hK3 => pl0 (plc hE (.r 0 5 .nil) (fun a hE => pld (hK3 _ _ ?_)))))))
 rcases sp H with ⟨c4, H⟩ | ⟨c4, H⟩
 ·
  replace hE := hE.ktn 10 c4
  refine cf hE (wp_skip (hK2 _ _ (wp_seq_k fun K6 hK6 => wp_seq_k fun K7 hK7 => pl0 (plc hE (.r 0 1 .nil) (fun a hE => pld (hK7 _ _ (wp_block ?_)))))))
  refine wp_loop_ghost (fun kq10 a w' => ∃ (G : Nat → Value) (x8 : Int), kq10 ≤ k ∧ Env 26 G a ∧ At G [(0, .slice A0_0 x0_.length c0_0), (1, .slice A1_0 x1_.length c1_0), (5, .int .i64 x8)] ∧ St W (mine W []) F w' F [] ∧  windroseref02_Ints.l9 kq10 x0_ x1_ x8 = some r) k ⟨_, 0, Nat.le_refl _, hE, .of, hS, H⟩ ?_
  rintro kq10 a u12 ⟨G, x8, hkq, hE, hA, hS, H⟩
  cases kq10 with
  | zero => cases (show none = some r from H)
  | succ k11 =>
   rw [windroseref02_Ints.l9_s] at H
   obtain ⟨J, hE⟩ := hE.at hA
   refine wp_seq_k fun K13 hK13 => wp_seq_k fun K14 hK14 => pl0 (plc hE (.r 0 4 .nil) (fun a hE => pld (hK14 _ _ ?_)))
   rcases sp H with ⟨c15, H⟩ | ⟨c15, H⟩
   ·
    replace hE := hE.kt 14 c15
    refine ct hE (wp_skip (hK13 _ _ (wp_seq_k fun K16 hK16 => wp_block (wp_seq_k fun K17 hK17 => ?_))))
    refine drawn 9 ⟨[], [], fun q => False⟩ mixed rfl (by kernel_rfl) (fun hst => ?_)
    replace hS := hS.drew
    obtain ⟨c18, H⟩ := gd H
    have hE_ := hE
    obtain ⟨ad19, rfl⟩ := g0_0.addr c18.1 c18.2
    replace hE := hE_
    obtain ⟨cs21, rfl, hc22⟩ := g0_0.el 0 x8 c18.1 c18.2
    obtain ⟨c23, H⟩ := gd H
    have hE_ := hE
    obtain ⟨ad24, rfl⟩ := g1_0.addr c23.1 c23.2
    replace hE := hE_
    obtain ⟨cs26, rfl, hc27⟩ := g1_0.el 0 x8 c23.1 c23.2
    refine mny 0 hst hE (.r 0 2 <| .x 2 c18 <| .c 3 (hS.fc hc22 0) <| .r 4 2 <| .x 6 c23 <| .c 7 (hS.fc hc27 0) <| .r 8 1 <| .nil) (fun a hE => ?_)
    refine dn ?_
    refine hK17 _ _ ?_
    rcases sp H with ⟨c28, H⟩ | ⟨c28, H⟩
    ·
     replace hE := hE.ktn 25 c28
     refine cf hE (wp_skip ?_)
     refine block_n ?_
     refine hK16 _ _ (pl0 (plc hE (.r 0 3 .nil) (fun a hE => pld ?_)))
     exact then_n ⟨k11, by omega, _, (w64 (x8 + 1)), by omega, hE, .of, hS, H⟩
    ·
     replace hE := hE.kfn 25 c28
     refine ct hE (wp_seq_k fun K29 hK29 => pl0 (plc hE (.r 0 1 .nil) (fun a hE => pld (hK29 _ _ (wp_ret (block_ret (then_ret (then_ret (block_ret (then_ret ?_))))))))))
     obtain rfl := si H
     exact rt1 hE ⟨_, rfl, _, rfl, hS⟩
   ·
    replace hE := hE.kf 14 c15
    refine cf hE ?_
    refine wp_exit ?_
    refine hK6 _ _ (wp_seq_k fun K30 hK30 => pl0 (plc hE (.r 0 1 .nil) (fun a hE => pld (hK30 _ _ (wp_ret ?_)))))
    obtain rfl := si H
    exact rt1 hE ⟨_, rfl, _, rfl, hS⟩
 ·
  replace hE := hE.kfn 10 c4
  refine ct hE (wp_seq_k fun K5 hK5 => pl0 (plc hE (.r 0 1 .nil) (fun a hE => pld (hK5 _ _ (wp_ret (then_ret ?_))))))
  obtain rfl := si H
  exact rt1 hE ⟨_, rfl, _, rfl, hS⟩

/-! ### windrose/windroselaw29.awake: function 49 -/
def windroselaw29_awake.f (k : Nat) : Option Bool := (maps_New.f k 2 1 1).bind fun t4 => ((maps_Apply.f k t4.1 (⟨1, 5, 1, 1, 3, 0, []⟩ : T_api_Delta)).bind fun t24 => ((maps_Apply.f k t24.1 (⟨3, 5, 0, 0, 0, 0, []⟩ : T_api_Delta)).bind fun t42 => ((quorum_Decide.f k t42.1 0 []).bind fun t60 => ((quorum_Decide.f k t42.1 0 [(⟨5, 0, 0, 0, 0⟩ : T_api_Info)]).bind fun t82 => (if t60.2 = 0 then (if t82.2 = 0 then (if t60.1.f0 = true then (some false) else ((windroseref02_Ints.f k t60.1.f2 [5]).bind fun t105 => (if t105 = true then (if t82.1.f0 = true then (some (t82.1.f1 == 5)) else (some false)) else (some false)))) else (some false)) else (some false))))))
def windroselaw29_awake.Post (W F : World) (r : Bool) (v : Value) (w' : World) : Prop := ∃ (F' : World), v = .bool r ∧ St W (mine W []) F w' F' []
theorem windroselaw29_awake.calls (k : Nat) (r : Bool) (W F : World) (hown : Sub F W) (H : windroselaw29_awake.f k = some r) :
    Calls Tryz.prog 49 #[] W fun e w' => ∃ v, e = .returned v ∧ windroselaw29_awake.Post W F r v w' := by
 have hS := St.start (Own.nil hown)
 unfold windroselaw29_awake.f at H
 refine enter (n := 61) rfl rfl rfl (Nat.le_of_ble_eq_true rfl) (fun a hE => ?_)
 refine wp_seq_k fun K1 hK1 => pl0 (plc hE (.r 0 1 .nil) (fun a hE => pld (hK1 _ _ (wp_seq_k fun K2 hK2 => pl0 ?_))))
 obtain ⟨t4, h5, H⟩ := bd H
 refine ple hE (.cl en15 (maps_New.calls k 2 1 1 _ _ _ hS.own.sub h5)) ?_
 rintro _ u3 a ⟨F6, A7, c8, A10, c11, A13, c14, rfl, hC, g9, g12⟩ hE
 have hs := hC.sub
 replace hS := hS.called (X := []) hC
 refine plc hE (.r 1 3 .nil) (fun a hE => ple hE (.al (t := 26) hS [.int .i64 0, .int .i64 0, .int .i64 0, .int .i64 0, .slice none 0 0, .slice none 0 0, .slice none 0 0]) ?_)
 rintro _ u18 a ⟨b17, rfl, hb17, hS, hg⟩ hE
 refine ple hE (.sto hS [.int .i64 t4.1.f0, .int .i64 t4.1.f1, .int .i64 t4.1.f2, .int .i64 t4.1.f3, .slice A7 t4.1.f4.length c8, .slice A10 t4.1.f5.length c11, .slice A13 t4.1.f6.length c14]) ?_
 rintro _ u19 a ⟨rfl, hb17, hS, hz⟩ hE
 refine plc hE (.r 6 1 .nil) (fun a hE => pld (hK2 _ _ (wp_seq_k fun K20 hK20 => pl0 (plc hE (.bn 0 0 7 hb17 <| .r 1 1 <| .nil) (fun a hE => ?_)))))
 replace hS := hS.front 1 rfl
 obtain ⟨F21, hs, g22, hS⟩ := hS.give
 replace g9 := g9.mono hs
 replace g12 := g12.mono hs
 obtain ⟨t24, h25, H⟩ := bd H
 refine ple hE (.cl en26 (maps_Apply.calls k t4.1 (⟨1, 5, 1, 1, 3, 0, []⟩ : T_api_Delta) _ _ _ _ _ _ _ _ _ _ _ hS.own.sub g9 g12 g22 (Rd.nil _ _) h25)) ?_
 rintro _ u23 a ⟨F26, A27, c28, A30, c31, A33, c34, rfl, hC, g29, g32⟩ hE
 have hs := hC.sub
 replace hS := hS.called (X := []) hC
 replace g9 := g9.mono hs
 replace g12 := g12.mono hs
 replace g22 := g22.mono hs
 refine plc hE (.r 3 3 .nil) (fun a hE => ?_)
 replace hS := hS.front 1 rfl
 refine ple hE (.sto hS [.int .i64 t24.1.f0, .int .i64 t24.1.f1, .int .i64 t24.1.f2, .int .i64 t24.1.f3, .slice A27 t24.1.f4.length c28, .slice A30 t24.1.f5.length c31, .slice A33 t24.1.f6.length c34]) ?_
 rintro _ u37 a ⟨rfl, hb17, hS, hz⟩ hE
 refine pld (hK20 _ _ (wp_seq_k fun K38 hK38 => pl0 (plc hE (.bn 0 0 7 hb17 <| .r 1 1 <| .nil) (fun a hE => ?_))))
 replace hS := hS.front 1 rfl
 obtain ⟨F39, hs, g40, hS⟩ := hS.give
 replace g9 := g9.mono hs
 replace g12 := g12.mono hs
 replace g22 := g22.mono hs
 replace g29 := g29.mono hs
 replace g32 := g32.mono hs
 obtain ⟨t42, h43, H⟩ := bd H
 refine ple hE (.cl en26 (maps_Apply.calls k t24.1 (⟨3, 5, 0, 0, 0, 0, []⟩ : T_api_Delta) _ _ _ _ _ _ _ _ _ _ _ hS.own.sub g29 g32 g40 (Rd.nil _ _) h43)) ?_
 rintro _ u41 a ⟨F44, A45, c46, A48, c49, A51, c52, rfl, hC, g47, g50⟩ hE
 have hs := hC.sub
 replace hS := hS.called (X := []) hC
 replace g9 := g9.mono hs
 replace g12 := g12.mono hs
 replace g22 := g22.mono hs
 replace g29 := g29.mono hs
 replace g32 := g32.mono hs
 replace g40 := g40.mono hs
 refine plc hE (.r 3 3 .nil) (fun a hE => ?_)
 replace hS := hS.front 1 rfl
 refine ple hE (.sto hS [.int .i64 t42.1.f0, .int .i64 t42.1.f1, .int .i64 t42.1.f2, .int .i64 t42.1.f3, .slice A45 t42.1.f4.length c46, .slice A48 t42.1.f5.length c49, .slice A51 t42.1.f6.length c52]) ?_
 rintro _ u55 a ⟨rfl, hb17, hS, hz⟩ hE
 refine pld (hK38 _ _ (wp_seq_k fun K56 hK56 => pl0 (plc hE (.bn 0 0 7 hb17 .nil) (fun a hE => ?_))))
 replace hS := hS.front 1 rfl
 obtain ⟨F57, hs, g58, hS⟩ := hS.give
 replace g9 := g9.mono hs
 replace g12 := g12.mono hs
 replace g22 := g22.mono hs
 replace g29 := g29.mono hs
 replace g32 := g32.mono hs
 replace g40 := g40.mono hs
 replace g47 := g47.mono hs
 replace g50 := g50.mono hs
 obtain ⟨t60, h61, H⟩ := bd H
 refine ple hE (.cl en50 (quorum_Decide.calls k t42.1 0 [] _ _ _ _ _ _ _ _ _ _ _ hS.own.sub g47 g50 g58 (Rd.nil _ _) h61)) ?_
 rintro _ u59 a ⟨F62, A63, c64, A67, c68, rfl, hC⟩ hE
 have hs := hC.sub
 replace hS := hS.called (X := []) hC
 replace g9 := g9.mono hs
 replace g12 := g12.mono hs
 replace g22 := g22.mono hs
 replace g29 := g29.mono hs
 replace g32 := g32.mono hs
 replace g40 := g40.mono hs
 replace g47 := g47.mono hs
 replace g50 := g50.mono hs
 replace g58 := g58.mono hs
 refine plc hE (.r 2 3 .nil) (fun a hE => ple hE (.al (t := 74) hS [.bool false, .int .i64 0, .slice none 0 0, .slice none 0 0]) ?_)
 rintro _ u72 a ⟨b71, rfl, hb71, hS, hg⟩ hE
 refine ple hE (.sto hS [.bool t60.1.f0, .int .i64 t60.1.f1, .slice A63 t60.1.f2.length c64, .slice A67 t60.1.f3.length c68]) ?_
 rintro _ u73 a ⟨rfl, hb71, hS, hz⟩ hE
 refine plc hE (.r 7 1 .nil) (fun a hE => pld (hK56 _ _ (wp_seq_k fun K74 hK74 => pl0 ?_)))
 have hb17 := hS.blk_at (i := 3) rfl
 refine plc hE (.bn 0 0 7 hb17 <| .r 1 1 <| .nil) (fun a hE => ple hE (.lit (d := T_api_Info.k) (e := 86) hS [(⟨5, 0, 0, 0, 0⟩ : T_api_Info)] (.cons rfl .nil)) ?_)
 rintro _ u75 a ⟨A76, c77, rfl, hS, hg⟩ hE
 obtain ⟨F79, hs, g80, hS⟩ := hS.give
 replace g9 := g9.mono hs
 replace g12 := g12.mono hs
 replace g22 := g22.mono hs
 replace g29 := g29.mono hs
 replace g32 := g32.mono hs
 replace g40 := g40.mono hs
 replace g47 := g47.mono hs
 replace g50 := g50.mono hs
 replace g58 := g58.mono hs
 obtain ⟨t82, h83, H⟩ := bd H
 refine ple hE (.cl en50 (quorum_Decide.calls k t42.1 0 [(⟨5, 0, 0, 0, 0⟩ : T_api_Info)] _ _ _ _ _ _ _ _ _ _ _ hS.own.sub g47 g50 g58 g80 h83)) ?_
 rintro _ u81 a ⟨F84, A85, c86, A89, c90, rfl, hC⟩ hE
 have hs := hC.sub
 replace hS := hS.called (X := []) hC
 replace g9 := g9.mono hs
 replace g12 := g12.mono hs
 replace g22 := g22.mono hs
 replace g29 := g29.mono hs
 replace g32 := g32.mono hs
 replace g40 := g40.mono hs
 replace g47 := g47.mono hs
 replace g50 := g50.mono hs
 replace g58 := g58.mono hs
 replace g80 := g80.mono hs
 refine plc hE (.r 4 3 .nil) (fun a hE => ple hE (.al (t := 74) hS [.bool false, .int .i64 0, .slice none 0 0, .slice none 0 0]) ?_)
 rintro _ u94 a ⟨b93, rfl, hb93, hS, hg⟩ hE
 refine ple hE (.sto hS [.bool t82.1.f0, .int .i64 t82.1.f1, .slice A85 t82.1.f2.length c86, .slice A89 t82.1.f3.length c90]) ?_
 rintro _ u95 a ⟨rfl, hb93, hS, hz⟩ hE
 refine plc hE (.r 9 1 .nil) (fun a hE => pld (hK74 _ _ (wp_seq_k fun K96 hK96 => pl0 (plc hE (.r 0 3 .nil) (fun a hE => ?_)))))
 rcases sp H with ⟨c97, H⟩ | ⟨c97, H⟩
 ·
  replace hE := hE.kt 37 c97
  refine plc hE (.r 3 4 .nil) (fun a hE => ?_)
  rcases sp H with ⟨c98, H⟩ | ⟨c98, H⟩
  ·
   replace hE := hE.kt 41 c98
   have hb71 := hS.blk_at (i := 3) rfl
   refine plc hE (.r 7 1 <| .b 8 0 hb71 <| .r 9 3 <| .nil) (fun a hE => ?_)
   rcases sp H with ⟨c99, H⟩ | ⟨c99, H⟩
   ·
    replace hE := hE.btn 46 c99
    refine plc hE (.r 12 15 .nil) (fun a hE => pld (hK96 _ _ (wp_ret ?_)))
    replace hS := hS.tail
    replace hS := hS.tail
    replace hS := hS.tail
    replace hS := hS.tail
    replace hS := hS.tail
    replace hS := hS.tail
    replace hS := hS.tail
    obtain rfl := si H
    exact rt1 hE ⟨_, rfl, _, rfl, hS⟩
   ·
    replace hE := hE.bfn 46 c99
    refine plc hE (.r 12 1 <| .b 13 2 hb71 <| .nil) (fun a hE => ple hE (.lit (d := (Kn.int .i64)) (e := 3) hS [5] (.cons rfl .nil)) ?_)
    rintro _ u100 a ⟨A101, c102, rfl, hS, hg⟩ hE
    obtain ⟨t105, h106, H⟩ := bd H
    refine ple hE (.cl en21 (windroseref02_Ints.calls k t60.1.f2 [5] _ _ _ _ _ _ _ (Sub.refl _) (hS.rd_at (i := 5) rfl) (hS.rd_at (i := 0) rfl) h106)) ?_
    rintro _ u104 a ⟨_, rfl, hC⟩ hE
    replace hS := hS.lent hC
    refine plc hE (.r 16 2 .nil) (fun a hE => ?_)
    rcases sp H with ⟨c107, H⟩ | ⟨c107, H⟩
    ·
     replace hE := hE.bt 52 c107
     have hb93 := hS.blk_at (i := 1) rfl
     refine plc hE (.r 18 1 <| .b 19 0 hb93 <| .r 20 2 <| .nil) (fun a hE => ?_)
     rcases sp H with ⟨c108, H⟩ | ⟨c108, H⟩
     ·
      replace hE := hE.bt 56 c108
      refine plc hE (.r 22 1 <| .b 23 1 hb93 <| .r 24 3 <| .nil) (fun a hE => pld (hK96 _ _ (wp_ret ?_)))
      replace hS := hS.tail
      replace hS := hS.tail
      replace hS := hS.tail
      replace hS := hS.tail
      replace hS := hS.tail
      replace hS := hS.tail
      replace hS := hS.tail
      replace hS := hS.tail
      obtain rfl := si H
      exact rt1 hE ⟨_, rfl, _, rfl, hS⟩
     ·
      replace hE := hE.bf 56 c108
      refine plc hE (.r 22 5 .nil) (fun a hE => pld (hK96 _ _ (wp_ret ?_)))
      replace hS := hS.tail
      replace hS := hS.tail
      replace hS := hS.tail
      replace hS := hS.tail
      replace hS := hS.tail
      replace hS := hS.tail
      replace hS := hS.tail
      replace hS := hS.tail
      obtain rfl := si H
      exact rt1 hE ⟨_, rfl, _, rfl, hS⟩
    ·
     replace hE := hE.bf 52 c107
     refine plc hE (.r 18 9 .nil) (fun a hE => pld (hK96 _ _ (wp_ret ?_)))
     replace hS := hS.tail
     replace hS := hS.tail
     replace hS := hS.tail
     replace hS := hS.tail
     replace hS := hS.tail
     replace hS := hS.tail
     replace hS := hS.tail
     replace hS := hS.tail
     obtain rfl := si H
     exact rt1 hE ⟨_, rfl, _, rfl, hS⟩
  ·
   replace hE := hE.kf 41 c98
   refine plc hE (.r 7 20 .nil) (fun a hE => pld (hK96 _ _ (wp_ret ?_)))
   replace hS := hS.tail
   replace hS := hS.tail
   replace hS := hS.tail
   replace hS := hS.tail
   replace hS := hS.tail
   replace hS := hS.tail
   replace hS := hS.tail
   obtain rfl := si H
   exact rt1 hE ⟨_, rfl, _, rfl, hS⟩
 ·
  replace hE := hE.kf 37 c97
  refine plc hE (.r 3 24 .nil) (fun a hE => pld (hK96 _ _ (wp_ret ?_)))
  replace hS := hS.tail
  replace hS := hS.tail
  replace hS := hS.tail
  replace hS := hS.tail
  replace hS := hS.tail
  replace hS := hS.tail
  replace hS := hS.tail
  obtain rfl := si H
  exact rt1 hE ⟨_, rfl, _, rfl, hS⟩

/-! ### windrose/windroseref29.May: function 59 -/
mutual
def windroseref29_May.l6 : Nat → List T_api_Info → Int → Option Bool
  | 0, _, _ => none
  | k + 1, x0_, x5 => if x5 < (x0_.length : Int) then (if 0 ≤ x5 ∧ x5 < (x0_.length : Int) then (if (nth T_api_Info.z x0_ x5).f0 < 1 then (windroseref29_May.j35 k x0_ x5 true) else (if (nth T_api_Info.z x0_ x5).f0 > 999 then (windroseref29_May.j35 k x0_ x5 true) else (if (nth T_api_Info.z x0_ x5).f1 < 0 then (windroseref29_May.j35 k x0_ x5 true) else (if (nth T_api_Info.z x0_ x5).f1 > 2147483647 then (windroseref29_May.j35 k x0_ x5 true) else (if (nth T_api_Info.z x0_ x5).f2 < 0 then (windroseref29_May.j35 k x0_ x5 true) else (if (nth T_api_Info.z x0_ x5).f2 > 2147483647 then (windroseref29_May.j35 k x0_ x5 true) else (if (nth T_api_Info.z x0_ x5).f3 < 0 then (windroseref29_May.j35 k x0_ x5 true) else (if (nth T_api_Info.z x0_ x5).f3 > 2147483647 then (windroseref29_May.j35 k x0_ x5 true) else (if (nth T_api_Info.z x0_ x5).f4 < 0 then (windroseref29_May.j35 k x0_ x5 true) else (windroseref29_May.j35 k x0_ x5 (decide ((nth T_api_Info.z x0_ x5).f4 > (nth T_api_Info.z x0_ x5).f3)))))))))))) else (none)) else (some (decide ((x0_.length : Int) ≤ 12)))
def windroseref29_May.j35 : Nat → List T_api_Info → Int → Bool → Option Bool
  | 0, _, _, _ => none
  | k + 1, x0_, x5, y34 => if y34 = true then (some false) else (windroseref29_May.l44 k x0_ x5 0)
def windroseref29_May.l44 : Nat → List T_api_Info → Int → Int → Option Bool
  | 0, _, _, _ => none
  | k + 1, x0_, x5, x43 => if x43 < x5 then (if 0 ≤ x43 ∧ x43 < (x0_.length : Int) then (if (nth T_api_Info.z x0_ x43).f0 = (nth T_api_Info.z x0_ x5).f0 then (some false) else (windroseref29_May.l44 k x0_ x5 (w64 (x43 + 1)))) else (none)) else (windroseref29_May.l6 k x0_ (w64 (x5 + 1)))
end
theorem windroseref29_May.l6_s (k : Nat) (x0_ : List T_api_Info) (x5 : Int) : windroseref29_May.l6 (k + 1) x0_ x5 = (if x5 < (x0_.length : Int) then (if 0 ≤ x5 ∧ x5 < (x0_.length : Int) then (if (nth T_api_Info.z x0_ x5).f0 < 1 then (windroseref29_May.j35 k x0_ x5 true) else (if (nth T_api_Info.z x0_ x5).f0 > 999 then (windroseref29_May.j35 k x0_ x5 true) else (if (nth T_api_Info.z x0_ x5).f1 < 0 then (windroseref29_May.j35 k x0_ x5 true) else (if (nth T_api_Info.z x0_ x5).f1 > 2147483647 then (windroseref29_May.j35 k x0_ x5 true) else (if (nth T_api_Info.z x0_ x5).f2 < 0 then (windroseref29_May.j35 k x0_ x5 true) else (if (nth T_api_Info.z x0_ x5).f2 > 2147483647 then (windroseref29_May.j35 k x0_ x5 true) else (if (nth T_api_Info.z x0_ x5).f3 < 0 then (windroseref29_May.j35 k x0_ x5 true) else (if (nth T_api_Info.z x0_ x5).f3 > 2147483647 then (windroseref29_May.j35 k x0_ x5 true) else (if (nth T_api_Info.z x0_ x5).f4 < 0 then (windroseref29_May.j35 k x0_ x5 true) else (windroseref29_May.j35 k x0_ x5 (decide ((nth T_api_Info.z x0_ x5).f4 > (nth T_api_Info.z x0_ x5).f3)))))))))))) else (none)) else (some (decide ((x0_.length : Int) ≤ 12)))) := by kernel_rfl
theorem windroseref29_May.j35_s (k : Nat) (x0_ : List T_api_Info) (x5 : Int) (y34 : Bool) : windroseref29_May.j35 (k + 1) x0_ x5 y34 = (if y34 = true then (some false) else (windroseref29_May.l44 k x0_ x5 0)) := by kernel_rfl
theorem windroseref29_May.l44_s (k : Nat) (x0_ : List T_api_Info) (x5 : Int) (x43 : Int) : windroseref29_May.l44 (k + 1) x0_ x5 x43 = (if x43 < x5 then (if 0 ≤ x43 ∧ x43 < (x0_.length : Int) then (if (nth T_api_Info.z x0_ x43).f0 = (nth T_api_Info.z x0_ x5).f0 then (some false) else (windroseref29_May.l44 k x0_ x5 (w64 (x43 + 1)))) else (none)) else (windroseref29_May.l6 k x0_ (w64 (x5 + 1)))) := by kernel_rfl
def windroseref29_May.f (k : Nat) (x0_ : List T_api_Info) : Option Bool := windroseref29_May.l6 k x0_ 0
def windroseref29_May.Post (W F : World) (r : Bool) (v : Value) (w' : World) : Prop := ∃ (F' : World), v = .bool r ∧ St W (mine W []) F w' F' []
theorem windroseref29_May.calls (k : Nat) (x0_ : List T_api_Info) (A0_0 : Option Addr) (c0_0 : Nat) (r : Bool) (W F : World) (hown : Sub F W) (g0_0 : Rd T_api_Info.k F A0_0 c0_0 x0_) (H : windroseref29_May.f k x0_ = some r) :
    Calls Tryz.prog 59 #[.slice A0_0 x0_.length c0_0] W fun e w' => ∃ v, e = .returned v ∧ windroseref29_May.Post W F r v w' := by
 have hS := St.start (Own.nil hown)
 unfold windroseref29_May.f at H
 refine enter (n := 86) rfl rfl rfl (Nat.le_of_ble_eq_true rfl) (fun a hE => ?_)
 refine wp_seq_k fun K1 hK1 => pl0 (plc hE (.r 0 1 .nil) (fun a hE => pld (hK1 _ _ (wp_seq_k fun K2 hK2 => pl0 (plc hE (.r 0 1 .nil) (fun a hE => pld (hK2 _ _ (wp_seq_k fun K3 hK3 => wp_seq_k fun K4 hK4 => pl0 (plc hE (.r 0 1 .nil) (fun a hE => pld (hK4 _ _ (wp_block ?_))))))))))))
 refine wp_loop_ghost (fun kq7 a w' => ∃ (G : Nat → Value) (x5 : Int), kq7 ≤ k ∧ Env 86 G a ∧ At G [(0, .slice A0_0 x0_.length c0_0), (3, .int .i64 2147483647), (4, .int .i64 x5)] ∧ St W (mine W []) F w' F [] ∧  windroseref29_May.l6 kq7 x0_ x5 = some r) k ⟨_, 0, Nat.le_refl _, hE, .of, hS, H⟩ ?_
 rintro kq7 a u9 ⟨G, x5, hkq, hE, hA, hS, H⟩
 cases kq7 with
 | zero => cases (show none = some r from H)
 | succ k8 =>
  rw [windroseref29_May.l6_s] at H
  obtain ⟨J, hE⟩ := hE.at hA
  refine wp_seq_k fun K10 hK10 => wp_seq_k fun K11 hK11 => pl0 (plc hE (.r 0 4 .nil) (fun a hE => pld (hK11 _ _ ?_)))
  rcases sp H with ⟨c12, H⟩ | ⟨c12, H⟩
  ·
   replace hE := hE.kt 10 c12
   refine ct hE (wp_skip (hK10 _ _ (wp_seq_k fun K13 hK13 => wp_block (wp_seq_k fun K14 hK14 => pl0 ?_))))
   obtain ⟨c15, H⟩ := gd H
   have hE_ := hE
   obtain ⟨ad16, rfl⟩ := g0_0.addr c15.1 c15.2
   replace hE := hE_
   obtain ⟨cs18, rfl, hc19⟩ := g0_0.el T_api_Info.z x5 c15.1 c15.2
   refine plc hE (.r 0 2 <| .x 2 c15 <| .cs 3 (hS.fcs hc19) <| .nil) (fun a hE => ple hE (.al (t := 86) hS [.int .i64 0, .int .i64 0, .int .i64 0, .int .i64 0, .int .i64 0]) ?_)
   rintro _ u21 a ⟨b20, rfl, hb20, hS, hg⟩ hE
   refine ple hE (.sto hS [.int .i64 ((nth T_api_Info.z x0_ x5).f0), .int .i64 ((nth T_api_Info.z x0_ x5).f1), .int .i64 ((nth T_api_Info.z x0_ x5).f2), .int .i64 ((nth T_api_Info.z x0_ x5).f3), .int .i64 ((nth T_api_Info.z x0_ x5).f4)]) ?_
   rintro _ u22 a ⟨rfl, hb20, hS, hz⟩ hE
   refine pld (hK14 _ _ (wp_seq_k fun K23 hK23 => wp_seq_k fun K24 hK24 => ?_))
   have J38 : ∀ kq36, kq36 ≤ k8 → ∀ (G : Nat → Value) (y34 : Bool) (a : Act) (w' : World), Env 86 G a → At G [(0, .slice (some ad16) x0_.length c0_0), (3, .int .i64 2147483647), (4, .int .i64 x5), (5, .pointer (some ⟨b20, 0, none⟩)), (69, .bool y34)] → St W (mine W []) F w' F [box b20 #[.int .i64 ((nth T_api_Info.z x0_ x5).f0), .int .i64 ((nth T_api_Info.z x0_ x5).f1), .int .i64 ((nth T_api_Info.z x0_ x5).f2), .int .i64 ((nth T_api_Info.z x0_ x5).f3), .int .i64 ((nth T_api_Info.z x0_ x5).f4)] 86] → windroseref29_May.j35 kq36 x0_ x5 y34 = some r → K24 a w' := by
    intro kq36 hkq G y34 a u39 hE hA hS H
    cases kq36 with
    | zero => cases (show none = some r from H)
    | succ k37 =>
     rw [windroseref29_May.j35_s] at H
     obtain ⟨J, hE⟩ := hE.at hA
     refine hK24 _ _ ?_
     rcases sp H with ⟨c40, H⟩ | ⟨c40, H⟩
     ·
      replace hE := hE.bt 69 c40
      refine ct hE (wp_seq_k fun K41 hK41 => pl0 (plc hE (.r 0 1 .nil) (fun a hE => pld (hK41 _ _ (wp_ret (then_ret (block_ret (then_ret (then_ret (block_ret (then_ret ?_)))))))))))
      replace hS := hS.tail
      obtain rfl := si H
      exact rt1 hE ⟨_, rfl, _, rfl, hS⟩
     ·
      replace hE := hE.bf 69 c40
      refine cf hE (wp_skip (hK23 _ _ (wp_seq_k fun K42 hK42 => pl0 (plc hE (.r 0 1 .nil) (fun a hE => pld (hK42 _ _ (wp_block ?_)))))))
      refine wp_loop_ghost (fun kq45 a w' => ∃ (G : Nat → Value) (x43 : Int), kq45 ≤ k37 ∧ Env 86 G a ∧ At G [(0, .slice (some ad16) x0_.length c0_0), (3, .int .i64 2147483647), (4, .int .i64 x5), (5, .pointer (some ⟨b20, 0, none⟩)), (6, .int .i64 x43)] ∧ St W (mine W []) F w' F [box b20 #[.int .i64 ((nth T_api_Info.z x0_ x5).f0), .int .i64 ((nth T_api_Info.z x0_ x5).f1), .int .i64 ((nth T_api_Info.z x0_ x5).f2), .int .i64 ((nth T_api_Info.z x0_ x5).f3), .int .i64 ((nth T_api_Info.z x0_ x5).f4)] 86] ∧  windroseref29_May.l44 kq45 x0_ x5 x43 = some r) k37 ⟨_, 0, Nat.le_refl _, hE, .of, hS, H⟩ ?_
      rintro kq45 a u47 ⟨G, x43, hkq, hE, hA, hS, H⟩
      cases kq45 with
      | zero => cases (show none = some r from H)
      | succ k46 =>
       rw [windroseref29_May.l44_s] at H
       obtain ⟨J, hE⟩ := hE.at hA
       refine wp_seq_k fun K48 hK48 => wp_seq_k fun K49 hK49 => pl0 (plc hE (.r 0 3 .nil) (fun a hE => pld (hK49 _ _ ?_)))
       rcases sp H with ⟨c50, H⟩ | ⟨c50, H⟩
       ·
        replace hE := hE.kt 72 c50
        refine ct hE (wp_skip (hK48 _ _ (wp_seq_k fun K51 hK51 => wp_block (wp_seq_k fun K52 hK52 => ?_))))
        refine drawn 8 ⟨[], [], fun q => False⟩ mixed rfl (by kernel_rfl) (fun hst => ?_)
        replace hS := hS.drew
        obtain ⟨c53, H⟩ := gd H
        obtain ⟨cs55, rfl, hc56⟩ := g0_0.el T_api_Info.z x43 c53.1 c53.2
        have hb20 := hS.blk_at (i := 0) rfl
        refine mny 0 hst hE (.r 0 2 <| .x 2 c53 <| .r 3 1 <| .c 4 (hS.fc hc56 0) <| .r 5 1 <| .b 6 0 hb20 <| .r 7 1 <| .nil) (fun a hE => ?_)
        refine dn ?_
        refine hK52 _ _ ?_
        rcases sp H with ⟨c57, H⟩ | ⟨c57, H⟩
        ·
         replace hE := hE.kt 82 c57
         refine ct hE (wp_seq_k fun K58 hK58 => pl0 (plc hE (.r 0 1 .nil) (fun a hE => pld (hK58 _ _ (wp_ret (block_ret (then_ret (then_ret (block_ret (block_ret (then_ret (then_ret (block_ret (then_ret ?_))))))))))))))
         replace hS := hS.tail
         obtain rfl := si H
         exact rt1 hE ⟨_, rfl, _, rfl, hS⟩
        ·
         replace hE := hE.kf 82 c57
         refine cf hE (wp_skip ?_)
         refine block_n ?_
         refine hK51 _ _ (pl0 (plc hE (.r 0 3 .nil) (fun a hE => pld ?_)))
         exact then_n ⟨k46, by omega, _, (w64 (x43 + 1)), by omega, hE, .of, hS, H⟩
       ·
        replace hE := hE.kf 72 c50
        refine cf hE ?_
        refine wp_exit ?_
        refine hK13 _ _ (pl0 (plc hE (.r 0 3 .nil) (fun a hE => pld ?_)))
        replace hS := hS.tail
        exact then_n ⟨k46, by omega, _, (w64 (x5 + 1)), by omega, hE, .of, hS, H⟩
   refine pl0 (plc hE (.r 0 1 <| .b 1 0 hb20 <| .r 2 2 <| .nil) (fun a hE => ?_))
   rcases sp H with ⟨c25, H⟩ | ⟨c25, H⟩
   ·
    replace hE := hE.kt 20 c25
    refine plc hE (.r 4 49 .nil) (fun a hE => pld ?_)
    exact J38 _ (by omega) _ true _ _ hE .of hS H
   ·
    replace hE := hE.kf 20 c25
    refine plc hE (.r 4 1 <| .b 5 0 hb20 <| .r 6 3 <| .nil) (fun a hE => ?_)
    rcases sp H with ⟨c26, H⟩ | ⟨c26, H⟩
    ·
     replace hE := hE.kt 25 c26
     refine plc hE (.r 9 44 .nil) (fun a hE => pld ?_)
     exact J38 _ (by omega) _ true _ _ hE .of hS H
    ·
     replace hE := hE.kf 25 c26
     refine plc hE (.r 9 1 <| .b 10 1 hb20 <| .r 11 3 <| .nil) (fun a hE => ?_)
     rcases sp H with ⟨c27, H⟩ | ⟨c27, H⟩
     ·
      replace hE := hE.kt 30 c27
      refine plc hE (.r 14 39 .nil) (fun a hE => pld ?_)
      exact J38 _ (by omega) _ true _ _ hE .of hS H
     ·
      replace hE := hE.kf 30 c27
      refine plc hE (.r 14 1 <| .b 15 1 hb20 <| .r 16 4 <| .nil) (fun a hE => ?_)
      rcases sp H with ⟨c28, H⟩ | ⟨c28, H⟩
      ·
       replace hE := hE.kt 36 c28
       refine plc hE (.r 20 33 .nil) (fun a hE => pld ?_)
       exact J38 _ (by omega) _ true _ _ hE .of hS H
      ·
       replace hE := hE.kf 36 c28
       refine plc hE (.r 20 1 <| .b 21 2 hb20 <| .r 22 3 <| .nil) (fun a hE => ?_)
       rcases sp H with ⟨c29, H⟩ | ⟨c29, H⟩
       ·
        replace hE := hE.kt 41 c29
        refine plc hE (.r 25 28 .nil) (fun a hE => pld ?_)
        exact J38 _ (by omega) _ true _ _ hE .of hS H
       ·
        replace hE := hE.kf 41 c29
        refine plc hE (.r 25 1 <| .b 26 2 hb20 <| .r 27 4 <| .nil) (fun a hE => ?_)
        rcases sp H with ⟨c30, H⟩ | ⟨c30, H⟩
        ·
         replace hE := hE.kt 47 c30
         refine plc hE (.r 31 22 .nil) (fun a hE => pld ?_)
         exact J38 _ (by omega) _ true _ _ hE .of hS H
        ·
         replace hE := hE.kf 47 c30
         refine plc hE (.r 31 1 <| .b 32 3 hb20 <| .r 33 3 <| .nil) (fun a hE => ?_)
         rcases sp H with ⟨c31, H⟩ | ⟨c31, H⟩
         ·
          replace hE := hE.kt 52 c31
          refine plc hE (.r 36 17 .nil) (fun a hE => pld ?_)
          exact J38 _ (by omega) _ true _ _ hE .of hS H
         ·
          replace hE := hE.kf 52 c31
          refine plc hE (.r 36 1 <| .b 37 3 hb20 <| .r 38 4 <| .nil) (fun a hE => ?_)
          rcases sp H with ⟨c32, H⟩ | ⟨c32, H⟩
          ·
           replace hE := hE.kt 58 c32
           refine plc hE (.r 42 11 .nil) (fun a hE => pld ?_)
           exact J38 _ (by omega) _ true _ _ hE .of hS H
          ·
           replace hE := hE.kf 58 c32
           refine plc hE (.r 42 1 <| .b 43 4 hb20 <| .r 44 3 <| .nil) (fun a hE => ?_)
           rcases sp H with ⟨c33, H⟩ | ⟨c33, H⟩
           ·
            replace hE := hE.kt 63 c33
            refine plc hE (.r 47 6 .nil) (fun a hE => pld ?_)
            exact J38 _ (by omega) _ true _ _ hE .of hS H
           ·
            replace hE := hE.kf 63 c33
            refine plc hE (.r 47 1 <| .b 48 4 hb20 <| .r 49 1 <| .b 50 3 hb20 <| .r 51 2 <| .nil) (fun a hE => pld ?_)
            exact J38 _ (by omega) _ (decide ((nth T_api_Info.z x0_ x5).f4 > (nth T_api_Info.z x0_ x5).f3)) _ _ hE .of hS H
  ·
   replace hE := hE.kf 10 c12
   refine cf hE ?_
   refine wp_exit ?_
   refine hK3 _ _ (wp_seq_k fun K59 hK59 => pl0 (plc hE (.r 0 4 .nil) (fun a hE => pld (hK59 _ _ (wp_ret ?_)))))
   obtain rfl := si H
   exact rt1 hE ⟨_, rfl, _, rfl, hS⟩

/-! ### windrose/quorum.Better: function 60 -/
def quorum_Better.f (k : Nat) (x0_ : T_api_Info) (x1_ : T_api_Info) : Option Bool := (quorum_compare.f k x0_ x1_).bind fun t8 => (some (decide (t8 < 0)))
def quorum_Better.Post (W F : World) (r : Bool) (v : Value) (w' : World) : Prop := ∃ (F' : World), v = .bool r ∧ St W (mine W []) F w' F' []
theorem quorum_Better.calls (k : Nat) (x0_ : T_api_Info) (x1_ : T_api_Info) (r : Bool) (W F : World) (hown : Sub F W) (H : quorum_Better.f k x0_ x1_ = some r) :
    Calls Tryz.prog 60 #[.agg #[.int .i64 x0_.f0, .int .i64 x0_.f1, .int .i64 x0_.f2, .int .i64 x0_.f3, .int .i64 x0_.f4], .agg #[.int .i64 x1_.f0, .int .i64 x1_.f1, .int .i64 x1_.f2, .int .i64 x1_.f3, .int .i64 x1_.f4]] W fun e w' => ∃ v, e = .returned v ∧ quorum_Better.Post W F r v w' := by
 have hS := St.start (Own.nil hown)
 unfold quorum_Better.f at H
 refine enter (n := 9) rfl rfl rfl (Nat.le_of_ble_eq_true rfl) (fun a hE => ?_)
 refine wp_seq_k fun K1 hK1 => pl0 (ple hE (.bx (t := 86) hS [.int .i64 x0_.f0, .int .i64 x0_.f1, .int .i64 x0_.f2, .int .i64 x0_.f3, .int .i64 x0_.f4]) ?_)
 rintro _ u3 a ⟨b2, rfl, hb2, hS, hg⟩ hE
 refine ple hE (.bx (t := 86) hS [.int .i64 x1_.f0, .int .i64 x1_.f1, .int .i64 x1_.f2, .int .i64 x1_.f3, .int .i64 x1_.f4]) ?_
 rintro _ u5 a ⟨b4, rfl, hb4, hS, hg⟩ hE
 refine plc hE (.r 2 1 .nil) (fun a hE => pld (hK1 _ _ (wp_seq_k fun K6 hK6 => pl0 ?_)))
 have hb2 := hS.blk_at (i := 1) rfl
 refine plc hE (.bn 0 0 5 hb2 <| .bn 1 0 5 hb4 <| .nil) (fun a hE => ?_)
 obtain ⟨t8, h9, H⟩ := bd H
 refine ple hE (.cl en115 (quorum_compare.calls k x0_ x1_ _ _ _ hS.own.sub h9)) ?_
 rintro _ u7 a ⟨_, rfl, hC⟩ hE
 replace hS := hS.lent hC
 refine plc hE (.r 3 2 .nil) (fun a hE => pld (hK6 _ _ (wp_ret ?_)))
 replace hS := hS.tail
 replace hS := hS.tail
 obtain rfl := si H
 exact rt1 hE ⟨_, rfl, _, rfl, hS⟩

/-! ### windrose/windroseref29.Better: function 61 -/
def windroseref29_Better.f (x0_ : T_api_Info) (x1_ : T_api_Info) : Option Bool := if x0_.f1 = x1_.f1 then (if x0_.f2 = x1_.f2 then (if x0_.f3 = x1_.f3 then (some (decide (x0_.f0 < x1_.f0))) else (some (decide (x0_.f3 > x1_.f3)))) else (some (decide (x0_.f2 > x1_.f2)))) else (some (decide (x0_.f1 > x1_.f1)))
def windroseref29_Better.Post (W F : World) (r : Bool) (v : Value) (w' : World) : Prop := ∃ (F' : World), v = .bool r ∧ St W (mine W []) F w' F' []
theorem windroseref29_Better.calls (x0_ : T_api_Info) (x1_ : T_api_Info) (r : Bool) (W F : World) (hown : Sub F W) (H : windroseref29_Better.f x0_ x1_ = some r) :
    Calls Tryz.prog 61 #[.agg #[.int .i64 x0_.f0, .int .i64 x0_.f1, .int .i64 x0_.f2, .int .i64 x0_.f3, .int .i64 x0_.f4], .agg #[.int .i64 x1_.f0, .int .i64 x1_.f1, .int .i64 x1_.f2, .int .i64 x1_.f3, .int .i64 x1_.f4]] W fun e w' => ∃ v, e = .returned v ∧ windroseref29_Better.Post W F r v w' := by
 have hS := St.start (Own.nil hown)
 unfold windroseref29_Better.f at H
 refine enter (n := 40) rfl rfl rfl (Nat.le_of_ble_eq_true rfl) (fun a hE => ?_)
 refine wp_seq_k fun K1 hK1 => pl0 (ple hE (.bx (t := 86) hS [.int .i64 x0_.f0, .int .i64 x0_.f1, .int .i64 x0_.f2, .int .i64 x0_.f3, .int .i64 x0_.f4]) ?_)
 rintro _ u3 a ⟨b2, rfl, hb2, hS, hg⟩ hE
 refine ple hE (.bx (t := 86) hS [.int .i64 x1_.f0, .int .i64 x1_.f1, .int .i64 x1_.f2, .int .i64 x1_.f3, .int .i64 x1_.f4]) ?_
 rintro _ u5 a ⟨b4, rfl, hb4, hS, hg⟩ hE
 refine plc hE (.r 2 1 .nil) (fun a hE => pld (hK1 _ _ (wp_seq_k fun K6 hK6 => wp_seq_k fun K7 hK7 => pl0 ?_)))
 have hb2 := hS.blk_at (i := 1) rfl
 refine plc hE (.r 0 1 <| .b 1 1 hb2 <| .r 2 1 <| .b 3 1 hb4 <| .r 4 1 <| .nil) (fun a hE => pld (hK7 _ _ ?_))
 rcases sp H with ⟨c8, H⟩ | ⟨c8, H⟩
 ·
  replace hE := hE.ktn 9 c8
  refine cf hE (wp_skip (hK6 _ _ (wp_seq_k fun K10 hK10 => wp_seq_k fun K11 hK11 => pl0 (plc hE (.r 0 1 <| .b 1 2 hb2 <| .r 2 1 <| .b 3 2 hb4 <| .r 4 1 <| .nil) (fun a hE => pld (hK11 _ _ ?_))))))
  rcases sp H with ⟨c12, H⟩ | ⟨c12, H⟩
  ·
   replace hE := hE.ktn 19 c12
   refine cf hE (wp_skip (hK10 _ _ (wp_seq_k fun K14 hK14 => wp_seq_k fun K15 hK15 => pl0 (plc hE (.r 0 1 <| .b 1 3 hb2 <| .r 2 1 <| .b 3 3 hb4 <| .r 4 1 <| .nil) (fun a hE => pld (hK15 _ _ ?_))))))
   rcases sp H with ⟨c16, H⟩ | ⟨c16, H⟩
   ·
    replace hE := hE.ktn 29 c16
    refine cf hE (wp_skip (hK14 _ _ (wp_seq_k fun K18 hK18 => pl0 (plc hE (.r 0 1 <| .b 1 0 hb2 <| .r 2 1 <| .b 3 0 hb4 <| .r 4 2 <| .nil) (fun a hE => pld (hK18 _ _ (wp_ret ?_)))))))
    replace hS := hS.tail
    replace hS := hS.tail
    obtain rfl := si H
    exact rt1 hE ⟨_, rfl, _, rfl, hS⟩
   ·
    replace hE := hE.kfn 29 c16
    refine ct hE (wp_seq_k fun K17 hK17 => pl0 (plc hE (.r 0 1 <| .b 1 3 hb2 <| .r 2 1 <| .b 3 3 hb4 <| .r 4 2 <| .nil) (fun a hE => pld (hK17 _ _ (wp_ret (then_ret ?_))))))
    replace hS := hS.tail
    replace hS := hS.tail
    obtain rfl := si H
    exact rt1 hE ⟨_, rfl, _, rfl, hS⟩
  ·
   replace hE := hE.kfn 19 c12
   refine ct hE (wp_seq_k fun K13 hK13 => pl0 (plc hE (.r 0 1 <| .b 1 2 hb2 <| .r 2 1 <| .b 3 2 hb4 <| .r 4 2 <| .nil) (fun a hE => pld (hK13 _ _ (wp_ret (then_ret ?_))))))
   replace hS := hS.tail
   replace hS := hS.tail
   obtain rfl := si H
   exact rt1 hE ⟨_, rfl, _, rfl, hS⟩
 ·
  replace hE := hE.kfn 9 c8
  refine ct hE (wp_seq_k fun K9 hK9 => pl0 (plc hE (.r 0 1 <| .b 1 1 hb2 <| .r 2 1 <| .b 3 1 hb4 <| .r 4 2 <| .nil) (fun a hE => pld (hK9 _ _ (wp_ret (then_ret ?_))))))
  replace hS := hS.tail
  replace hS := hS.tail
  obtain rfl := si H
  exact rt1 hE ⟨_, rfl, _, rfl, hS⟩

/-! ### windrose/windroseref29.Best: function 62 -/
def windroseref29_Best.l21 : Nat → List T_api_Info → Int → Int → Int → Int → Int → Int → Option T_api_Info
  | 0, _, _, _, _, _, _, _ => none
  | k + 1, x0_, x15, x16, x17, x18, x19, x20 => if x15 < (x0_.length : Int) then (if 0 ≤ x15 ∧ x15 < (x0_.length : Int) then ((windroseref29_Better.f (⟨(nth T_api_Info.z x0_ x15).f0, (nth T_api_Info.z x0_ x15).f1, (nth T_api_Info.z x0_ x15).f2, (nth T_api_Info.z x0_ x15).f3, (nth T_api_Info.z x0_ x15).f4⟩ : T_api_Info) (⟨x16, x17, x18, x19, x20⟩ : T_api_Info)).bind fun t35 => (if t35 = true then (windroseref29_Best.l21 k x0_ (w64 (x15 + 1)) ((nth T_api_Info.z x0_ x15).f0) ((nth T_api_Info.z x0_ x15).f1) ((nth T_api_Info.z x0_ x15).f2) ((nth T_api_Info.z x0_ x15).f3) ((nth T_api_Info.z x0_ x15).f4)) else (windroseref29_Best.l21 k x0_ (w64 (x15 + 1)) x16 x17 x18 x19 x20))) else (none)) else (some (⟨x16, x17, x18, x19, x20⟩ : T_api_Info))
theorem windroseref29_Best.l21_s (k : Nat) (x0_ : List T_api_Info) (x15 : Int) (x16 : Int) (x17 : Int) (x18 : Int) (x19 : Int) (x20 : Int) : windroseref29_Best.l21 (k + 1) x0_ x15 x16 x17 x18 x19 x20 = (if x15 < (x0_.length : Int) then (if 0 ≤ x15 ∧ x15 < (x0_.length : Int) then ((windroseref29_Better.f (⟨(nth T_api_Info.z x0_ x15).f0, (nth T_api_Info.z x0_ x15).f1, (nth T_api_Info.z x0_ x15).f2, (nth T_api_Info.z x0_ x15).f3, (nth T_api_Info.z x0_ x15).f4⟩ : T_api_Info) (⟨x16, x17, x18, x19, x20⟩ : T_api_Info)).bind fun t35 => (if t35 = true then (windroseref29_Best.l21 k x0_ (w64 (x15 + 1)) ((nth T_api_Info.z x0_ x15).f0) ((nth T_api_Info.z x0_ x15).f1) ((nth T_api_Info.z x0_ x15).f2) ((nth T_api_Info.z x0_ x15).f3) ((nth T_api_Info.z x0_ x15).f4)) else (windroseref29_Best.l21 k x0_ (w64 (x15 + 1)) x16 x17 x18 x19 x20))) else (none)) else (some (⟨x16, x17, x18, x19, x20⟩ : T_api_Info))) := by kernel_rfl
def windroseref29_Best.f (k : Nat) (x0_ : List T_api_Info) : Option T_api_Info := if 0 ≤ (0 : Int) ∧ 0 < (x0_.length : Int) then (windroseref29_Best.l21 k x0_ 0 ((nth T_api_Info.z x0_ 0).f0) ((nth T_api_Info.z x0_ 0).f1) ((nth T_api_Info.z x0_ 0).f2) ((nth T_api_Info.z x0_ 0).f3) ((nth T_api_Info.z x0_ 0).f4)) else (none)
def windroseref29_Best.Post (W F : World) (r : T_api_Info) (v : Value) (w' : World) : Prop := ∃ (F' : World), v = .agg #[.int .i64 r.f0, .int .i64 r.f1, .int .i64 r.f2, .int .i64 r.f3, .int .i64 r.f4] ∧ St W (mine W []) F w' F' []
theorem windroseref29_Best.calls (k : Nat) (x0_ : List T_api_Info) (A0_0 : Option Addr) (c0_0 : Nat) (r : T_api_Info) (W F : World) (hown : Sub F W) (g0_0 : Rd T_api_Info.k F A0_0 c0_0 x0_) (H : windroseref29_Best.f k x0_ = some r) :
    Calls Tryz.prog 62 #[.slice A0_0 x0_.length c0_0] W fun e w' => ∃ v, e = .returned v ∧ windroseref29_Best.Post W F r v w' := by
 have hS := St.start (Own.nil hown)
 unfold windroseref29_Best.f at H
 refine enter (n := 25) rfl rfl rfl (Nat.le_of_ble_eq_true rfl) (fun a hE => ?_)
 refine wp_seq_k fun K1 hK1 => pl0 (ple hE (.al (t := 86) hS [.int .i64 0, .int .i64 0, .int .i64 0, .int .i64 0, .int .i64 0]) ?_)
 rintro _ u3 a ⟨b2, rfl, hb2, hS, hg⟩ hE
 refine pld (hK1 _ _ (wp_seq_k fun K4 hK4 => pl0 ?_))
 obtain ⟨c5, H⟩ := gd H
 have hE_ := hE
 obtain ⟨ad6, rfl⟩ := g0_0.addr c5.1 c5.2
 replace hE := hE_
 obtain ⟨cs8, rfl, hc9⟩ := g0_0.el T_api_Info.z 0 c5.1 c5.2
 refine plc hE (.r 0 1 <| .x 1 c5 <| .cs 2 (hS.fcs hc9) <| .nil) (fun a hE => ple hE (.al (t := 86) hS [.int .i64 0, .int .i64 0, .int .i64 0, .int .i64 0, .int .i64 0]) ?_)
 rintro _ u11 a ⟨b10, rfl, hb10, hS, hg⟩ hE
 refine ple hE (.sto hS [.int .i64 ((nth T_api_Info.z x0_ 0).f0), .int .i64 ((nth T_api_Info.z x0_ 0).f1), .int .i64 ((nth T_api_Info.z x0_ 0).f2), .int .i64 ((nth T_api_Info.z x0_ 0).f3), .int .i64 ((nth T_api_Info.z x0_ 0).f4)]) ?_
 rintro _ u12 a ⟨rfl, hb10, hS, hz⟩ hE
 refine pld (hK4 _ _ (wp_seq_k fun K13 hK13 => wp_seq_k fun K14 hK14 => pl0 (plc hE (.r 0 1 .nil) (fun a hE => pld (hK14 _ _ (wp_block ?_))))))
 refine wp_loop_ghost (fun kq22 a w' => ∃ (G : Nat → Value) (x15 : Int) (x16 : Int) (x17 : Int) (x18 : Int) (x19 : Int) (x20 : Int), kq22 ≤ k ∧ Env 25 G a ∧ At G [(0, .slice (some ad6) x0_.length c0_0), (2, .pointer (some ⟨b2, 0, none⟩)), (3, .pointer (some ⟨b10, 0, none⟩)), (4, .int .i64 x15)] ∧ St W (mine W []) F w' F [box b10 #[.int .i64 x16, .int .i64 x17, .int .i64 x18, .int .i64 x19, .int .i64 x20] 86, box b2 #[.int .i64 0, .int .i64 0, .int .i64 0, .int .i64 0, .int .i64 0] 86] ∧  windroseref29_Best.l21 kq22 x0_ x15 x16 x17 x18 x19 x20 = some r) k ⟨_, 0, (nth T_api_Info.z x0_ 0).f0, (nth T_api_Info.z x0_ 0).f1, (nth T_api_Info.z x0_ 0).f2, (nth T_api_Info.z x0_ 0).f3, (nth T_api_Info.z x0_ 0).f4, Nat.le_refl _, hE, .of, hS, H⟩ ?_
 rintro kq22 a u24 ⟨G, x15, x16, x17, x18, x19, x20, hkq, hE, hA, hS, H⟩
 cases kq22 with
 | zero => cases (show none = some r from H)
 | succ k23 =>
  rw [windroseref29_Best.l21_s] at H
  obtain ⟨J, hE⟩ := hE.at hA
  refine wp_seq_k fun K25 hK25 => wp_seq_k fun K26 hK26 => pl0 (plc hE (.r 0 4 .nil) (fun a hE => pld (hK26 _ _ ?_)))
  rcases sp H with ⟨c27, H⟩ | ⟨c27, H⟩
  ·
   replace hE := hE.kt 11 c27
   refine ct hE (wp_skip (hK25 _ _ (wp_seq_k fun K28 hK28 => wp_block (wp_seq_k fun K29 hK29 => ?_))))
   refine drawn 6 ⟨[], [], fun q => False⟩ mixed rfl (by kernel_rfl) (fun hst => ?_)
   replace hS := hS.drew
   obtain ⟨c30, H⟩ := gd H
   obtain ⟨cs32, rfl, hc33⟩ := g0_0.el T_api_Info.z x15 c30.1 c30.2
   have hb10 := hS.blk_at (i := 0) rfl
   refine mny 1 hst hE (.r 0 2 <| .x 2 c30 <| .cs 3 (hS.fcs hc33) <| .bn 4 0 5 hb10 <| .nil) (fun a hE => ?_)
   obtain ⟨t35, h36, H⟩ := bd H
   refine on1 5 hE (.cl en61 (windroseref29_Better.calls (⟨(nth T_api_Info.z x0_ x15).f0, (nth T_api_Info.z x0_ x15).f1, (nth T_api_Info.z x0_ x15).f2, (nth T_api_Info.z x0_ x15).f3, (nth T_api_Info.z x0_ x15).f4⟩ : T_api_Info) (⟨x16, x17, x18, x19, x20⟩ : T_api_Info) _ _ _ hS.own.sub h36)) ?_
   rintro _ u34 a ⟨_, rfl, hC⟩ hE
   refine ⟨.of hC.agr, ?_⟩
   replace hS := hS.lent hC
   refine dn ?_
   refine hK29 _ _ ?_
   rcases sp H with ⟨c37, H⟩ | ⟨c37, H⟩
   ·
    replace hE := hE.bt 19 c37
    refine ct hE (pl0 (plc hE (.r 0 2 <| .x 2 c30 <| .cs 3 (hS.fcs hc33) <| .nil) (fun a hE => ple hE (.sto hS [.int .i64 ((nth T_api_Info.z x0_ x15).f0), .int .i64 ((nth T_api_Info.z x0_ x15).f1), .int .i64 ((nth T_api_Info.z x0_ x15).f2), .int .i64 ((nth T_api_Info.z x0_ x15).f3), .int .i64 ((nth T_api_Info.z x0_ x15).f4)]) ?_)))
    rintro _ u41 a ⟨rfl, hb10, hS, hz⟩ hE
    refine pld ?_
    refine block_n ?_
    refine hK28 _ _ (pl0 (plc hE (.r 0 3 .nil) (fun a hE => pld ?_)))
    exact then_n ⟨k23, by omega, _, (w64 (x15 + 1)), (nth T_api_Info.z x0_ x15).f0, (nth T_api_Info.z x0_ x15).f1, (nth T_api_Info.z x0_ x15).f2, (nth T_api_Info.z x0_ x15).f3, (nth T_api_Info.z x0_ x15).f4, by omega, hE, .of, hS, H⟩
   ·
    replace hE := hE.bf 19 c37
    refine cf hE (wp_skip ?_)
    refine block_n ?_
    refine hK28 _ _ (pl0 (plc hE (.r 0 3 .nil) (fun a hE => pld ?_)))
    exact then_n ⟨k23, by omega, _, (w64 (x15 + 1)), x16, x17, x18, x19, x20, by omega, hE, .of, hS, H⟩
  ·
   replace hE := hE.kf 11 c27
   refine cf hE ?_
   refine wp_exit ?_
   refine hK13 _ _ (wp_seq_k fun K42 hK42 => pl0 ?_)
   have hb10 := hS.blk_at (i := 0) rfl
   refine plc hE (.bn 0 0 5 hb10 .nil) (fun a hE => ?_)
   replace hS := hS.front 1 rfl
   refine ple hE (.sto hS [.int .i64 x16, .int .i64 x17, .int .i64 x18, .int .i64 x19, .int .i64 x20]) ?_
   rintro _ u43 a ⟨rfl, hb2, hS, hz⟩ hE
   refine pld (hK42 _ _ (wp_ret ?_))
   replace hS := hS.tail
   replace hS := hS.tail
   obtain rfl := si H
   exact ret1 hE rfl (.cell (by kernel_rfl) (res_blk [.int .i64 x16, .int .i64 x17, .int .i64 x18, .int .i64 x19, .int .i64 x20] ag86 sz86 hb2 rfl) .nil) ⟨_, rfl, _, rfl, hS⟩

/-! ### windrose/windroselaw29.QuorumBest: function 13 -/
mutual
def windroselaw29_QuorumBest.j44 : Nat → List T_api_Info → T_api_Info × Bool → Bool → Option Bool
  | 0, _, _, _ => none
  | k + 1, x0_, t15, y43 => if y43 = true then (some false) else (if (x0_.length : Int) = 0 then (windroselaw29_QuorumBest.j58 k x0_ t15 true) else ((windroseref29_May.f k x0_).bind fun t55 => (windroselaw29_QuorumBest.j58 k x0_ t15 (!t55))))
def windroselaw29_QuorumBest.j58 : Nat → List T_api_Info → T_api_Info × Bool → Bool → Option Bool
  | 0, _, _, _ => none
  | k + 1, x0_, t15, y57 => if y57 = true then (if t15.2 = true then (some false) else (if t15.1 = (⟨0, 0, 0, 0, 0⟩ : T_api_Info) then ((windroselaw29_awake.f k).bind fun t68 => (some t68)) else (some false))) else (if t15.2 = true then ((windroseref29_Best.f k x0_).bind fun t73 => (if t15.1 = t73 then ((windroselaw29_awake.f k).bind fun t77 => (some t77)) else (some false))) else (some false))
end
theorem windroselaw29_QuorumBest.j44_s (k : Nat) (x0_ : List T_api_Info) (t15 : T_api_Info × Bool) (y43 : Bool) : windroselaw29_QuorumBest.j44 (k + 1) x0_ t15 y43 = (if y43 = true then (some false) else (if (x0_.length : Int) = 0 then (windroselaw29_QuorumBest.j58 k x0_ t15 true) else ((windroseref29_May.f k x0_).bind fun t55 => (windroselaw29_QuorumBest.j58 k x0_ t15 (!t55))))) := by kernel_rfl
theorem windroselaw29_QuorumBest.j58_s (k : Nat) (x0_ : List T_api_Info) (t15 : T_api_Info × Bool) (y57 : Bool) : windroselaw29_QuorumBest.j58 (k + 1) x0_ t15 y57 = (if y57 = true then (if t15.2 = true then (some false) else (if t15.1 = (⟨0, 0, 0, 0, 0⟩ : T_api_Info) then ((windroselaw29_awake.f k).bind fun t68 => (some t68)) else (some false))) else (if t15.2 = true then ((windroseref29_Best.f k x0_).bind fun t73 => (if t15.1 = t73 then ((windroselaw29_awake.f k).bind fun t77 => (some t77)) else (some false))) else (some false))) := by kernel_rfl
def windroselaw29_QuorumBest.f (k : Nat) (x0_ : List T_api_Info) (x1_ : T_api_Info) (x2_ : T_api_Info) : Option Bool := if (x0_.length : Int) > 30 then ((windroselaw29_awake.f k).bind fun t11 => (some t11)) else ((quorum_Best.f k x0_).bind fun t15 => ((quorum_Check.f k x0_).bind fun t23 => ((windroseref29_May.f k x0_).bind fun t26 => (if (t23 == 0) = t26 then ((quorum_Better.f k x1_ x2_).bind fun t30 => ((windroseref29_Better.f x1_ x2_).bind fun t33 => (if t30 = t33 then ((quorum_Better.f k x1_ x2_).bind fun t37 => (if t37 = true then ((quorum_Better.f k x2_ x1_).bind fun t41 => (windroselaw29_QuorumBest.j44 k x0_ t15 t41)) else (windroselaw29_QuorumBest.j44 k x0_ t15 false))) else (windroselaw29_QuorumBest.j44 k x0_ t15 true)))) else (windroselaw29_QuorumBest.j44 k x0_ t15 true)))))
def windroselaw29_QuorumBest.Post (W F : World) (r : Bool) (v : Value) (w' : World) : Prop := ∃ (F' : World), v = .bool r ∧ St W (mine W []) F w' F' []
theorem windroselaw29_QuorumBest.calls (k : Nat) (x0_ : List T_api_Info) (x1_ : T_api_Info) (x2_ : T_api_Info) (A0_0 : Option Addr) (c0_0 : Nat) (r : Bool) (W F : World) (hown : Sub F W) (g0_0 : Rd T_api_Info.k F A0_0 c0_0 x0_) (H : windroselaw29_QuorumBest.f k x0_ x1_ x2_ = some r) :
    Calls Tryz.prog 13 #[.slice A0_0 x0_.length c0_0, .agg #[.int .i64 x1_.f0, .int .i64 x1_.f1, .int .i64 x1_.f2, .int .i64 x1_.f3, .int .i64 x1_.f4], .agg #[.int .i64 x2_.f0, .int .i64 x2_.f1, .int .i64 x2_.f2, .int .i64 x2_.f3, .int .i64 x2_.f4]] W fun e w' => ∃ v, e = .returned v ∧ windroselaw29_QuorumBest.Post W F r v w' := by
 have hS := St.start (Own.nil hown)
 unfold windroselaw29_QuorumBest.f at H
 refine enter (n := 71) rfl rfl rfl (Nat.le_of_ble_eq_true rfl) (fun a hE => ?_)
 refine wp_seq_k fun K1 hK1 => pl0 (ple hE (.bx (t := 86) hS [.int .i64 x1_.f0, .int .i64 x1_.f1, .int .i64 x1_.f2, .int .i64 x1_.f3, .int .i64 x1_.f4]) ?_)
 rintro _ u3 a ⟨b2, rfl, hb2, hS, hg⟩ hE
 refine ple hE (.bx (t := 86) hS [.int .i64 x2_.f0, .int .i64 x2_.f1, .int .i64 x2_.f2, .int .i64 x2_.f3, .int .i64 x2_.f4]) ?_
 rintro _ u5 a ⟨b4, rfl, hb4, hS, hg⟩ hE
 refine plc hE (.r 2 1 .nil) (fun a hE => pld (hK1 _ _ (wp_seq_k fun K6 hK6 => wp_seq_k fun K7 hK7 => pl0 (plc hE (.r 0 3 .nil) (fun a hE => pld (hK7 _ _ ?_))))))
 rcases sp H with ⟨c8, H⟩ | ⟨c8, H⟩
 ·
  replace hE := hE.kt 11 c8
  refine ct hE (wp_seq_k fun K9 hK9 => pl0 ?_)
  obtain ⟨t11, h12, H⟩ := bd H
  refine ple hE (.cl en49 (windroselaw29_awake.calls k _ _ _ hS.own.sub h12)) ?_
  rintro _ u10 a ⟨_, rfl, hC⟩ hE
  replace hS := hS.lent hC
  refine plc hE (.r 1 1 .nil) (fun a hE => pld (hK9 _ _ (wp_ret (then_ret ?_))))
  replace hS := hS.tail
  replace hS := hS.tail
  obtain rfl := si H
  exact rt1 hE ⟨_, rfl, _, rfl, hS⟩
 ·
  replace hE := hE.kf 11 c8
  refine cf hE (wp_skip (hK6 _ _ (wp_seq_k fun K13 hK13 => pl0 (plc hE (.r 0 1 .nil) (fun a hE => ?_)))))
  obtain ⟨t15, h16, H⟩ := bd H
  refine ple hE (.cl en57 (quorum_Best.calls k x0_ _ _ _ _ _ hS.own.sub g0_0 h16)) ?_
  rintro _ u14 a ⟨_, rfl, hC⟩ hE
  replace hS := hS.lent hC
  refine plc hE (.r 2 3 .nil) (fun a hE => ple hE (.al (t := 86) hS [.int .i64 0, .int .i64 0, .int .i64 0, .int .i64 0, .int .i64 0]) ?_)
  rintro _ u18 a ⟨b17, rfl, hb17, hS, hg⟩ hE
  refine ple hE (.sto hS [.int .i64 t15.1.f0, .int .i64 t15.1.f1, .int .i64 t15.1.f2, .int .i64 t15.1.f3, .int .i64 t15.1.f4]) ?_
  rintro _ u19 a ⟨rfl, hb17, hS, hz⟩ hE
  refine plc hE (.r 7 1 .nil) (fun a hE => pld (hK13 _ _ (wp_seq_k fun K20 hK20 => wp_seq_k fun K21 hK21 => ?_)))
  have J47 : ∀ kq45, kq45 ≤ k → ∀ (G : Nat → Value) (y43 : Bool) (a : Act) (w' : World), Env 71 G a → At G [(0, .slice A0_0 x0_.length c0_0), (7, .pointer (some ⟨b17, 0, none⟩)), (8, .bool t15.2), (42, .bool y43)] → St W (mine W []) F w' F [box b17 #[.int .i64 t15.1.f0, .int .i64 t15.1.f1, .int .i64 t15.1.f2, .int .i64 t15.1.f3, .int .i64 t15.1.f4] 86, box b4 #[.int .i64 x2_.f0, .int .i64 x2_.f1, .int .i64 x2_.f2, .int .i64 x2_.f3, .int .i64 x2_.f4] 86, box b2 #[.int .i64 x1_.f0, .int .i64 x1_.f1, .int .i64 x1_.f2, .int .i64 x1_.f3, .int .i64 x1_.f4] 86] → windroselaw29_QuorumBest.j44 kq45 x0_ t15 y43 = some r → K21 a w' := by
   intro kq45 hkq G y43 a u48 hE hA hS H
   cases kq45 with
   | zero => cases (show none = some r from H)
   | succ k46 =>
    rw [windroselaw29_QuorumBest.j44_s] at H
    obtain ⟨J, hE⟩ := hE.at hA
    refine hK21 _ _ ?_
    rcases sp H with ⟨c49, H⟩ | ⟨c49, H⟩
    ·
     replace hE := hE.bt 42 c49
     refine ct hE (wp_seq_k fun K50 hK50 => pl0 (plc hE (.r 0 1 .nil) (fun a hE => pld (hK50 _ _ (wp_ret (then_ret ?_))))))
     replace hS := hS.tail
     replace hS := hS.tail
     replace hS := hS.tail
     obtain rfl := si H
     exact rt1 hE ⟨_, rfl, _, rfl, hS⟩
    ·
     replace hE := hE.bf 42 c49
     refine cf hE (wp_skip (hK20 _ _ (wp_seq_k fun K51 hK51 => wp_seq_k fun K52 hK52 => ?_)))
     have J61 : ∀ kq59, kq59 ≤ k46 → ∀ (G : Nat → Value) (y57 : Bool) (a : Act) (w' : World), Env 71 G a → At G [(0, .slice A0_0 x0_.length c0_0), (7, .pointer (some ⟨b17, 0, none⟩)), (8, .bool t15.2), (50, .bool y57)] → St W (mine W []) F w' F [box b17 #[.int .i64 t15.1.f0, .int .i64 t15.1.f1, .int .i64 t15.1.f2, .int .i64 t15.1.f3, .int .i64 t15.1.f4] 86, box b4 #[.int .i64 x2_.f0, .int .i64 x2_.f1, .int .i64 x2_.f2, .int .i64 x2_.f3, .int .i64 x2_.f4] 86, box b2 #[.int .i64 x1_.f0, .int .i64 x1_.f1, .int .i64 x1_.f2, .int .i64 x1_.f3, .int .i64 x1_.f4] 86] → windroselaw29_QuorumBest.j58 kq59 x0_ t15 y57 = some r → K52 a w' := by
      intro kq59 hkq G y57 a u62 hE hA hS H
      cases kq59 with
      | zero => cases (show none = some r from H)
      | succ k60 =>
       rw [windroselaw29_QuorumBest.j58_s] at H
       obtain ⟨J, hE⟩ := hE.at hA
       refine hK52 _ _ ?_
       rcases sp H with ⟨c63, H⟩ | ⟨c63, H⟩
       ·
        replace hE := hE.bt 50 c63
        refine ct hE (wp_seq_k fun K64 hK64 => pl0 (plc hE (.r 0 3 .nil) (fun a hE => ?_)))
        rcases sp H with ⟨c65, H⟩ | ⟨c65, H⟩
        ·
         replace hE := hE.btn 53 c65
         refine plc hE (.r 3 8 .nil) (fun a hE => pld (hK64 _ _ (wp_ret (then_ret ?_))))
         replace hS := hS.tail
         replace hS := hS.tail
         replace hS := hS.tail
         obtain rfl := si H
         exact rt1 hE ⟨_, rfl, _, rfl, hS⟩
        ·
         replace hE := hE.bfn 53 c65
         have hb17 := hS.blk_at (i := 0) rfl
         refine plc hE (.bn 3 0 5 hb17 <| .r 4 1 <| .y 5 (y_eqs (fun w => eqs86 t15.1 (⟨0, 0, 0, 0, 0⟩ : T_api_Info) w 9998)) <| .r 6 2 <| .nil) (fun a hE => ?_)
         rcases sp H with ⟨c66, H⟩ | ⟨c66, H⟩
         ·
          replace hE := hE.kt 58 c66
          obtain ⟨t68, h69, H⟩ := bd H
          refine ple hE (.cl en49 (windroselaw29_awake.calls k60 _ _ _ hS.own.sub h69)) ?_
          rintro _ u67 a ⟨_, rfl, hC⟩ hE
          replace hS := hS.lent hC
          refine plc hE (.r 9 2 .nil) (fun a hE => pld (hK64 _ _ (wp_ret (then_ret ?_))))
          replace hS := hS.tail
          replace hS := hS.tail
          replace hS := hS.tail
          obtain rfl := si H
          exact rt1 hE ⟨_, rfl, _, rfl, hS⟩
         ·
          replace hE := hE.kf 58 c66
          refine plc hE (.r 8 3 .nil) (fun a hE => pld (hK64 _ _ (wp_ret (then_ret ?_))))
          replace hS := hS.tail
          replace hS := hS.tail
          replace hS := hS.tail
          obtain rfl := si H
          exact rt1 hE ⟨_, rfl, _, rfl, hS⟩
       ·
        replace hE := hE.bf 50 c63
        refine cf hE (wp_skip (hK51 _ _ (wp_seq_k fun K70 hK70 => ?_)))
        refine drawn 11 ⟨[], [], fun q => False⟩ mixed rfl (by kernel_rfl) (fun hst => ?_)
        replace hS := hS.drew
        refine mny 9 hst hE (.r 0 2 .nil) (fun a hE => ?_)
        rcases sp H with ⟨c71, H⟩ | ⟨c71, H⟩
        ·
         replace hE := hE.bt 62 c71
         have hb17 := hS.blk_at (i := 0) rfl
         refine mny 7 hst hE (.bn 2 0 5 hb17 <| .r 3 1 <| .nil) (fun a hE => ?_)
         obtain ⟨t73, h74, H⟩ := bd H
         refine on1 4 hE (.cl en62 (windroseref29_Best.calls k60 x0_ _ _ _ _ _ hS.own.sub g0_0 h74)) ?_
         rintro _ u72 a ⟨_, rfl, hC⟩ hE
         refine ⟨.of hC.agr, ?_⟩
         replace hS := hS.lent hC
         refine mny 3 hst hE (.y 5 (y_eqs (fun w => eqs86 t15.1 t73 w 9998)) <| .r 6 2 <| .nil) (fun a hE => ?_)
         rcases sp H with ⟨c75, H⟩ | ⟨c75, H⟩
         ·
          replace hE := hE.kt 68 c75
          obtain ⟨t77, h78, H⟩ := bd H
          refine on1 8 hE (.cl en49 (windroselaw29_awake.calls k60 _ _ _ hS.own.sub h78)) ?_
          rintro _ u76 a ⟨_, rfl, hC⟩ hE
          refine ⟨.of hC.agr, ?_⟩
          replace hS := hS.lent hC
          refine mny 0 hst hE (.r 9 2 .nil) (fun a hE => ?_)
          refine dn ?_
          refine hK70 _ _ (wp_ret ?_)
          replace hS := hS.tail
          replace hS := hS.tail
          replace hS := hS.tail
          obtain rfl := si H
          exact rt1 hE ⟨_, rfl, _, rfl, hS⟩
         ·
          replace hE := hE.kf 68 c75
          refine mny 0 hst hE (.r 8 3 .nil) (fun a hE => ?_)
          refine dn ?_
          refine hK70 _ _ (wp_ret ?_)
          replace hS := hS.tail
          replace hS := hS.tail
          replace hS := hS.tail
          obtain rfl := si H
          exact rt1 hE ⟨_, rfl, _, rfl, hS⟩
        ·
         replace hE := hE.bf 62 c71
         refine mny 0 hst hE (.r 2 9 .nil) (fun a hE => ?_)
         refine dn ?_
         refine hK70 _ _ (wp_ret ?_)
         replace hS := hS.tail
         replace hS := hS.tail
         replace hS := hS.tail
         obtain rfl := si H
         exact rt1 hE ⟨_, rfl, _, rfl, hS⟩
     refine pl0 (plc hE (.r 0 4 .nil) (fun a hE => ?_))
     rcases sp H with ⟨c53, H⟩ | ⟨c53, H⟩
     ·
      replace hE := hE.kt 46 c53
      refine plc hE (.r 4 4 .nil) (fun a hE => pld ?_)
      exact J61 _ (by omega) _ true _ _ hE .of hS H
     ·
      replace hE := hE.kf 46 c53
      refine plc hE (.r 4 1 .nil) (fun a hE => ?_)
      obtain ⟨t55, h56, H⟩ := bd H
      refine ple hE (.cl en59 (windroseref29_May.calls k46 x0_ _ _ _ _ _ hS.own.sub g0_0 h56)) ?_
      rintro _ u54 a ⟨_, rfl, hC⟩ hE
      replace hS := hS.lent hC
      refine plc hE (.r 6 2 .nil) (fun a hE => pld ?_)
      exact J61 _ (by omega) _ (!t55) _ _ hE .of hS H
  refine drawn 25 ⟨[], [], fun q => False⟩ mixed rfl (by kernel_rfl) (fun hst => ?_)
  replace hS := hS.drew
  refine mny 23 hst hE (.r 0 1 <| .r 3 1 <| .nil) (fun a hE => ?_)
  obtain ⟨t23, h24, H⟩ := bd H
  refine on1 1 hE (.cl en58 (quorum_Check.calls k x0_ _ _ _ _ _ hS.own.sub g0_0 h24)) ?_
  rintro _ u22 a ⟨_, rfl, hC⟩ hE
  refine ⟨.of hC.agr, ?_⟩
  replace hS := hS.lent hC
  refine mny 21 hst hE (.r 2 1 .nil) (fun a hE => ?_)
  obtain ⟨t26, h27, H⟩ := bd H
  refine on1 4 hE (.cl en59 (windroseref29_May.calls k x0_ _ _ _ _ _ hS.own.sub g0_0 h27)) ?_
  rintro _ u25 a ⟨_, rfl, hC⟩ hE
  refine ⟨.of hC.agr, ?_⟩
  replace hS := hS.lent hC
  refine mny 18 hst hE (.r 5 2 .nil) (fun a hE => ?_)
  rcases sp H with ⟨c28, H⟩ | ⟨c28, H⟩
  ·
   replace hE := hE.ktn 24 c28
   have hb2 := hS.blk_at (i := 2) rfl
   have hb4 := hS.blk_at (i := 1) rfl
   refine mny 14 hst hE (.bn 7 0 5 hb2 <| .bn 8 0 5 hb4 <| .bn 10 0 5 hb2 <| .bn 11 0 5 hb4 <| .nil) (fun a hE => ?_)
   obtain ⟨t30, h31, H⟩ := bd H
   refine on1 9 hE (.cl en60 (quorum_Better.calls k x1_ x2_ _ _ _ hS.own.sub h31)) ?_
   rintro _ u29 a ⟨_, rfl, hC⟩ hE
   refine ⟨.of hC.agr, ?_⟩
   replace hS := hS.lent hC
   obtain ⟨t33, h34, H⟩ := bd H
   refine on1 12 hE (.cl en61 (windroseref29_Better.calls x1_ x2_ _ _ _ hS.own.sub h34)) ?_
   rintro _ u32 a ⟨_, rfl, hC⟩ hE
   refine ⟨.of hC.agr, ?_⟩
   replace hS := hS.lent hC
   refine mny 9 hst hE (.r 13 3 .nil) (fun a hE => ?_)
   rcases sp H with ⟨c35, H⟩ | ⟨c35, H⟩
   ·
    replace hE := hE.ktn 33 c35
    have hb2 := hS.blk_at (i := 2) rfl
    have hb4 := hS.blk_at (i := 1) rfl
    refine mny 7 hst hE (.bn 16 0 5 hb2 <| .bn 17 0 5 hb4 <| .nil) (fun a hE => ?_)
    obtain ⟨t37, h38, H⟩ := bd H
    refine on1 18 hE (.cl en60 (quorum_Better.calls k x1_ x2_ _ _ _ hS.own.sub h38)) ?_
    rintro _ u36 a ⟨_, rfl, hC⟩ hE
    refine ⟨.of hC.agr, ?_⟩
    replace hS := hS.lent hC
    refine mny 5 hst hE (.r 19 1 .nil) (fun a hE => ?_)
    rcases sp H with ⟨c39, H⟩ | ⟨c39, H⟩
    ·
     replace hE := hE.bt 37 c39
     have hb4 := hS.blk_at (i := 1) rfl
     have hb2 := hS.blk_at (i := 2) rfl
     refine mny 3 hst hE (.bn 20 0 5 hb4 <| .bn 21 0 5 hb2 <| .nil) (fun a hE => ?_)
     obtain ⟨t41, h42, H⟩ := bd H
     refine on1 22 hE (.cl en60 (quorum_Better.calls k x2_ x1_ _ _ _ hS.own.sub h42)) ?_
     rintro _ u40 a ⟨_, rfl, hC⟩ hE
     refine ⟨.of hC.agr, ?_⟩
     replace hS := hS.lent hC
     refine mny 0 hst hE (.r 23 2 .nil) (fun a hE => ?_)
     refine dn ?_
     exact J47 _ (by omega) _ t41 _ _ hE .of hS H
    ·
     replace hE := hE.bf 37 c39
     refine mny 0 hst hE (.r 20 5 .nil) (fun a hE => ?_)
     refine dn ?_
     exact J47 _ (by omega) _ false _ _ hE .of hS H
   ·
    replace hE := hE.kfn 33 c35
    refine mny 0 hst hE (.r 16 9 .nil) (fun a hE => ?_)
    refine dn ?_
    exact J47 _ (by omega) _ true _ _ hE .of hS H
  ·
   replace hE := hE.kfn 24 c28
   refine mny 0 hst hE (.r 7 18 .nil) (fun a hE => ?_)
   refine dn ?_
   exact J47 _ (by omega) _ true _ _ hE .of hS H

end Go.Proofs.YtpohepinmjmbkaaGreat.QB
