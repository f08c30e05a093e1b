/- Functions of the program, what each computes (written by wip/s/sl.py). -/
import Derived.Test.YtihjknnhbgkinaaSR2
namespace Go.Proofs.Ytihjknnhbgkinaa.SR
open Go Go.RowKit Go.Proofs.Ytihjknnhbgkinaa.Sl
set_option linter.unusedVariables false
set_option linter.unusedSimpArgs false
/-! ### windrose/past.ReadMap: function 28 -/
mutual
def past_ReadMap.l61 : Nat → T_api_Data → Int × T_past_reader → Int × T_past_reader → Int × T_past_reader → Int × T_past_reader → Int × T_past_reader → Int → List Int → Bool → List T_api_Node → Option (T_api_Map × Int)
  | 0, _, _, _, _, _, _, _, _, _, _ => none
  | k + 1, x0_, t11, t18, t25, t32, t44, x51, l54, y56, l59 => if x51 < t44.1 then ((past_reader_next.f (⟨l54, y56⟩ : T_past_reader)).bind fun t71 => ((past_reader_next.f t71.2).bind fun t78 => ((past_reader_next.f t78.2).bind fun t85 => ((past_reader_next.f t85.2).bind fun t92 => ((past_reader_flag.f t92.2).bind fun t99 => ((past_reader_flag.f t99.2).bind fun t106 => (if ((l59.length : Int) + ((1 : Nat) : Int)) * 40 ≤ 140737488355328 then (past_ReadMap.l61 k x0_ t11 t18 t25 t32 t44 (w64 (x51 + 1)) t106.2.f0 t106.2.f1 (l59 ++ [(⟨t71.1, t78.1, t85.1, t92.1, t99.1, t106.1⟩ : T_api_Node)])) else (none)))))))) else ((past_reader_count.f k (⟨l54, y56⟩ : T_past_reader) 2).bind fun t125 => (past_ReadMap.l142 k x0_ t11 t18 t25 t32 l59 t125 0 t125.2.f0 t125.2.f1 []))
def past_ReadMap.l142 : Nat → T_api_Data → Int × T_past_reader → Int × T_past_reader → Int × T_past_reader → Int × T_past_reader → List T_api_Node → Int × T_past_reader → Int → List Int → Bool → List T_api_Temp → Option (T_api_Map × Int)
  | 0, _, _, _, _, _, _, _, _, _, _, _ => none
  | k + 1, x0_, t11, t18, t25, t32, l59, t125, x132, l135, y137, l140 => if x132 < t125.1 then ((past_reader_next.f (⟨l135, y137⟩ : T_past_reader)).bind fun t152 => ((past_reader_list.f k t152.2).bind fun t163 => (if ((l140.length : Int) + ((1 : Nat) : Int)) * 32 ≤ 140737488355328 then (past_ReadMap.l142 k x0_ t11 t18 t25 t32 l59 t125 (w64 (x132 + 1)) t163.2.f0 t163.2.f1 (l140 ++ [(⟨t152.1, t163.1⟩ : T_api_Temp)])) else (none)))) else (past_ReadMap.l199 k x0_ t11 t18 t25 t32 l59 l140 0 l135 y137 [])
def past_ReadMap.l199 : Nat → T_api_Data → Int × T_past_reader → Int × T_past_reader → Int × T_past_reader → Int × T_past_reader → List T_api_Node → List T_api_Temp → Int → List Int → Bool → List T_api_Trail → Option (T_api_Map × Int)
  | 0, _, _, _, _, _, _, _, _, _, _, _ => none
  | k + 1, x0_, t11, t18, t25, t32, l59, l140, x189, l192, y194, l197 => if x189 < (if 8 < t32.1 then 8 else t32.1) then ((past_reader_trail.f k (⟨l192, y194⟩ : T_past_reader)).bind fun t209 => (if ((l197.length : Int) + ((1 : Nat) : Int)) * 32 ≤ 140737488355328 then (past_ReadMap.l199 k x0_ t11 t18 t25 t32 l59 l140 (w64 (x189 + 1)) t209.2.f0 t209.2.f1 (l197 ++ [t209.1])) else (none))) else (if y194 = true then (past_ReadMap.j240 k t11 t18 t25 t32 l59 l140 l197 true) else (if (l192.length : Int) > 0 then (past_ReadMap.j240 k t11 t18 t25 t32 l59 l140 l197 true) else (if (x0_.f1.length : Int) > 0 then (past_ReadMap.j240 k t11 t18 t25 t32 l59 l140 l197 true) else ((maps_Check.f k (⟨t11.1, t18.1, t25.1, t32.1, l59, l140, l197⟩ : T_api_Map)).bind fun t237 => (past_ReadMap.j240 k t11 t18 t25 t32 l59 l140 l197 (!(t237 == 0)))))))
def past_ReadMap.j240 : Nat → Int × T_past_reader → Int × T_past_reader → Int × T_past_reader → Int × T_past_reader → List T_api_Node → List T_api_Temp → List T_api_Trail → Bool → Option (T_api_Map × Int)
  | 0, _, _, _, _, _, _, _, _ => none
  | k + 1, t11, t18, t25, t32, l59, l140, l197, y239 => if y239 = true then (some ((⟨0, 0, 0, 0, [], [], []⟩ : T_api_Map), 2)) else (some ((⟨t11.1, t18.1, t25.1, t32.1, l59, l140, l197⟩ : T_api_Map), 0))
end
theorem past_ReadMap.l61_s (k : Nat) (x0_ : T_api_Data) (t11 : Int × T_past_reader) (t18 : Int × T_past_reader) (t25 : Int × T_past_reader) (t32 : Int × T_past_reader) (t44 : Int × T_past_reader) (x51 : Int) (l54 : List Int) (y56 : Bool) (l59 : List T_api_Node) : past_ReadMap.l61 (k + 1) x0_ t11 t18 t25 t32 t44 x51 l54 y56 l59 = (if x51 < t44.1 then ((past_reader_next.f (⟨l54, y56⟩ : T_past_reader)).bind fun t71 => ((past_reader_next.f t71.2).bind fun t78 => ((past_reader_next.f t78.2).bind fun t85 => ((past_reader_next.f t85.2).bind fun t92 => ((past_reader_flag.f t92.2).bind fun t99 => ((past_reader_flag.f t99.2).bind fun t106 => (if ((l59.length : Int) + ((1 : Nat) : Int)) * 40 ≤ 140737488355328 then (past_ReadMap.l61 k x0_ t11 t18 t25 t32 t44 (w64 (x51 + 1)) t106.2.f0 t106.2.f1 (l59 ++ [(⟨t71.1, t78.1, t85.1, t92.1, t99.1, t106.1⟩ : T_api_Node)])) else (none)))))))) else ((past_reader_count.f k (⟨l54, y56⟩ : T_past_reader) 2).bind fun t125 => (past_ReadMap.l142 k x0_ t11 t18 t25 t32 l59 t125 0 t125.2.f0 t125.2.f1 []))) := by kernel_rfl
theorem past_ReadMap.l142_s (k : Nat) (x0_ : T_api_Data) (t11 : Int × T_past_reader) (t18 : Int × T_past_reader) (t25 : Int × T_past_reader) (t32 : Int × T_past_reader) (l59 : List T_api_Node) (t125 : Int × T_past_reader) (x132 : Int) (l135 : List Int) (y137 : Bool) (l140 : List T_api_Temp) : past_ReadMap.l142 (k + 1) x0_ t11 t18 t25 t32 l59 t125 x132 l135 y137 l140 = (if x132 < t125.1 then ((past_reader_next.f (⟨l135, y137⟩ : T_past_reader)).bind fun t152 => ((past_reader_list.f k t152.2).bind fun t163 => (if ((l140.length : Int) + ((1 : Nat) : Int)) * 32 ≤ 140737488355328 then (past_ReadMap.l142 k x0_ t11 t18 t25 t32 l59 t125 (w64 (x132 + 1)) t163.2.f0 t163.2.f1 (l140 ++ [(⟨t152.1, t163.1⟩ : T_api_Temp)])) else (none)))) else (past_ReadMap.l199 k x0_ t11 t18 t25 t32 l59 l140 0 l135 y137 [])) := by kernel_rfl
theorem past_ReadMap.l199_s (k : Nat) (x0_ : T_api_Data) (t11 : Int × T_past_reader) (t18 : Int × T_past_reader) (t25 : Int × T_past_reader) (t32 : Int × T_past_reader) (l59 : List T_api_Node) (l140 : List T_api_Temp) (x189 : Int) (l192 : List Int) (y194 : Bool) (l197 : List T_api_Trail) : past_ReadMap.l199 (k + 1) x0_ t11 t18 t25 t32 l59 l140 x189 l192 y194 l197 = (if x189 < (if 8 < t32.1 then 8 else t32.1) then ((past_reader_trail.f k (⟨l192, y194⟩ : T_past_reader)).bind fun t209 => (if ((l197.length : Int) + ((1 : Nat) : Int)) * 32 ≤ 140737488355328 then (past_ReadMap.l199 k x0_ t11 t18 t25 t32 l59 l140 (w64 (x189 + 1)) t209.2.f0 t209.2.f1 (l197 ++ [t209.1])) else (none))) else (if y194 = true then (past_ReadMap.j240 k t11 t18 t25 t32 l59 l140 l197 true) else (if (l192.length : Int) > 0 then (past_ReadMap.j240 k t11 t18 t25 t32 l59 l140 l197 true) else (if (x0_.f1.length : Int) > 0 then (past_ReadMap.j240 k t11 t18 t25 t32 l59 l140 l197 true) else ((maps_Check.f k (⟨t11.1, t18.1, t25.1, t32.1, l59, l140, l197⟩ : T_api_Map)).bind fun t237 => (past_ReadMap.j240 k t11 t18 t25 t32 l59 l140 l197 (!(t237 == 0)))))))) := by kernel_rfl
theorem past_ReadMap.j240_s (k : Nat) (t11 : Int × T_past_reader) (t18 : Int × T_past_reader) (t25 : Int × T_past_reader) (t32 : Int × T_past_reader) (l59 : List T_api_Node) (l140 : List T_api_Temp) (l197 : List T_api_Trail) (y239 : Bool) : past_ReadMap.j240 (k + 1) t11 t18 t25 t32 l59 l140 l197 y239 = (if y239 = true then (some ((⟨0, 0, 0, 0, [], [], []⟩ : T_api_Map), 2)) else (some ((⟨t11.1, t18.1, t25.1, t32.1, l59, l140, l197⟩ : T_api_Map), 0))) := by kernel_rfl
def past_ReadMap.f (k : Nat) (x0_ : T_api_Data) : Option (T_api_Map × Int) := (past_reader_next.f (⟨x0_.f0, false⟩ : T_past_reader)).bind fun t11 => ((past_reader_next.f t11.2).bind fun t18 => ((past_reader_next.f t18.2).bind fun t25 => ((past_reader_next.f t25.2).bind fun t32 => ((past_reader_count.f k t32.2 6).bind fun t44 => (past_ReadMap.l61 k x0_ t11 t18 t25 t32 t44 0 t44.2.f0 t44.2.f1 [])))))
def past_ReadMap.Post (W F : World) (r : T_api_Map × Int) (v : Value) (w' : World) : Prop := ∃ (F' : World) (RA0_4 : Option Addr) (rc0_4 : Nat) (RA0_5 : Option Addr) (rc0_5 : Nat) (RA0_6 : Option Addr) (rc0_6 : Nat), v = .tuple #[.agg #[.int .i64 r.1.f0, .int .i64 r.1.f1, .int .i64 r.1.f2, .int .i64 r.1.f3, .slice RA0_4 r.1.f4.length rc0_4, .slice RA0_5 r.1.f5.length rc0_5, .slice RA0_6 r.1.f6.length rc0_6], .int .i64 r.2] ∧ St W (mine W []) F w' F' [row T_api_Node.k 102 (.slice RA0_4 r.1.f4.length rc0_4) r.1.f4, row T_api_Temp.k 130 (.slice RA0_5 r.1.f5.length rc0_5) r.1.f5, row T_api_Trail.k 133 (.slice RA0_6 r.1.f6.length rc0_6) r.1.f6]
set_option maxHeartbeats 4000000 in
set_option maxRecDepth 100000 in
theorem past_ReadMap.calls (k : Nat) (x0_ : T_api_Data) (A0_0 : Option Addr) (c0_0 : Nat) (A0_1 : Option Addr) (c0_1 : Nat) (r : T_api_Map × Int) (W F : World) (hown : Sub F W) (g0_0 : Rd (Kn.int .i64) F A0_0 c0_0 x0_.f0) (g0_1 : Rd Kn.string F A0_1 c0_1 x0_.f1) (H : past_ReadMap.f k x0_ = some r) :
    Calls Try.prog 28 #[.agg #[.slice A0_0 x0_.f0.length c0_0, .slice A0_1 x0_.f1.length c0_1]] W fun e w' => ∃ v, e = .returned v ∧ past_ReadMap.Post W F r v w' := by
  have hS := St.start (Own.nil hown)
  unfold past_ReadMap.f at H
  refine enter (n := 98) rfl rfl rfl (Nat.le_of_ble_eq_true rfl) (fun a hE => ?_)
  refine wp_seq_k fun K1 hK1 => ?_
  refine pl0 ?_
  refine ple hE (.bx (t := 36) hS [.slice A0_0 x0_.f0.length c0_0, .slice A0_1 x0_.f1.length c0_1]) ?_
  rintro _ u3 a ⟨b2, rfl, hb2, hS, hg⟩ hE
  refine ple hE (.al (t := 78) hS [.int .i64 0, .int .i64 0, .int .i64 0, .int .i64 0, .slice none 0 0, .slice none 0 0, .slice none 0 0]) ?_
  rintro _ u5 a ⟨b4, rfl, hb4, hS, hg⟩ hE
  refine plc hE (.r 2 1 .nil) (fun a hE => ?_)
  refine pld ?_
  refine hK1 _ _ ?_
  refine wp_seq_k fun K6 hK6 => ?_
  refine pl0 ?_
  have hb2 := hS.blk_at (i := 1) rfl
  refine plc hE (.r 0 1 <| .b 1 0 hb2 <| .r 2 1 <| .nil) (fun a hE => ?_)
  refine ple hE (.bx (t := 116) hS [.slice A0_0 x0_.f0.length c0_0, .bool false]) ?_
  rintro _ u8 a ⟨b7, rfl, hb7, hS, hg⟩ hE
  refine plc hE (.r 4 1 .nil) (fun a hE => ?_)
  refine pld ?_
  refine hK6 _ _ ?_
  refine wp_seq_k fun K9 hK9 => ?_
  refine pl0 ?_
  refine plc hE (.r 0 1 .nil) (fun a hE => ?_)
  obtain ⟨t11, h12, H⟩ := Option.bind_eq_some_iff.mp H
  refine ple hE (.cl en53 (past_reader_next.calls (⟨x0_.f0, false⟩ : T_past_reader) _ _ _ _ _ _ (Own.left (X := [box b7 #[.slice A0_0 x0_.f0.length c0_0, .bool false] 116]) hS.own) g0_0 h12)) ?_
  rintro _ u10 a ⟨F13, A14, c15, rfl, hC, g16⟩ hE
  have hs := hC.sub
  replace hS := hS.called (X := [box b7 #[.slice A0_0 x0_.f0.length c0_0, .bool false] 116]) hC
  replace g0_0 := g0_0.mono hs
  replace g0_1 := g0_1.mono hs
  refine plc hE (.r 2 1 .nil) (fun a hE => ?_)
  obtain ⟨t18, h19, H⟩ := Option.bind_eq_some_iff.mp H
  refine ple hE (.cl en53 (past_reader_next.calls t11.2 _ _ _ _ _ _ (Own.left (X := [box b7 #[.slice A14 t11.2.f0.length c15, .bool t11.2.f1] 116]) hS.own) g16 h19)) ?_
  rintro _ u17 a ⟨F20, A21, c22, rfl, hC, g23⟩ hE
  have hs := hC.sub
  replace hS := hS.called (X := [box b7 #[.slice A14 t11.2.f0.length c15, .bool t11.2.f1] 116]) hC
  replace g0_0 := g0_0.mono hs
  replace g0_1 := g0_1.mono hs
  replace g16 := g16.mono hs
  refine plc hE (.r 4 1 .nil) (fun a hE => ?_)
  obtain ⟨t25, h26, H⟩ := Option.bind_eq_some_iff.mp H
  refine ple hE (.cl en53 (past_reader_next.calls t18.2 _ _ _ _ _ _ (Own.left (X := [box b7 #[.slice A21 t18.2.f0.length c22, .bool t18.2.f1] 116]) hS.own) g23 h26)) ?_
  rintro _ u24 a ⟨F27, A28, c29, rfl, hC, g30⟩ hE
  have hs := hC.sub
  replace hS := hS.called (X := [box b7 #[.slice A21 t18.2.f0.length c22, .bool t18.2.f1] 116]) hC
  replace g0_0 := g0_0.mono hs
  replace g0_1 := g0_1.mono hs
  replace g23 := g23.mono hs
  refine plc hE (.r 6 1 .nil) (fun a hE => ?_)
  obtain ⟨t32, h33, H⟩ := Option.bind_eq_some_iff.mp H
  refine ple hE (.cl en53 (past_reader_next.calls t25.2 _ _ _ _ _ _ (Own.left (X := [box b7 #[.slice A28 t25.2.f0.length c29, .bool t25.2.f1] 116]) hS.own) g30 h33)) ?_
  rintro _ u31 a ⟨F34, A35, c36, rfl, hC, g37⟩ hE
  have hs := hC.sub
  replace hS := hS.called (X := [box b7 #[.slice A28 t25.2.f0.length c29, .bool t25.2.f1] 116]) hC
  replace g0_0 := g0_0.mono hs
  replace g0_1 := g0_1.mono hs
  replace g30 := g30.mono hs
  refine plc hE (.r 8 1 .nil) (fun a hE => ?_)
  refine ple hE (.al (t := 78) hS [.int .i64 0, .int .i64 0, .int .i64 0, .int .i64 0, .slice none 0 0, .slice none 0 0, .slice none 0 0]) ?_
  rintro _ u39 a ⟨b38, rfl, hb38, hS, hg⟩ hE
  refine ple hE (.sto hS [.int .i64 t11.1, .int .i64 t18.1, .int .i64 t25.1, .int .i64 t32.1, .slice none 0 0, .slice none 0 0, .slice none 0 0]) ?_
  rintro _ u40 a ⟨rfl, hb38, hS, hz⟩ hE
  refine pld ?_
  refine hK9 _ _ ?_
  refine wp_seq_k fun K41 hK41 => ?_
  refine wp_seq_k fun K42 hK42 => ?_
  refine pl0 ?_
  refine plc hE (.r 0 1 .nil) (fun a hE => ?_)
  replace hS := hS.front 1 rfl
  obtain ⟨t44, h45, H⟩ := Option.bind_eq_some_iff.mp H
  refine ple hE (.cl en65 (past_reader_count.calls k t32.2 6 _ _ _ _ _ _ (Own.left (X := [box b7 #[.slice A35 t32.2.f0.length c36, .bool t32.2.f1] 116]) hS.own) g37 h45)) ?_
  rintro _ u43 a ⟨F46, A47, c48, rfl, hC, g49⟩ hE
  have hs := hC.sub
  replace hS := hS.called (X := [box b7 #[.slice A35 t32.2.f0.length c36, .bool t32.2.f1] 116]) hC
  replace g0_0 := g0_0.mono hs
  replace g0_1 := g0_1.mono hs
  replace g37 := g37.mono hs
  refine plc hE (.r 2 1 .nil) (fun a hE => ?_)
  refine pld ?_
  refine hK42 _ _ ?_
  refine wp_block ?_
  replace hS := hS.nilrow T_api_Node.k 102
  replace hS := hS.front 4 rfl
  replace hS := hS.front 4 rfl
  replace hS := hS.front 4 rfl
  replace hS := hS.front 4 rfl
  refine wp_loop_ghost (fun kq62 a w' => ∃ (G : Nat → Value) (x51 : Int) (A52 : Option Addr) (c53 : Nat) (l54 : List Int) (y56 : Bool) (A57 : Option Addr) (c58 : Nat) (l59 : List T_api_Node) (F60 : World), kq62 ≤ k ∧ Env 98 G a ∧ At G [(1, .pointer (some ⟨b2, 0, none⟩)), (2, .pointer (some ⟨b4, 0, none⟩)), (4, .pointer (some ⟨b7, 0, none⟩)), (5, .pointer (some ⟨b38, 0, none⟩)), (21, .int .i64 t44.1), (22, .int .i64 x51)] ∧ St W (mine W []) F w' F60 [box b7 #[.slice A52 l54.length c53, .bool y56] 116, box b38 #[.int .i64 t11.1, .int .i64 t18.1, .int .i64 t25.1, .int .i64 t32.1, .slice A57 l59.length c58, .slice none 0 0, .slice none 0 0] 78, box b4 #[.int .i64 0, .int .i64 0, .int .i64 0, .int .i64 0, .slice none 0 0, .slice none 0 0, .slice none 0 0] 78, box b2 #[.slice A0_0 x0_.f0.length c0_0, .slice A0_1 x0_.f1.length c0_1] 36, row T_api_Node.k 102 (.slice A57 l59.length c58) l59] ∧ Rd (Kn.int .i64) F60 A52 c53 l54 ∧ Rd (Kn.int .i64) F60 A0_0 c0_0 x0_.f0 ∧ Rd Kn.string F60 A0_1 c0_1 x0_.f1 ∧  past_ReadMap.l61 kq62 x0_ t11 t18 t25 t32 t44 x51 l54 y56 l59 = some r) k ⟨_, 0, A47, c48, t44.2.f0, t44.2.f1, none, 0, [], F46, Nat.le_refl _, hE, .of, hS, g49, g0_0, g0_1, H⟩ ?_
  rintro kq62 a u64 ⟨G, x51, A52, c53, l54, y56, A57, c58, l59, F60, hkq, hE, hA, hS, g55, g0_0, g0_1, H⟩
  cases kq62 with
  | zero => cases (show none = some r from H)
  | succ k63 =>
    rw [past_ReadMap.l61_s] at H
    obtain ⟨J, hE⟩ := hE.at hA
    refine wp_seq_k fun K65 hK65 => ?_
    refine pl0 ?_
    refine plc hE (.r 0 1 .nil) (fun a hE => ?_)
    refine pld ?_
    refine hK65 _ _ ?_
    refine wp_seq_k fun K66 hK66 => ?_
    by_cases c67 : x51 < t44.1
    · rw [if_pos c67] at H
      replace hE := hE.kt 23 c67
      refine ct hE ?_
      refine wp_skip ?_
      refine hK66 _ _ ?_
      refine wp_seq_k fun K68 hK68 => ?_
      refine wp_block ?_
      refine drawn 19 ⟨[3, 5, 7, 9, 11, 13, 16, 18], [3, 5, 7, 9, 11, 13], fun q => q = b7⟩ mixed rfl (by kernel_rfl) (fun hst => ?_)
      replace hS := hS.drew
      have ne69 : ¬ (b38 = b7) := by intro h; exact hS.ne (i := 1) (j := 0) rfl rfl (by decide) h
      have hb38 := hS.blk_at (i := 1) rfl
      refine mny 11 hst hE (.r 0 1 <| .bX 1 4 hb38 ne69 <| .r 2 1 <| .r 4 1 <| .r 6 1 <| .r 8 1 <| .r 10 1 <| .r 12 1 <| .nil) (fun a hE => ?_)
      obtain ⟨t71, h72, H⟩ := Option.bind_eq_some_iff.mp H
      refine on1 3 hE (.cl en53 (past_reader_next.calls (⟨l54, y56⟩ : T_past_reader) _ _ _ _ _ _ (Own.left (X := [box b7 #[.slice A52 l54.length c53, .bool y56] 116]) hS.own) g55 h72)) ?_
      rintro _ u70 a ⟨F73, A74, c75, rfl, hC, g76⟩ hE
      refine ⟨.c (hC.agrX (by intro A hA b hb; simp only [List.mem_cons, List.not_mem_nil, or_false] at hA; rcases hA with rfl <;> (cases (show b = _ from hb); simp))), ?_⟩
      have hs := hC.sub
      replace hS := hS.called (X := [box b7 #[.slice A52 l54.length c53, .bool y56] 116]) hC
      replace g55 := g55.mono hs
      replace g0_0 := g0_0.mono hs
      replace g0_1 := g0_1.mono hs
      obtain ⟨t78, h79, H⟩ := Option.bind_eq_some_iff.mp H
      refine on1 5 hE (.cl en53 (past_reader_next.calls t71.2 _ _ _ _ _ _ (Own.left (X := [box b7 #[.slice A74 t71.2.f0.length c75, .bool t71.2.f1] 116]) hS.own) g76 h79)) ?_
      rintro _ u77 a ⟨F80, A81, c82, rfl, hC, g83⟩ hE
      refine ⟨.c (hC.agrX (by intro A hA b hb; simp only [List.mem_cons, List.not_mem_nil, or_false] at hA; rcases hA with rfl <;> (cases (show b = _ from hb); simp))), ?_⟩
      have hs := hC.sub
      replace hS := hS.called (X := [box b7 #[.slice A74 t71.2.f0.length c75, .bool t71.2.f1] 116]) hC
      replace g76 := g76.mono hs
      replace g0_0 := g0_0.mono hs
      replace g0_1 := g0_1.mono hs
      obtain ⟨t85, h86, H⟩ := Option.bind_eq_some_iff.mp H
      refine on1 7 hE (.cl en53 (past_reader_next.calls t78.2 _ _ _ _ _ _ (Own.left (X := [box b7 #[.slice A81 t78.2.f0.length c82, .bool t78.2.f1] 116]) hS.own) g83 h86)) ?_
      rintro _ u84 a ⟨F87, A88, c89, rfl, hC, g90⟩ hE
      refine ⟨.c (hC.agrX (by intro A hA b hb; simp only [List.mem_cons, List.not_mem_nil, or_false] at hA; rcases hA with rfl <;> (cases (show b = _ from hb); simp))), ?_⟩
      have hs := hC.sub
      replace hS := hS.called (X := [box b7 #[.slice A81 t78.2.f0.length c82, .bool t78.2.f1] 116]) hC
      replace g83 := g83.mono hs
      replace g0_0 := g0_0.mono hs
      replace g0_1 := g0_1.mono hs
      obtain ⟨t92, h93, H⟩ := Option.bind_eq_some_iff.mp H
      refine on1 9 hE (.cl en53 (past_reader_next.calls t85.2 _ _ _ _ _ _ (Own.left (X := [box b7 #[.slice A88 t85.2.f0.length c89, .bool t85.2.f1] 116]) hS.own) g90 h93)) ?_
      rintro _ u91 a ⟨F94, A95, c96, rfl, hC, g97⟩ hE
      refine ⟨.c (hC.agrX (by intro A hA b hb; simp only [List.mem_cons, List.not_mem_nil, or_false] at hA; rcases hA with rfl <;> (cases (show b = _ from hb); simp))), ?_⟩
      have hs := hC.sub
      replace hS := hS.called (X := [box b7 #[.slice A88 t85.2.f0.length c89, .bool t85.2.f1] 116]) hC
      replace g90 := g90.mono hs
      replace g0_0 := g0_0.mono hs
      replace g0_1 := g0_1.mono hs
      obtain ⟨t99, h100, H⟩ := Option.bind_eq_some_iff.mp H
      refine on1 11 hE (.cl en66 (past_reader_flag.calls t92.2 _ _ _ _ _ _ (Own.left (X := [box b7 #[.slice A95 t92.2.f0.length c96, .bool t92.2.f1] 116]) hS.own) g97 h100)) ?_
      rintro _ u98 a ⟨F101, A102, c103, rfl, hC, g104⟩ hE
      refine ⟨.c (hC.agrX (by intro A hA b hb; simp only [List.mem_cons, List.not_mem_nil, or_false] at hA; rcases hA with rfl <;> (cases (show b = _ from hb); simp))), ?_⟩
      have hs := hC.sub
      replace hS := hS.called (X := [box b7 #[.slice A95 t92.2.f0.length c96, .bool t92.2.f1] 116]) hC
      replace g97 := g97.mono hs
      replace g0_0 := g0_0.mono hs
      replace g0_1 := g0_1.mono hs
      obtain ⟨t106, h107, H⟩ := Option.bind_eq_some_iff.mp H
      refine on1 13 hE (.cl en66 (past_reader_flag.calls t99.2 _ _ _ _ _ _ (Own.left (X := [box b7 #[.slice A102 t99.2.f0.length c103, .bool t99.2.f1] 116]) hS.own) g104 h107)) ?_
      rintro _ u105 a ⟨F108, A109, c110, rfl, hC, g111⟩ hE
      refine ⟨.c (hC.agrX (by intro A hA b hb; simp only [List.mem_cons, List.not_mem_nil, or_false] at hA; rcases hA with rfl <;> (cases (show b = _ from hb); simp))), ?_⟩
      have hs := hC.sub
      replace hS := hS.called (X := [box b7 #[.slice A102 t99.2.f0.length c103, .bool t99.2.f1] 116]) hC
      replace g104 := g104.mono hs
      replace g0_0 := g0_0.mono hs
      replace g0_1 := g0_1.mono hs
      refine mny 4 hst hE (.r 14 1 .nil) (fun a hE => ?_)
      refine on1 15 hE (.lit (d := T_api_Node.k) (e := 102) hS [(⟨t71.1, t78.1, t85.1, t92.1, t99.1, t106.1⟩ : T_api_Node)] (.cons rfl .nil)) ?_
      rintro _ u112 a ⟨A113, c114, rfl, hS, hg⟩ hE
      refine ⟨.of hg, ?_⟩
      by_cases c116 : ((l59.length : Int) + ((1 : Nat) : Int)) * 40 ≤ 140737488355328
      rotate_left
      · rw [if_neg c116] at H; cases H
      rw [if_pos c116] at H
      replace hS := hS.front 5 rfl
      refine on1 16 hE (.ap (d := T_api_Node.k) 40 hS (row_src (hS.row_at (i := 1) rfl)) c116 c114) ?_
      rintro _ u119 a ⟨A117, c118, rfl, hS, hz⟩ hE
      refine ⟨.d, ?_⟩
      refine mny 1 hst hE (.r 17 1 .nil) (fun a hE => ?_)
      replace hS := hS.front 3 rfl
      refine on1 18 hE (.sto hS [.int .i64 t11.1, .int .i64 t18.1, .int .i64 t25.1, .int .i64 t32.1, .slice A117 ((l59 ++ [(⟨t71.1, t78.1, t85.1, t92.1, t99.1, t106.1⟩ : T_api_Node)]).length) c118, .slice none 0 0, .slice none 0 0]) ?_
      rintro _ u120 a ⟨rfl, hb38, hS, hz⟩ hE
      refine ⟨.d, ?_⟩
      refine dn ?_
      refine hK68 _ _ ?_
      refine pl0 ?_
      refine plc hE (.r 0 2 .nil) (fun a hE => ?_)
      refine pld ?_
      replace hS := hS.front 2 rfl
      replace hS := hS.tail
      replace hS := hS.front 1 rfl
      replace hS := hS.front 4 rfl
      replace hS := hS.front 4 rfl
      replace hS := hS.front 3 rfl
      replace hS := hS.front 4 rfl
      exact then_n ⟨k63, by omega, _, (w64 (x51 + 1)), A109, c110, t106.2.f0, t106.2.f1, A117, c118, (l59 ++ [(⟨t71.1, t78.1, t85.1, t92.1, t99.1, t106.1⟩ : T_api_Node)]), F108, by omega, hE, .of, hS, g111, g0_0, g0_1, H⟩
    · rw [if_neg c67] at H
      replace hE := hE.kf 23 c67
      refine cf hE ?_
      refine wp_exit ?_
      refine hK41 _ _ ?_
      refine wp_seq_k fun K122 hK122 => ?_
      refine wp_seq_k fun K123 hK123 => ?_
      refine pl0 ?_
      refine plc hE (.r 0 1 .nil) (fun a hE => ?_)
      obtain ⟨t125, h126, H⟩ := Option.bind_eq_some_iff.mp H
      refine ple hE (.cl en65 (past_reader_count.calls k63 (⟨l54, y56⟩ : T_past_reader) 2 _ _ _ _ _ _ (Own.left (X := [box b7 #[.slice A52 l54.length c53, .bool y56] 116]) hS.own) g55 h126)) ?_
      rintro _ u124 a ⟨F127, A128, c129, rfl, hC, g130⟩ hE
      have hs := hC.sub
      replace hS := hS.called (X := [box b7 #[.slice A52 l54.length c53, .bool y56] 116]) hC
      replace g55 := g55.mono hs
      replace g0_0 := g0_0.mono hs
      replace g0_1 := g0_1.mono hs
      refine plc hE (.r 2 1 .nil) (fun a hE => ?_)
      refine pld ?_
      refine hK123 _ _ ?_
      refine wp_block ?_
      replace hS := hS.nilrow T_api_Temp.k 130
      replace hS := hS.front 5 rfl
      replace hS := hS.front 5 rfl
      replace hS := hS.front 5 rfl
      replace hS := hS.front 5 rfl
      replace hS := hS.front 5 rfl
      refine wp_loop_ghost (fun kq143 a w' => ∃ (G : Nat → Value) (x132 : Int) (A133 : Option Addr) (c134 : Nat) (l135 : List Int) (y137 : Bool) (A138 : Option Addr) (c139 : Nat) (l140 : List T_api_Temp) (F141 : World), kq143 ≤ k63 ∧ Env 98 G a ∧ At G [(1, .pointer (some ⟨b2, 0, none⟩)), (2, .pointer (some ⟨b4, 0, none⟩)), (4, .pointer (some ⟨b7, 0, none⟩)), (5, .pointer (some ⟨b38, 0, none⟩)), (44, .int .i64 t125.1), (45, .int .i64 x132)] ∧ St W (mine W []) F w' F141 [box b7 #[.slice A133 l135.length c134, .bool y137] 116, box b38 #[.int .i64 t11.1, .int .i64 t18.1, .int .i64 t25.1, .int .i64 t32.1, .slice A57 l59.length c58, .slice A138 l140.length c139, .slice none 0 0] 78, box b4 #[.int .i64 0, .int .i64 0, .int .i64 0, .int .i64 0, .slice none 0 0, .slice none 0 0, .slice none 0 0] 78, box b2 #[.slice A0_0 x0_.f0.length c0_0, .slice A0_1 x0_.f1.length c0_1] 36, row T_api_Node.k 102 (.slice A57 l59.length c58) l59, row T_api_Temp.k 130 (.slice A138 l140.length c139) l140] ∧ Rd (Kn.int .i64) F141 A133 c134 l135 ∧ Rd (Kn.int .i64) F141 A0_0 c0_0 x0_.f0 ∧ Rd Kn.string F141 A0_1 c0_1 x0_.f1 ∧  past_ReadMap.l142 kq143 x0_ t11 t18 t25 t32 l59 t125 x132 l135 y137 l140 = some r) k63 ⟨_, 0, A128, c129, t125.2.f0, t125.2.f1, none, 0, [], F127, Nat.le_refl _, hE, .of, hS, g130, g0_0, g0_1, H⟩ ?_
      rintro kq143 a u145 ⟨G, x132, A133, c134, l135, y137, A138, c139, l140, F141, hkq, hE, hA, hS, g136, g0_0, g0_1, H⟩
      cases kq143 with
      | zero => cases (show none = some r from H)
      | succ k144 =>
        rw [past_ReadMap.l142_s] at H
        obtain ⟨J, hE⟩ := hE.at hA
        refine wp_seq_k fun K146 hK146 => ?_
        refine pl0 ?_
        refine plc hE (.r 0 1 .nil) (fun a hE => ?_)
        refine pld ?_
        refine hK146 _ _ ?_
        refine wp_seq_k fun K147 hK147 => ?_
        by_cases c148 : x132 < t125.1
        · rw [if_pos c148] at H
          replace hE := hE.kt 46 c148
          refine ct hE ?_
          refine wp_skip ?_
          refine hK147 _ _ ?_
          refine wp_seq_k fun K149 hK149 => ?_
          refine wp_block ?_
          refine wp_seq_k fun K150 hK150 => ?_
          refine pl0 ?_
          refine plc hE (.r 0 1 .nil) (fun a hE => ?_)
          obtain ⟨t152, h153, H⟩ := Option.bind_eq_some_iff.mp H
          refine ple hE (.cl en53 (past_reader_next.calls (⟨l135, y137⟩ : T_past_reader) _ _ _ _ _ _ (Own.left (X := [box b7 #[.slice A133 l135.length c134, .bool y137] 116]) hS.own) g136 h153)) ?_
          rintro _ u151 a ⟨F154, A155, c156, rfl, hC, g157⟩ hE
          have hs := hC.sub
          replace hS := hS.called (X := [box b7 #[.slice A133 l135.length c134, .bool y137] 116]) hC
          replace g136 := g136.mono hs
          replace g0_0 := g0_0.mono hs
          replace g0_1 := g0_1.mono hs
          refine plc hE (.r 2 1 .nil) (fun a hE => ?_)
          refine ple hE (.al (t := 130) hS [.int .i64 0, .slice none 0 0]) ?_
          rintro _ u159 a ⟨b158, rfl, hb158, hS, hg⟩ hE
          refine ple hE (.sto hS [.int .i64 t152.1, .slice none 0 0]) ?_
          rintro _ u160 a ⟨rfl, hb158, hS, hz⟩ hE
          refine pld ?_
          refine hK150 _ _ ?_
          refine wp_seq_k fun K161 hK161 => ?_
          refine pl0 ?_
          refine plc hE (.r 0 1 .nil) (fun a hE => ?_)
          replace hS := hS.front 1 rfl
          obtain ⟨t163, h164, H⟩ := Option.bind_eq_some_iff.mp H
          refine ple hE (.cl en54 (past_reader_list.calls k144 t152.2 _ _ _ _ _ _ (Own.left (X := [box b7 #[.slice A155 t152.2.f0.length c156, .bool t152.2.f1] 116]) hS.own) g157 h164)) ?_
          rintro _ u162 a ⟨F165, A166, c167, A170, c171, rfl, hC, g172⟩ hE
          have hs := hC.sub
          replace hS := hS.called (X := [box b7 #[.slice A155 t152.2.f0.length c156, .bool t152.2.f1] 116]) hC
          replace g157 := g157.mono hs
          replace g0_0 := g0_0.mono hs
          replace g0_1 := g0_1.mono hs
          refine plc hE (.r 2 1 .nil) (fun a hE => ?_)
          replace hS := hS.front 2 rfl
          refine ple hE (.sto hS [.int .i64 t152.1, .slice A166 t163.1.length c167]) ?_
          rintro _ u173 a ⟨rfl, hb158, hS, hz⟩ hE
          refine pld ?_
          refine hK161 _ _ ?_
          refine pl0 ?_
          have hb38 := hS.blk_at (i := 3) rfl
          refine plc hE (.r 0 1 <| .b 1 5 hb38 <| .bn 2 0 2 hb158 <| .nil) (fun a hE => ?_)
          replace hS := hS.front 2 rfl
          obtain ⟨F177, hs, g178, hS⟩ := hS.give
          replace g172 := g172.mono hs
          replace g0_0 := g0_0.mono hs
          replace g0_1 := g0_1.mono hs
          refine ple hE (.lit (d := T_api_Temp.k) (e := 130) hS [(⟨t152.1, t163.1⟩ : T_api_Temp)] (.cons ⟨_, _, rfl, g178⟩ .nil)) ?_
          rintro _ u174 a ⟨A175, c176, rfl, hS, hg⟩ hE
          by_cases c180 : ((l140.length : Int) + ((1 : Nat) : Int)) * 32 ≤ 140737488355328
          rotate_left
          · rw [if_neg c180] at H; cases H
          rw [if_pos c180] at H
          replace hS := hS.front 7 rfl
          refine ple hE (.ap (d := T_api_Temp.k) 32 hS (row_src (hS.row_at (i := 1) rfl)) c180 c176) ?_
          rintro _ u183 a ⟨A181, c182, rfl, hS, hz⟩ hE
          refine plc hE (.r 5 1 .nil) (fun a hE => ?_)
          replace hS := hS.front 4 rfl
          refine ple hE (.sto hS [.int .i64 t11.1, .int .i64 t18.1, .int .i64 t25.1, .int .i64 t32.1, .slice A57 l59.length c58, .slice A181 ((l140 ++ [(⟨t152.1, t163.1⟩ : T_api_Temp)]).length) c182, .slice none 0 0]) ?_
          rintro _ u184 a ⟨rfl, hb38, hS, hz⟩ hE
          refine pld ?_
          refine hK149 _ _ ?_
          refine pl0 ?_
          refine plc hE (.r 0 2 .nil) (fun a hE => ?_)
          refine pld ?_
          replace hS := hS.front 2 rfl
          replace hS := hS.tail
          replace hS := hS.front 2 rfl
          replace hS := hS.tail
          replace hS := hS.front 1 rfl
          replace hS := hS.front 5 rfl
          replace hS := hS.front 5 rfl
          replace hS := hS.front 5 rfl
          replace hS := hS.front 4 rfl
          replace hS := hS.front 5 rfl
          exact then_n ⟨k144, by omega, _, (w64 (x132 + 1)), A170, c171, t163.2.f0, t163.2.f1, A181, c182, (l140 ++ [(⟨t152.1, t163.1⟩ : T_api_Temp)]), F177, by omega, hE, .of, hS, g172, g0_0, g0_1, H⟩
        · rw [if_neg c148] at H
          replace hE := hE.kf 46 c148
          refine cf hE ?_
          refine wp_exit ?_
          refine hK122 _ _ ?_
          refine wp_seq_k fun K186 hK186 => ?_
          refine wp_seq_k fun K187 hK187 => ?_
          refine pl0 ?_
          have hb38 := hS.blk_at (i := 1) rfl
          refine plc hE (.r 0 1 <| .b 1 3 hb38 <| .r 2 2 <| .nil) (fun a hE => ?_)
          refine pld ?_
          refine hK187 _ _ ?_
          refine wp_block ?_
          replace hS := hS.nilrow T_api_Trail.k 133
          replace hS := hS.front 6 rfl
          replace hS := hS.front 6 rfl
          replace hS := hS.front 6 rfl
          replace hS := hS.front 6 rfl
          replace hS := hS.front 6 rfl
          replace hS := hS.front 6 rfl
          refine wp_loop_ghost (fun kq200 a w' => ∃ (G : Nat → Value) (x189 : Int) (A190 : Option Addr) (c191 : Nat) (l192 : List Int) (y194 : Bool) (A195 : Option Addr) (c196 : Nat) (l197 : List T_api_Trail) (F198 : World), kq200 ≤ k144 ∧ Env 98 G a ∧ At G [(1, .pointer (some ⟨b2, 0, none⟩)), (2, .pointer (some ⟨b4, 0, none⟩)), (4, .pointer (some ⟨b7, 0, none⟩)), (5, .pointer (some ⟨b38, 0, none⟩)), (62, .int .i64 (if 8 < t32.1 then 8 else t32.1)), (63, .int .i64 x189)] ∧ St W (mine W []) F w' F198 [box b7 #[.slice A190 l192.length c191, .bool y194] 116, box b38 #[.int .i64 t11.1, .int .i64 t18.1, .int .i64 t25.1, .int .i64 t32.1, .slice A57 l59.length c58, .slice A138 l140.length c139, .slice A195 l197.length c196] 78, box b4 #[.int .i64 0, .int .i64 0, .int .i64 0, .int .i64 0, .slice none 0 0, .slice none 0 0, .slice none 0 0] 78, box b2 #[.slice A0_0 x0_.f0.length c0_0, .slice A0_1 x0_.f1.length c0_1] 36, row T_api_Node.k 102 (.slice A57 l59.length c58) l59, row T_api_Temp.k 130 (.slice A138 l140.length c139) l140, row T_api_Trail.k 133 (.slice A195 l197.length c196) l197] ∧ Rd (Kn.int .i64) F198 A190 c191 l192 ∧ Rd (Kn.int .i64) F198 A0_0 c0_0 x0_.f0 ∧ Rd Kn.string F198 A0_1 c0_1 x0_.f1 ∧  past_ReadMap.l199 kq200 x0_ t11 t18 t25 t32 l59 l140 x189 l192 y194 l197 = some r) k144 ⟨_, 0, A133, c134, l135, y137, none, 0, [], F141, Nat.le_refl _, hE, .of, hS, g136, g0_0, g0_1, H⟩ ?_
          rintro kq200 a u202 ⟨G, x189, A190, c191, l192, y194, A195, c196, l197, F198, hkq, hE, hA, hS, g193, g0_0, g0_1, H⟩
          cases kq200 with
          | zero => cases (show none = some r from H)
          | succ k201 =>
            rw [past_ReadMap.l199_s] at H
            obtain ⟨J, hE⟩ := hE.at hA
            refine wp_seq_k fun K203 hK203 => ?_
            refine pl0 ?_
            refine plc hE (.r 0 1 .nil) (fun a hE => ?_)
            refine pld ?_
            refine hK203 _ _ ?_
            refine wp_seq_k fun K204 hK204 => ?_
            by_cases c205 : x189 < (if 8 < t32.1 then 8 else t32.1)
            · rw [if_pos c205] at H
              replace hE := hE.kt 64 c205
              refine ct hE ?_
              refine wp_skip ?_
              refine hK204 _ _ ?_
              refine wp_seq_k fun K206 hK206 => ?_
              refine wp_block ?_
              refine drawn 8 ⟨[3, 5, 7], [3], fun q => q = b7⟩ mixed rfl (by kernel_rfl) (fun hst => ?_)
              replace hS := hS.drew
              have ne207 : ¬ (b38 = b7) := by intro h; exact hS.ne (i := 1) (j := 0) rfl rfl (by decide) h
              have hb38 := hS.blk_at (i := 1) rfl
              refine mny 5 hst hE (.r 0 1 <| .bX 1 6 hb38 ne207 <| .r 2 1 <| .nil) (fun a hE => ?_)
              obtain ⟨t209, h210, H⟩ := Option.bind_eq_some_iff.mp H
              refine on1 3 hE (.cl en67 (past_reader_trail.calls k201 (⟨l192, y194⟩ : T_past_reader) _ _ _ _ _ _ (Own.left (X := [box b7 #[.slice A190 l192.length c191, .bool y194] 116]) hS.own) g193 h210)) ?_
              rintro _ u208 a ⟨F211, A212, c213, A216, c217, rfl, hC, g218⟩ hE
              refine ⟨.c (hC.agrX (by intro A hA b hb; simp only [List.mem_cons, List.not_mem_nil, or_false] at hA; rcases hA with rfl <;> (cases (show b = _ from hb); simp))), ?_⟩
              have hs := hC.sub
              replace hS := hS.called (X := [box b7 #[.slice A190 l192.length c191, .bool y194] 116]) hC
              replace g193 := g193.mono hs
              replace g0_0 := g0_0.mono hs
              replace g0_1 := g0_1.mono hs
              replace hS := hS.front 1 rfl
              obtain ⟨F222, hs, g223, hS⟩ := hS.give
              replace g218 := g218.mono hs
              replace g0_0 := g0_0.mono hs
              replace g0_1 := g0_1.mono hs
              refine on1 4 hE (.lit (d := T_api_Trail.k) (e := 133) hS [t209.1] (.cons ⟨_, _, rfl, g223⟩ .nil)) ?_
              rintro _ u219 a ⟨A220, c221, rfl, hS, hg⟩ hE
              refine ⟨.of hg, ?_⟩
              by_cases c225 : ((l197.length : Int) + ((1 : Nat) : Int)) * 32 ≤ 140737488355328
              rotate_left
              · rw [if_neg c225] at H; cases H
              rw [if_pos c225] at H
              replace hS := hS.front 7 rfl
              refine on1 5 hE (.ap (d := T_api_Trail.k) 32 hS (row_src (hS.row_at (i := 1) rfl)) c225 c221) ?_
              rintro _ u228 a ⟨A226, c227, rfl, hS, hz⟩ hE
              refine ⟨.d, ?_⟩
              refine mny 1 hst hE (.r 6 1 .nil) (fun a hE => ?_)
              replace hS := hS.front 3 rfl
              refine on1 7 hE (.sto hS [.int .i64 t11.1, .int .i64 t18.1, .int .i64 t25.1, .int .i64 t32.1, .slice A57 l59.length c58, .slice A138 l140.length c139, .slice A226 ((l197 ++ [t209.1]).length) c227]) ?_
              rintro _ u229 a ⟨rfl, hb38, hS, hz⟩ hE
              refine ⟨.d, ?_⟩
              refine dn ?_
              refine hK206 _ _ ?_
              refine pl0 ?_
              refine plc hE (.r 0 2 .nil) (fun a hE => ?_)
              refine pld ?_
              replace hS := hS.front 2 rfl
              replace hS := hS.tail
              replace hS := hS.front 1 rfl
              replace hS := hS.front 6 rfl
              replace hS := hS.front 6 rfl
              replace hS := hS.front 6 rfl
              replace hS := hS.front 6 rfl
              replace hS := hS.front 5 rfl
              replace hS := hS.front 6 rfl
              exact then_n ⟨k201, by omega, _, (w64 (x189 + 1)), A216, c217, t209.2.f0, t209.2.f1, A226, c227, (l197 ++ [t209.1]), F222, by omega, hE, .of, hS, g218, g0_0, g0_1, H⟩
            · rw [if_neg c205] at H
              replace hE := hE.kf 64 c205
              refine cf hE ?_
              refine wp_exit ?_
              refine hK186 _ _ ?_
              refine wp_seq_k fun K231 hK231 => ?_
              refine wp_seq_k fun K232 hK232 => ?_
              have J243 : ∀ kq241, kq241 ≤ k201 → ∀ (G : Nat → Value) (y239 : Bool) (a : Act) (w' : World), Env 98 G a → At G [(2, .pointer (some ⟨b4, 0, none⟩)), (5, .pointer (some ⟨b38, 0, none⟩)), (95, .bool y239)] → St W (mine W []) F w' F198 [box b7 #[.slice A190 l192.length c191, .bool y194] 116, box b38 #[.int .i64 t11.1, .int .i64 t18.1, .int .i64 t25.1, .int .i64 t32.1, .slice A57 l59.length c58, .slice A138 l140.length c139, .slice A195 l197.length c196] 78, box b4 #[.int .i64 0, .int .i64 0, .int .i64 0, .int .i64 0, .slice none 0 0, .slice none 0 0, .slice none 0 0] 78, box b2 #[.slice A0_0 x0_.f0.length c0_0, .slice A0_1 x0_.f1.length c0_1] 36, row T_api_Node.k 102 (.slice A57 l59.length c58) l59, row T_api_Temp.k 130 (.slice A138 l140.length c139) l140, row T_api_Trail.k 133 (.slice A195 l197.length c196) l197] → past_ReadMap.j240 kq241 t11 t18 t25 t32 l59 l140 l197 y239 = some r → K232 a w' := by
                intro kq241 hkq G y239 a u244 hE hA hS H
                cases kq241 with
                | zero => cases (show none = some r from H)
                | succ k242 =>
                  rw [past_ReadMap.j240_s] at H
                  obtain ⟨J, hE⟩ := hE.at hA
                  refine hK232 _ _ ?_
                  by_cases c245 : y239 = true
                  · rw [if_pos c245] at H
                    replace hE := hE.bt 95 c245
                    refine ct hE ?_
                    refine wp_seq_k fun K246 hK246 => ?_
                    refine pl0 ?_
                    refine plc hE (.r 0 1 .nil) (fun a hE => ?_)
                    replace hS := hS.front 2 rfl
                    refine ple hE (.sto hS [.int .i64 0, .int .i64 0, .int .i64 0, .int .i64 0, .slice none 0 0, .slice none 0 0, .slice none 0 0]) ?_
                    rintro _ u247 a ⟨rfl, hb4, hS, hz⟩ hE
                    refine plc hE (.r 2 1 .nil) (fun a hE => ?_)
                    refine pld ?_
                    refine hK246 _ _ ?_
                    refine wp_ret (then_ret ?_)
                    replace hS := hS.nilrow T_api_Node.k 102
                    replace hS := hS.nilrow T_api_Temp.k 130
                    replace hS := hS.nilrow T_api_Trail.k 133
                    replace hS := hS.front 3 rfl
                    replace hS := hS.tail
                    replace hS := hS.front 3 rfl
                    replace hS := hS.tail
                    replace hS := hS.front 3 rfl
                    replace hS := hS.tail
                    replace hS := hS.front 3 rfl
                    replace hS := hS.tail
                    replace hS := hS.front 3 rfl
                    replace hS := hS.tail
                    replace hS := hS.front 3 rfl
                    replace hS := hS.tail
                    replace hS := hS.front 3 rfl
                    replace hS := hS.tail
                    replace hS := hS.front 1 rfl
                    replace hS := hS.front 2 rfl
                    obtain rfl := Option.some.inj H
                    exact retN hE rfl (of_decide_eq_true rfl) (.cell (by kernel_rfl) (res_blk [.int .i64 0, .int .i64 0, .int .i64 0, .int .i64 0, .slice none 0 0, .slice none 0 0, .slice none 0 0] ag78 sz78 hb4 rfl) (.tmp (by kernel_rfl) .nil)) ⟨_, rfl, _, _, _, _, _, _, _, rfl, hS⟩
                  · rw [if_neg c245] at H
                    replace hE := hE.bf 95 c245
                    refine cf hE ?_
                    refine wp_skip ?_
                    refine hK231 _ _ ?_
                    refine wp_seq_k fun K251 hK251 => ?_
                    refine pl0 ?_
                    have hb38 := hS.blk_at (i := 1) rfl
                    refine plc hE (.bn 0 0 7 hb38 .nil) (fun a hE => ?_)
                    replace hS := hS.front 2 rfl
                    refine ple hE (.sto hS [.int .i64 t11.1, .int .i64 t18.1, .int .i64 t25.1, .int .i64 t32.1, .slice A57 l59.length c58, .slice A138 l140.length c139, .slice A195 l197.length c196]) ?_
                    rintro _ u252 a ⟨rfl, hb4, hS, hz⟩ hE
                    refine plc hE (.r 2 1 .nil) (fun a hE => ?_)
                    refine pld ?_
                    refine hK251 _ _ ?_
                    refine wp_ret ?_
                    replace hS := hS.tail
                    replace hS := hS.tail
                    replace hS := hS.tail
                    replace hS := hS.tail
                    obtain rfl := Option.some.inj H
                    exact retN hE rfl (of_decide_eq_true rfl) (.cell (by kernel_rfl) (res_blk [.int .i64 t11.1, .int .i64 t18.1, .int .i64 t25.1, .int .i64 t32.1, .slice A57 l59.length c58, .slice A138 l140.length c139, .slice A195 l197.length c196] ag78 sz78 hb4 rfl) (.tmp (by kernel_rfl) .nil)) ⟨_, rfl, _, _, _, _, _, _, _, rfl, hS⟩
              refine pl0 ?_
              have hb7 := hS.blk_at (i := 0) rfl
              refine plc hE (.r 0 3 <| .b 3 1 hb7 <| .r 4 1 <| .nil) (fun a hE => ?_)
              by_cases c233 : y194 = true
              · rw [if_pos c233] at H
                replace hE := hE.bt 77 c233
                refine plc hE (.r 5 18 .nil) (fun a hE => ?_)
                refine pld ?_
                exact J243 _ (by omega) _ true _ _ hE .of hS H
              · rw [if_neg c233] at H
                replace hE := hE.bf 77 c233
                refine plc hE (.r 5 3 <| .b 8 0 hb7 <| .r 9 4 <| .nil) (fun a hE => ?_)
                by_cases c234 : (l192.length : Int) > 0
                · rw [if_pos c234] at H
                  replace hE := hE.kt 85 c234
                  refine plc hE (.r 13 10 .nil) (fun a hE => ?_)
                  refine pld ?_
                  exact J243 _ (by omega) _ true _ _ hE .of hS H
                · rw [if_neg c234] at H
                  replace hE := hE.kf 85 c234
                  have hb2 := hS.blk_at (i := 3) rfl
                  refine plc hE (.r 13 1 <| .b 14 1 hb2 <| .r 15 4 <| .nil) (fun a hE => ?_)
                  by_cases c235 : (x0_.f1.length : Int) > 0
                  · rw [if_pos c235] at H
                    replace hE := hE.kt 91 c235
                    refine plc hE (.r 19 4 .nil) (fun a hE => ?_)
                    refine pld ?_
                    exact J243 _ (by omega) _ true _ _ hE .of hS H
                  · rw [if_neg c235] at H
                    replace hE := hE.kf 91 c235
                    have hb38 := hS.blk_at (i := 1) rfl
                    refine plc hE (.bn 19 0 7 hb38 .nil) (fun a hE => ?_)
                    obtain ⟨t237, h238, H⟩ := Option.bind_eq_some_iff.mp H
                    refine ple hE (.cl en68 (maps_Check.calls k201 (⟨t11.1, t18.1, t25.1, t32.1, l59, l140, l197⟩ : T_api_Map) _ _ _ _ _ _ _ _ _ (Sub.refl _) (hS.rd_at (i := 4) rfl) (hS.rd_at (i := 5) rfl) (hS.rd_at (i := 6) rfl) h238)) ?_
                    rintro _ u236 a ⟨_, rfl, hC⟩ hE
                    replace hS := hS.lent hC
                    refine plc hE (.r 21 2 .nil) (fun a hE => ?_)
                    refine pld ?_
                    exact J243 _ (by omega) _ (!(t237 == 0)) _ _ hE .of hS H

/-! ### windrose/windroseref02.Strings: function 59 -/
def windroseref02_Strings.l9 : Nat → List ByteArray → List ByteArray → Int → Option Bool
  | 0, _, _, _ => none
  | k + 1, x0_, x1_, x8 => if x8 < (x0_.length : Int) then (if 0 ≤ x8 ∧ x8 < (x0_.length : Int) then (if 0 ≤ x8 ∧ x8 < (x1_.length : Int) then (if (nth ByteArray.empty x0_ x8).toList = (nth ByteArray.empty x1_ x8).toList then (windroseref02_Strings.l9 k x0_ x1_ (w64 (x8 + 1))) else (some false)) else (none)) else (none)) else (some true)
theorem windroseref02_Strings.l9_s (k : Nat) (x0_ : List ByteArray) (x1_ : List ByteArray) (x8 : Int) : windroseref02_Strings.l9 (k + 1) x0_ x1_ x8 = (if x8 < (x0_.length : Int) then (if 0 ≤ x8 ∧ x8 < (x0_.length : Int) then (if 0 ≤ x8 ∧ x8 < (x1_.length : Int) then (if (nth ByteArray.empty x0_ x8).toList = (nth ByteArray.empty x1_ x8).toList then (windroseref02_Strings.l9 k x0_ x1_ (w64 (x8 + 1))) else (some false)) else (none)) else (none)) else (some true)) := by kernel_rfl
def windroseref02_Strings.f (k : Nat) (x0_ : List ByteArray) (x1_ : List ByteArray) : Option Bool := if (x0_.length : Int) = (x1_.length : Int) then (windroseref02_Strings.l9 k x0_ x1_ 0) else (some false)
def windroseref02_Strings.Post (W F : World) (r : Bool) (v : Value) (w' : World) : Prop := ∃ (F' : World), v = .bool r ∧ St W (mine W []) F w' F' []
set_option maxHeartbeats 4000000 in
set_option maxRecDepth 100000 in
theorem windroseref02_Strings.calls (k : Nat) (x0_ : List ByteArray) (x1_ : List ByteArray) (A0_0 : Option Addr) (c0_0 : Nat) (A1_0 : Option Addr) (c1_0 : Nat) (r : Bool) (W F : World) (hown : Sub F W) (g0_0 : Rd Kn.string F A0_0 c0_0 x0_) (g1_0 : Rd Kn.string F A1_0 c1_0 x1_) (H : windroseref02_Strings.f k x0_ x1_ = some r) :
    Calls Try.prog 59 #[.slice A0_0 x0_.length c0_0, .slice A1_0 x1_.length c1_0] W fun e w' => ∃ v, e = .returned v ∧ windroseref02_Strings.Post W F r v w' := by
  have hS := St.start (Own.nil hown)
  unfold windroseref02_Strings.f at H
  refine enter (n := 26) rfl rfl rfl (Nat.le_of_ble_eq_true rfl) (fun a hE => ?_)
  refine wp_seq_k fun K1 hK1 => ?_
  refine pl0 ?_
  refine plc hE (.r 0 1 .nil) (fun a hE => ?_)
  refine pld ?_
  refine hK1 _ _ ?_
  refine wp_seq_k fun K2 hK2 => ?_
  refine wp_seq_k fun K3 hK3 => ?_
  refine pl0 ?_
  refine plc hE (.r 0 5 .nil) (fun a hE => ?_)
  refine pld ?_
  refine hK3 _ _ ?_
  by_cases c4 : (x0_.length : Int) = (x1_.length : Int)
  · rw [if_pos c4] at H
    replace hE := hE.ktn 10 c4
    refine cf hE ?_
    refine wp_skip ?_
    refine hK2 _ _ ?_
    refine wp_seq_k fun K6 hK6 => ?_
    refine wp_seq_k fun K7 hK7 => ?_
    refine pl0 ?_
    refine plc hE (.r 0 1 .nil) (fun a hE => ?_)
    refine pld ?_
    refine hK7 _ _ ?_
    refine wp_block ?_
    refine wp_loop_ghost (fun kq10 a w' => ∃ (G : Nat → Value) (x8 : Int), kq10 ≤ k ∧ Env 26 G a ∧ At G [(0, .slice A0_0 x0_.length c0_0), (1, .slice A1_0 x1_.length c1_0), (5, .int .i64 x8)] ∧ St W (mine W []) F w' F [] ∧  windroseref02_Strings.l9 kq10 x0_ x1_ x8 = some r) k ⟨_, 0, Nat.le_refl _, hE, .of, hS, H⟩ ?_
    rintro kq10 a u12 ⟨G, x8, hkq, hE, hA, hS, H⟩
    cases kq10 with
    | zero => cases (show none = some r from H)
    | succ k11 =>
      rw [windroseref02_Strings.l9_s] at H
      obtain ⟨J, hE⟩ := hE.at hA
      refine wp_seq_k fun K13 hK13 => ?_
      refine wp_seq_k fun K14 hK14 => ?_
      refine pl0 ?_
      refine plc hE (.r 0 4 .nil) (fun a hE => ?_)
      refine pld ?_
      refine hK14 _ _ ?_
      by_cases c15 : x8 < (x0_.length : Int)
      · rw [if_pos c15] at H
        replace hE := hE.kt 14 c15
        refine ct hE ?_
        refine wp_skip ?_
        refine hK13 _ _ ?_
        refine wp_seq_k fun K16 hK16 => ?_
        refine wp_block ?_
        refine wp_seq_k fun K17 hK17 => ?_
        refine drawn 9 ⟨[], [], fun q => False⟩ mixed rfl (by kernel_rfl) (fun hst => ?_)
        replace hS := hS.drew
        by_cases c18 : 0 ≤ x8 ∧ x8 < (x0_.length : Int)
        rotate_left
        · rw [if_neg c18] at H; cases H
        rw [if_pos c18] at H
        have hE_ := hE
        obtain ⟨ad19, rfl⟩ := g0_0.addr c18.1 c18.2
        replace hE := hE_
        obtain ⟨cs21, rfl, hc22⟩ := g0_0.el ByteArray.empty x8 c18.1 c18.2
        by_cases c23 : 0 ≤ x8 ∧ x8 < (x1_.length : Int)
        rotate_left
        · rw [if_neg c23] at H; cases H
        rw [if_pos c23] at H
        have hE_ := hE
        obtain ⟨ad24, rfl⟩ := g1_0.addr c23.1 c23.2
        replace hE := hE_
        obtain ⟨cs26, rfl, hc27⟩ := g1_0.el ByteArray.empty x8 c23.1 c23.2
        refine mny 0 hst hE (.r 0 2 <| .x 2 c18 <| .c 3 (hS.fc hc22 0) <| .r 4 2 <| .x 6 c23 <| .c 7 (hS.fc hc27 0) <| .r 8 1 <| .nil) (fun a hE => ?_)
        refine dn ?_
        refine hK17 _ _ ?_
        by_cases c28 : (nth ByteArray.empty x0_ x8).toList = (nth ByteArray.empty x1_ x8).toList
        · rw [if_pos c28] at H
          replace hE := hE.etn 25 c28
          refine cf hE ?_
          refine wp_skip ?_
          refine hK16 _ _ ?_
          refine pl0 ?_
          refine plc hE (.r 0 3 .nil) (fun a hE => ?_)
          refine pld ?_
          exact then_n ⟨k11, by omega, _, (w64 (x8 + 1)), by omega, hE, .of, hS, H⟩
        · rw [if_neg c28] at H
          replace hE := hE.efn 25 c28
          refine ct hE ?_
          refine wp_seq_k fun K29 hK29 => ?_
          refine pl0 ?_
          refine plc hE (.r 0 1 .nil) (fun a hE => ?_)
          refine pld ?_
          refine hK29 _ _ ?_
          refine wp_ret (block_ret (then_ret (then_ret (block_ret (then_ret ?_)))))
          obtain rfl := Option.some.inj H
          exact rt1 hE ⟨_, rfl, _, rfl, hS⟩
      · rw [if_neg c15] at H
        replace hE := hE.kf 14 c15
        refine cf hE ?_
        refine wp_exit ?_
        refine hK6 _ _ ?_
        refine wp_seq_k fun K30 hK30 => ?_
        refine pl0 ?_
        refine plc hE (.r 0 1 .nil) (fun a hE => ?_)
        refine pld ?_
        refine hK30 _ _ ?_
        refine wp_ret ?_
        obtain rfl := Option.some.inj H
        exact rt1 hE ⟨_, rfl, _, rfl, hS⟩
  · rw [if_neg c4] at H
    replace hE := hE.kfn 10 c4
    refine ct hE ?_
    refine wp_seq_k fun K5 hK5 => ?_
    refine pl0 ?_
    refine plc hE (.r 0 1 .nil) (fun a hE => ?_)
    refine pld ?_
    refine hK5 _ _ ?_
    refine wp_ret (then_ret ?_)
    obtain rfl := Option.some.inj H
    exact rt1 hE ⟨_, rfl, _, rfl, hS⟩

/-! ### windrose/windroseref02.Same: function 22 -/
def windroseref02_Same.f (k : Nat) (x0_ : T_api_Data) (x1_ : T_api_Data) : Option Bool := (windroseref02_Ints.f k x0_.f0 x1_.f0).bind fun t8 => (if t8 = true then ((windroseref02_Strings.f k x0_.f1 x1_.f1).bind fun t12 => (some t12)) else (some false))
def windroseref02_Same.Post (W F : World) (r : Bool) (v : Value) (w' : World) : Prop := ∃ (F' : World), v = .bool r ∧ St W (mine W []) F w' F' []
set_option maxHeartbeats 4000000 in
set_option maxRecDepth 100000 in
theorem windroseref02_Same.calls (k : Nat) (x0_ : T_api_Data) (x1_ : T_api_Data) (A0_0 : Option Addr) (c0_0 : Nat) (A0_1 : Option Addr) (c0_1 : Nat) (A1_0 : Option Addr) (c1_0 : Nat) (A1_1 : Option Addr) (c1_1 : Nat) (r : Bool) (W F : World) (hown : Sub F W) (g0_0 : Rd (Kn.int .i64) F A0_0 c0_0 x0_.f0) (g0_1 : Rd Kn.string F A0_1 c0_1 x0_.f1) (g1_0 : Rd (Kn.int .i64) F A1_0 c1_0 x1_.f0) (g1_1 : Rd Kn.string F A1_1 c1_1 x1_.f1) (H : windroseref02_Same.f k x0_ x1_ = some r) :
    Calls Try.prog 22 #[.agg #[.slice A0_0 x0_.f0.length c0_0, .slice A0_1 x0_.f1.length c0_1], .agg #[.slice A1_0 x1_.f0.length c1_0, .slice A1_1 x1_.f1.length c1_1]] W fun e w' => ∃ v, e = .returned v ∧ windroseref02_Same.Post W F r v w' := by
  have hS := St.start (Own.nil hown)
  unfold windroseref02_Same.f at H
  refine enter (n := 17) rfl rfl rfl (Nat.le_of_ble_eq_true rfl) (fun a hE => ?_)
  refine wp_seq_k fun K1 hK1 => ?_
  refine pl0 ?_
  refine ple hE (.bx (t := 36) hS [.slice A0_0 x0_.f0.length c0_0, .slice A0_1 x0_.f1.length c0_1]) ?_
  rintro _ u3 a ⟨b2, rfl, hb2, hS, hg⟩ hE
  refine ple hE (.bx (t := 36) hS [.slice A1_0 x1_.f0.length c1_0, .slice A1_1 x1_.f1.length c1_1]) ?_
  rintro _ u5 a ⟨b4, rfl, hb4, hS, hg⟩ hE
  refine plc hE (.r 2 1 .nil) (fun a hE => ?_)
  refine pld ?_
  refine hK1 _ _ ?_
  refine wp_seq_k fun K6 hK6 => ?_
  refine pl0 ?_
  have hb2 := hS.blk_at (i := 1) rfl
  refine plc hE (.r 0 1 <| .b 1 0 hb2 <| .r 2 1 <| .b 3 0 hb4 <| .nil) (fun a hE => ?_)
  obtain ⟨t8, h9, H⟩ := Option.bind_eq_some_iff.mp H
  refine ple hE (.cl en44 (windroseref02_Ints.calls k x0_.f0 x1_.f0 _ _ _ _ _ _ _ hS.own.sub g0_0 g1_0 h9)) ?_
  rintro _ u7 a ⟨_, rfl, hC⟩ hE
  replace hS := hS.lent hC
  refine plc hE (.r 5 1 .nil) (fun a hE => ?_)
  by_cases c10 : t8 = true
  · rw [if_pos c10] at H
    replace hE := hE.bt 10 c10
    have hb2 := hS.blk_at (i := 1) rfl
    have hb4 := hS.blk_at (i := 0) rfl
    refine plc hE (.r 6 1 <| .b 7 1 hb2 <| .r 8 1 <| .b 9 1 hb4 <| .nil) (fun a hE => ?_)
    obtain ⟨t12, h13, H⟩ := Option.bind_eq_some_iff.mp H
    refine ple hE (.cl en59 (windroseref02_Strings.calls k x0_.f1 x1_.f1 _ _ _ _ _ _ _ hS.own.sub g0_1 g1_1 h13)) ?_
    rintro _ u11 a ⟨_, rfl, hC⟩ hE
    replace hS := hS.lent hC
    refine plc hE (.r 11 2 .nil) (fun a hE => ?_)
    refine pld ?_
    refine hK6 _ _ ?_
    refine wp_ret ?_
    replace hS := hS.tail
    replace hS := hS.tail
    obtain rfl := Option.some.inj H
    exact rt1 hE ⟨_, rfl, _, rfl, hS⟩
  · rw [if_neg c10] at H
    replace hE := hE.bf 10 c10
    refine plc hE (.r 6 7 .nil) (fun a hE => ?_)
    refine pld ?_
    refine hK6 _ _ ?_
    refine wp_ret ?_
    replace hS := hS.tail
    replace hS := hS.tail
    obtain rfl := Option.some.inj H
    exact rt1 hE ⟨_, rfl, _, rfl, hS⟩

/-! ### windrose/windroseref06.May: function 43 -/
mutual
def windroseref06_May.l5 : Nat → List T_api_Node → Int → Option Bool
  | 0, _, _ => none
  | k + 1, x0_, x4 => if x4 < (x0_.length : Int) then (if 0 ≤ x4 ∧ x4 < (x0_.length : Int) then (if (nth T_api_Node.z x0_ x4).f0 < 1 then (windroseref06_May.j37 k x0_ x4 true) else (if (nth T_api_Node.z x0_ x4).f0 > 999 then (windroseref06_May.j37 k x0_ x4 true) else (if (nth T_api_Node.z x0_ x4).f1 < 1 then (windroseref06_May.j37 k x0_ x4 true) else (if (nth T_api_Node.z x0_ x4).f1 > 9 then (windroseref06_May.j37 k x0_ x4 true) else (if (nth T_api_Node.z x0_ x4).f2 < 1 then (windroseref06_May.j37 k x0_ x4 true) else (if (nth T_api_Node.z x0_ x4).f2 > 9 then (windroseref06_May.j37 k x0_ x4 true) else (if (nth T_api_Node.z x0_ x4).f3 < 0 then (windroseref06_May.j37 k x0_ x4 true) else (if (nth T_api_Node.z x0_ x4).f3 > 65536 then (windroseref06_May.j37 k x0_ x4 true) else (if x4 > 0 then (if 0 ≤ (w64 (x4 - 1)) ∧ (w64 (x4 - 1)) < (x0_.length : Int) then (windroseref06_May.j37 k x0_ x4 (decide ((nth T_api_Node.z x0_ (w64 (x4 - 1))).f0 ≥ (nth T_api_Node.z x0_ x4).f0))) else (none)) else (windroseref06_May.j37 k x0_ x4 false)))))))))) else (none)) else (some (decide ((x0_.length : Int) ≤ 12)))
def windroseref06_May.j37 : Nat → List T_api_Node → Int → Bool → Option Bool
  | 0, _, _, _ => none
  | k + 1, x0_, x4, y36 => if y36 = true then (some false) else (windroseref06_May.l5 k x0_ (w64 (x4 + 1)))
end
theorem windroseref06_May.l5_s (k : Nat) (x0_ : List T_api_Node) (x4 : Int) : windroseref06_May.l5 (k + 1) x0_ x4 = (if x4 < (x0_.length : Int) then (if 0 ≤ x4 ∧ x4 < (x0_.length : Int) then (if (nth T_api_Node.z x0_ x4).f0 < 1 then (windroseref06_May.j37 k x0_ x4 true) else (if (nth T_api_Node.z x0_ x4).f0 > 999 then (windroseref06_May.j37 k x0_ x4 true) else (if (nth T_api_Node.z x0_ x4).f1 < 1 then (windroseref06_May.j37 k x0_ x4 true) else (if (nth T_api_Node.z x0_ x4).f1 > 9 then (windroseref06_May.j37 k x0_ x4 true) else (if (nth T_api_Node.z x0_ x4).f2 < 1 then (windroseref06_May.j37 k x0_ x4 true) else (if (nth T_api_Node.z x0_ x4).f2 > 9 then (windroseref06_May.j37 k x0_ x4 true) else (if (nth T_api_Node.z x0_ x4).f3 < 0 then (windroseref06_May.j37 k x0_ x4 true) else (if (nth T_api_Node.z x0_ x4).f3 > 65536 then (windroseref06_May.j37 k x0_ x4 true) else (if x4 > 0 then (if 0 ≤ (w64 (x4 - 1)) ∧ (w64 (x4 - 1)) < (x0_.length : Int) then (windroseref06_May.j37 k x0_ x4 (decide ((nth T_api_Node.z x0_ (w64 (x4 - 1))).f0 ≥ (nth T_api_Node.z x0_ x4).f0))) else (none)) else (windroseref06_May.j37 k x0_ x4 false)))))))))) else (none)) else (some (decide ((x0_.length : Int) ≤ 12)))) := by kernel_rfl
theorem windroseref06_May.j37_s (k : Nat) (x0_ : List T_api_Node) (x4 : Int) (y36 : Bool) : windroseref06_May.j37 (k + 1) x0_ x4 y36 = (if y36 = true then (some false) else (windroseref06_May.l5 k x0_ (w64 (x4 + 1)))) := by kernel_rfl
def windroseref06_May.f (k : Nat) (x0_ : List T_api_Node) : Option Bool := windroseref06_May.l5 k x0_ 0
def windroseref06_May.Post (W F : World) (r : Bool) (v : Value) (w' : World) : Prop := ∃ (F' : World), v = .bool r ∧ St W (mine W []) F w' F' []
set_option maxHeartbeats 4000000 in
set_option maxRecDepth 100000 in
theorem windroseref06_May.calls (k : Nat) (x0_ : List T_api_Node) (A0_0 : Option Addr) (c0_0 : Nat) (r : Bool) (W F : World) (hown : Sub F W) (g0_0 : Rd T_api_Node.k F A0_0 c0_0 x0_) (H : windroseref06_May.f k x0_ = some r) :
    Calls Try.prog 43 #[.slice A0_0 x0_.length c0_0] W fun e w' => ∃ v, e = .returned v ∧ windroseref06_May.Post W F r v w' := by
  have hS := St.start (Own.nil hown)
  unfold windroseref06_May.f at H
  refine enter (n := 71) rfl rfl rfl (Nat.le_of_ble_eq_true rfl) (fun a hE => ?_)
  refine wp_seq_k fun K1 hK1 => ?_
  refine pl0 ?_
  refine plc hE (.r 0 1 .nil) (fun a hE => ?_)
  refine pld ?_
  refine hK1 _ _ ?_
  refine wp_seq_k fun K2 hK2 => ?_
  refine wp_seq_k fun K3 hK3 => ?_
  refine pl0 ?_
  refine plc hE (.r 0 1 .nil) (fun a hE => ?_)
  refine pld ?_
  refine hK3 _ _ ?_
  refine wp_block ?_
  refine wp_loop_ghost (fun kq6 a w' => ∃ (G : Nat → Value) (x4 : Int), kq6 ≤ k ∧ Env 71 G a ∧ At G [(0, .slice A0_0 x0_.length c0_0), (3, .int .i64 x4)] ∧ St W (mine W []) F w' F [] ∧  windroseref06_May.l5 kq6 x0_ x4 = some r) k ⟨_, 0, Nat.le_refl _, hE, .of, hS, H⟩ ?_
  rintro kq6 a u8 ⟨G, x4, hkq, hE, hA, hS, H⟩
  cases kq6 with
  | zero => cases (show none = some r from H)
  | succ k7 =>
    rw [windroseref06_May.l5_s] at H
    obtain ⟨J, hE⟩ := hE.at hA
    refine wp_seq_k fun K9 hK9 => ?_
    refine wp_seq_k fun K10 hK10 => ?_
    refine pl0 ?_
    refine plc hE (.r 0 4 .nil) (fun a hE => ?_)
    refine pld ?_
    refine hK10 _ _ ?_
    by_cases c11 : x4 < (x0_.length : Int)
    · rw [if_pos c11] at H
      replace hE := hE.kt 8 c11
      refine ct hE ?_
      refine wp_skip ?_
      refine hK9 _ _ ?_
      refine wp_seq_k fun K12 hK12 => ?_
      refine wp_block ?_
      refine wp_seq_k fun K13 hK13 => ?_
      refine pl0 ?_
      by_cases c14 : 0 ≤ x4 ∧ x4 < (x0_.length : Int)
      rotate_left
      · rw [if_neg c14] at H; cases H
      rw [if_pos c14] at H
      have hE_ := hE
      obtain ⟨ad15, rfl⟩ := g0_0.addr c14.1 c14.2
      replace hE := hE_
      obtain ⟨cs17, rfl, hc18⟩ := g0_0.el T_api_Node.z x4 c14.1 c14.2
      refine plc hE (.r 0 2 <| .x 2 c14 <| .cs 3 (hS.fcs hc18) <| .nil) (fun a hE => ?_)
      refine ple hE (.al (t := 102) hS [.int .i64 0, .int .i64 0, .int .i64 0, .int .i64 0, .bool false, .bool false]) ?_
      rintro _ u20 a ⟨b19, rfl, hb19, hS, hg⟩ hE
      refine ple hE (.sto hS [.int .i64 ((nth T_api_Node.z x0_ x4).f0), .int .i64 ((nth T_api_Node.z x0_ x4).f1), .int .i64 ((nth T_api_Node.z x0_ x4).f2), .int .i64 ((nth T_api_Node.z x0_ x4).f3), .bool ((nth T_api_Node.z x0_ x4).f4), .bool ((nth T_api_Node.z x0_ x4).f5)]) ?_
      rintro _ u21 a ⟨rfl, hb19, hS, hz⟩ hE
      refine pld ?_
      refine hK13 _ _ ?_
      refine wp_seq_k fun K22 hK22 => ?_
      have J40 : ∀ kq38, kq38 ≤ k7 → ∀ (G : Nat → Value) (y36 : Bool) (a : Act) (w' : World), Env 71 G a → At G [(0, .slice (some ad15) x0_.length c0_0), (3, .int .i64 x4), (67, .bool y36)] → St W (mine W []) F w' F [box b19 #[.int .i64 ((nth T_api_Node.z x0_ x4).f0), .int .i64 ((nth T_api_Node.z x0_ x4).f1), .int .i64 ((nth T_api_Node.z x0_ x4).f2), .int .i64 ((nth T_api_Node.z x0_ x4).f3), .bool ((nth T_api_Node.z x0_ x4).f4), .bool ((nth T_api_Node.z x0_ x4).f5)] 102] → windroseref06_May.j37 kq38 x0_ x4 y36 = some r → K22 a w' := by
        intro kq38 hkq G y36 a u41 hE hA hS H
        cases kq38 with
        | zero => cases (show none = some r from H)
        | succ k39 =>
          rw [windroseref06_May.j37_s] at H
          obtain ⟨J, hE⟩ := hE.at hA
          refine hK22 _ _ ?_
          by_cases c42 : y36 = true
          · rw [if_pos c42] at H
            replace hE := hE.bt 67 c42
            refine ct hE ?_
            refine wp_seq_k fun K43 hK43 => ?_
            refine pl0 ?_
            refine plc hE (.r 0 1 .nil) (fun a hE => ?_)
            refine pld ?_
            refine hK43 _ _ ?_
            refine wp_ret (block_ret (then_ret (then_ret (block_ret (then_ret ?_)))))
            replace hS := hS.tail
            obtain rfl := Option.some.inj H
            exact rt1 hE ⟨_, rfl, _, rfl, hS⟩
          · rw [if_neg c42] at H
            replace hE := hE.bf 67 c42
            refine cf hE ?_
            refine wp_skip ?_
            refine hK12 _ _ ?_
            refine pl0 ?_
            refine plc hE (.r 0 3 .nil) (fun a hE => ?_)
            refine pld ?_
            replace hS := hS.tail
            exact then_n ⟨k39, by omega, _, (w64 (x4 + 1)), by omega, hE, .of, hS, H⟩
      refine drawn 53 ⟨[], [], fun q => False⟩ mixed rfl (by kernel_rfl) (fun hst => ?_)
      replace hS := hS.drew
      have hb19 := hS.blk_at (i := 0) rfl
      refine mny 49 hst hE (.r 0 1 <| .b 1 0 hb19 <| .r 2 2 <| .nil) (fun a hE => ?_)
      by_cases c23 : (nth T_api_Node.z x0_ x4).f0 < 1
      · rw [if_pos c23] at H
        replace hE := hE.kt 18 c23
        refine mny 0 hst hE (.r 4 49 .nil) (fun a hE => ?_)
        refine dn ?_
        exact J40 _ (by omega) _ true _ _ hE .of hS H
      · rw [if_neg c23] at H
        replace hE := hE.kf 18 c23
        refine mny 44 hst hE (.r 4 1 <| .b 5 0 hb19 <| .r 6 3 <| .nil) (fun a hE => ?_)
        by_cases c24 : (nth T_api_Node.z x0_ x4).f0 > 999
        · rw [if_pos c24] at H
          replace hE := hE.kt 23 c24
          refine mny 0 hst hE (.r 9 44 .nil) (fun a hE => ?_)
          refine dn ?_
          exact J40 _ (by omega) _ true _ _ hE .of hS H
        · rw [if_neg c24] at H
          replace hE := hE.kf 23 c24
          refine mny 39 hst hE (.r 9 1 <| .b 10 1 hb19 <| .r 11 3 <| .nil) (fun a hE => ?_)
          by_cases c25 : (nth T_api_Node.z x0_ x4).f1 < 1
          · rw [if_pos c25] at H
            replace hE := hE.kt 28 c25
            refine mny 0 hst hE (.r 14 39 .nil) (fun a hE => ?_)
            refine dn ?_
            exact J40 _ (by omega) _ true _ _ hE .of hS H
          · rw [if_neg c25] at H
            replace hE := hE.kf 28 c25
            refine mny 34 hst hE (.r 14 1 <| .b 15 1 hb19 <| .r 16 3 <| .nil) (fun a hE => ?_)
            by_cases c26 : (nth T_api_Node.z x0_ x4).f1 > 9
            · rw [if_pos c26] at H
              replace hE := hE.kt 33 c26
              refine mny 0 hst hE (.r 19 34 .nil) (fun a hE => ?_)
              refine dn ?_
              exact J40 _ (by omega) _ true _ _ hE .of hS H
            · rw [if_neg c26] at H
              replace hE := hE.kf 33 c26
              refine mny 29 hst hE (.r 19 1 <| .b 20 2 hb19 <| .r 21 3 <| .nil) (fun a hE => ?_)
              by_cases c27 : (nth T_api_Node.z x0_ x4).f2 < 1
              · rw [if_pos c27] at H
                replace hE := hE.kt 38 c27
                refine mny 0 hst hE (.r 24 29 .nil) (fun a hE => ?_)
                refine dn ?_
                exact J40 _ (by omega) _ true _ _ hE .of hS H
              · rw [if_neg c27] at H
                replace hE := hE.kf 38 c27
                refine mny 24 hst hE (.r 24 1 <| .b 25 2 hb19 <| .r 26 3 <| .nil) (fun a hE => ?_)
                by_cases c28 : (nth T_api_Node.z x0_ x4).f2 > 9
                · rw [if_pos c28] at H
                  replace hE := hE.kt 43 c28
                  refine mny 0 hst hE (.r 29 24 .nil) (fun a hE => ?_)
                  refine dn ?_
                  exact J40 _ (by omega) _ true _ _ hE .of hS H
                · rw [if_neg c28] at H
                  replace hE := hE.kf 43 c28
                  refine mny 19 hst hE (.r 29 1 <| .b 30 3 hb19 <| .r 31 3 <| .nil) (fun a hE => ?_)
                  by_cases c29 : (nth T_api_Node.z x0_ x4).f3 < 0
                  · rw [if_pos c29] at H
                    replace hE := hE.kt 48 c29
                    refine mny 0 hst hE (.r 34 19 .nil) (fun a hE => ?_)
                    refine dn ?_
                    exact J40 _ (by omega) _ true _ _ hE .of hS H
                  · rw [if_neg c29] at H
                    replace hE := hE.kf 48 c29
                    refine mny 14 hst hE (.r 34 1 <| .b 35 3 hb19 <| .r 36 3 <| .nil) (fun a hE => ?_)
                    by_cases c30 : (nth T_api_Node.z x0_ x4).f3 > 65536
                    · rw [if_pos c30] at H
                      replace hE := hE.kt 53 c30
                      refine mny 0 hst hE (.r 39 14 .nil) (fun a hE => ?_)
                      refine dn ?_
                      exact J40 _ (by omega) _ true _ _ hE .of hS H
                    · rw [if_neg c30] at H
                      replace hE := hE.kf 53 c30
                      refine mny 11 hst hE (.r 39 3 .nil) (fun a hE => ?_)
                      by_cases c31 : x4 > 0
                      · rw [if_pos c31] at H
                        replace hE := hE.kt 56 c31
                        by_cases c32 : 0 ≤ (w64 (x4 - 1)) ∧ (w64 (x4 - 1)) < (x0_.length : Int)
                        rotate_left
                        · rw [if_neg c32] at H; cases H
                        rw [if_pos c32] at H
                        obtain ⟨cs34, rfl, hc35⟩ := g0_0.el T_api_Node.z (w64 (x4 - 1)) c32.1 c32.2
                        refine mny 0 hst hE (.r 42 3 <| .x 45 c32 <| .r 46 1 <| .c 47 (hS.fc hc35 0) <| .r 48 1 <| .b 49 0 hb19 <| .r 50 3 <| .nil) (fun a hE => ?_)
                        refine dn ?_
                        exact J40 _ (by omega) _ (decide ((nth T_api_Node.z x0_ (w64 (x4 - 1))).f0 ≥ (nth T_api_Node.z x0_ x4).f0)) _ _ hE .of hS H
                      · rw [if_neg c31] at H
                        replace hE := hE.kf 56 c31
                        refine mny 0 hst hE (.r 42 11 .nil) (fun a hE => ?_)
                        refine dn ?_
                        exact J40 _ (by omega) _ false _ _ hE .of hS H
    · rw [if_neg c11] at H
      replace hE := hE.kf 8 c11
      refine cf hE ?_
      refine wp_exit ?_
      refine hK2 _ _ ?_
      refine wp_seq_k fun K44 hK44 => ?_
      refine pl0 ?_
      refine plc hE (.r 0 4 .nil) (fun a hE => ?_)
      refine pld ?_
      refine hK44 _ _ ?_
      refine wp_ret ?_
      obtain rfl := Option.some.inj H
      exact rt1 hE ⟨_, rfl, _, rfl, hS⟩

/-! ### windrose/windroseref06.Find: function 49 -/
def windroseref06_Find.l7 : Nat → List T_api_Node → Int → Int → Option (T_api_Node × Bool)
  | 0, _, _, _ => none
  | k + 1, x0_, x1_, x6 => if x6 < (x0_.length : Int) then (if 0 ≤ x6 ∧ x6 < (x0_.length : Int) then (if (nth T_api_Node.z x0_ x6).f0 = x1_ then (some ((⟨(nth T_api_Node.z x0_ x6).f0, (nth T_api_Node.z x0_ x6).f1, (nth T_api_Node.z x0_ x6).f2, (nth T_api_Node.z x0_ x6).f3, (nth T_api_Node.z x0_ x6).f4, (nth T_api_Node.z x0_ x6).f5⟩ : T_api_Node), true)) else (windroseref06_Find.l7 k x0_ x1_ (w64 (x6 + 1)))) else (none)) else (some ((⟨0, 0, 0, 0, false, false⟩ : T_api_Node), false))
theorem windroseref06_Find.l7_s (k : Nat) (x0_ : List T_api_Node) (x1_ : Int) (x6 : Int) : windroseref06_Find.l7 (k + 1) x0_ x1_ x6 = (if x6 < (x0_.length : Int) then (if 0 ≤ x6 ∧ x6 < (x0_.length : Int) then (if (nth T_api_Node.z x0_ x6).f0 = x1_ then (some ((⟨(nth T_api_Node.z x0_ x6).f0, (nth T_api_Node.z x0_ x6).f1, (nth T_api_Node.z x0_ x6).f2, (nth T_api_Node.z x0_ x6).f3, (nth T_api_Node.z x0_ x6).f4, (nth T_api_Node.z x0_ x6).f5⟩ : T_api_Node), true)) else (windroseref06_Find.l7 k x0_ x1_ (w64 (x6 + 1)))) else (none)) else (some ((⟨0, 0, 0, 0, false, false⟩ : T_api_Node), false))) := by kernel_rfl
def windroseref06_Find.f (k : Nat) (x0_ : List T_api_Node) (x1_ : Int) : Option (T_api_Node × Bool) := windroseref06_Find.l7 k x0_ x1_ 0
def windroseref06_Find.Post (W F : World) (r : T_api_Node × Bool) (v : Value) (w' : World) : Prop := ∃ (F' : World), v = .tuple #[.agg #[.int .i64 r.1.f0, .int .i64 r.1.f1, .int .i64 r.1.f2, .int .i64 r.1.f3, .bool r.1.f4, .bool r.1.f5], .bool r.2] ∧ St W (mine W []) F w' F' []
set_option maxHeartbeats 4000000 in
set_option maxRecDepth 100000 in
theorem windroseref06_Find.calls (k : Nat) (x0_ : List T_api_Node) (x1_ : Int) (A0_0 : Option Addr) (c0_0 : Nat) (r : T_api_Node × Bool) (W F : World) (hown : Sub F W) (g0_0 : Rd T_api_Node.k F A0_0 c0_0 x0_) (H : windroseref06_Find.f k x0_ x1_ = some r) :
    Calls Try.prog 49 #[.slice A0_0 x0_.length c0_0, .int .i64 x1_] W fun e w' => ∃ v, e = .returned v ∧ windroseref06_Find.Post W F r v w' := by
  have hS := St.start (Own.nil hown)
  unfold windroseref06_Find.f at H
  refine enter (n := 25) rfl rfl rfl (Nat.le_of_ble_eq_true rfl) (fun a hE => ?_)
  refine wp_seq_k fun K1 hK1 => ?_
  refine pl0 ?_
  refine ple hE (.al (t := 102) hS [.int .i64 0, .int .i64 0, .int .i64 0, .int .i64 0, .bool false, .bool false]) ?_
  rintro _ u3 a ⟨b2, rfl, hb2, hS, hg⟩ hE
  refine plc hE (.r 1 1 .nil) (fun a hE => ?_)
  refine pld ?_
  refine hK1 _ _ ?_
  refine wp_seq_k fun K4 hK4 => ?_
  refine wp_seq_k fun K5 hK5 => ?_
  refine pl0 ?_
  refine plc hE (.r 0 1 .nil) (fun a hE => ?_)
  refine pld ?_
  refine hK5 _ _ ?_
  refine wp_block ?_
  refine wp_loop_ghost (fun kq8 a w' => ∃ (G : Nat → Value) (x6 : Int), kq8 ≤ k ∧ Env 25 G a ∧ At G [(0, .slice A0_0 x0_.length c0_0), (1, .int .i64 x1_), (4, .pointer (some ⟨b2, 0, none⟩)), (6, .int .i64 x6)] ∧ St W (mine W []) F w' F [box b2 #[.int .i64 0, .int .i64 0, .int .i64 0, .int .i64 0, .bool false, .bool false] 102] ∧  windroseref06_Find.l7 kq8 x0_ x1_ x6 = some r) k ⟨_, 0, Nat.le_refl _, hE, .of, hS, H⟩ ?_
  rintro kq8 a u10 ⟨G, x6, hkq, hE, hA, hS, H⟩
  cases kq8 with
  | zero => cases (show none = some r from H)
  | succ k9 =>
    rw [windroseref06_Find.l7_s] at H
    obtain ⟨J, hE⟩ := hE.at hA
    refine wp_seq_k fun K11 hK11 => ?_
    refine wp_seq_k fun K12 hK12 => ?_
    refine pl0 ?_
    refine plc hE (.r 0 4 .nil) (fun a hE => ?_)
    refine pld ?_
    refine hK12 _ _ ?_
    by_cases c13 : x6 < (x0_.length : Int)
    · rw [if_pos c13] at H
      replace hE := hE.kt 10 c13
      refine ct hE ?_
      refine wp_skip ?_
      refine hK11 _ _ ?_
      refine wp_seq_k fun K14 hK14 => ?_
      refine wp_block ?_
      refine wp_seq_k fun K15 hK15 => ?_
      refine pl0 ?_
      by_cases c16 : 0 ≤ x6 ∧ x6 < (x0_.length : Int)
      rotate_left
      · rw [if_neg c16] at H; cases H
      rw [if_pos c16] at H
      have hE_ := hE
      obtain ⟨ad17, rfl⟩ := g0_0.addr c16.1 c16.2
      replace hE := hE_
      obtain ⟨cs19, rfl, hc20⟩ := g0_0.el T_api_Node.z x6 c16.1 c16.2
      refine plc hE (.r 0 2 <| .x 2 c16 <| .r 3 1 <| .c 4 (hS.fc hc20 0) <| .r 5 2 <| .nil) (fun a hE => ?_)
      refine pld ?_
      refine hK15 _ _ ?_
      by_cases c21 : (nth T_api_Node.z x0_ x6).f0 = x1_
      · rw [if_pos c21] at H
        replace hE := hE.kt 19 c21
        refine ct hE ?_
        refine wp_seq_k fun K22 hK22 => ?_
        refine pl0 ?_
        refine plc hE (.r 0 2 <| .x 2 c16 <| .cs 3 (hS.fcs hc20) <| .nil) (fun a hE => ?_)
        refine ple hE (.sto hS [.int .i64 ((nth T_api_Node.z x0_ x6).f0), .int .i64 ((nth T_api_Node.z x0_ x6).f1), .int .i64 ((nth T_api_Node.z x0_ x6).f2), .int .i64 ((nth T_api_Node.z x0_ x6).f3), .bool ((nth T_api_Node.z x0_ x6).f4), .bool ((nth T_api_Node.z x0_ x6).f5)]) ?_
        rintro _ u26 a ⟨rfl, hb2, hS, hz⟩ hE
        refine plc hE (.r 5 1 .nil) (fun a hE => ?_)
        refine pld ?_
        refine hK22 _ _ ?_
        refine wp_ret (block_ret (then_ret (then_ret (block_ret (then_ret ?_)))))
        replace hS := hS.tail
        obtain rfl := Option.some.inj H
        exact retN hE rfl (of_decide_eq_true rfl) (.cell (by kernel_rfl) (res_blk [.int .i64 ((nth T_api_Node.z x0_ x6).f0), .int .i64 ((nth T_api_Node.z x0_ x6).f1), .int .i64 ((nth T_api_Node.z x0_ x6).f2), .int .i64 ((nth T_api_Node.z x0_ x6).f3), .bool ((nth T_api_Node.z x0_ x6).f4), .bool ((nth T_api_Node.z x0_ x6).f5)] ag102 sz102 hb2 rfl) (.tmp (by kernel_rfl) .nil)) ⟨_, rfl, _, rfl, hS⟩
      · rw [if_neg c21] at H
        replace hE := hE.kf 19 c21
        refine cf hE ?_
        refine wp_skip ?_
        refine hK14 _ _ ?_
        refine pl0 ?_
        refine plc hE (.r 0 3 .nil) (fun a hE => ?_)
        refine pld ?_
        exact then_n ⟨k9, by omega, _, (w64 (x6 + 1)), by omega, hE, .of, hS, H⟩
    · rw [if_neg c13] at H
      replace hE := hE.kf 10 c13
      refine cf hE ?_
      refine wp_exit ?_
      refine hK4 _ _ ?_
      refine wp_seq_k fun K27 hK27 => ?_
      refine pl0 ?_
      refine plc hE (.r 0 1 .nil) (fun a hE => ?_)
      refine ple hE (.sto hS [.int .i64 0, .int .i64 0, .int .i64 0, .int .i64 0, .bool false, .bool false]) ?_
      rintro _ u28 a ⟨rfl, hb2, hS, hz⟩ hE
      refine plc hE (.r 2 1 .nil) (fun a hE => ?_)
      refine pld ?_
      refine hK27 _ _ ?_
      refine wp_ret ?_
      replace hS := hS.tail
      obtain rfl := Option.some.inj H
      exact retN hE rfl (of_decide_eq_true rfl) (.cell (by kernel_rfl) (res_blk [.int .i64 0, .int .i64 0, .int .i64 0, .int .i64 0, .bool false, .bool false] ag102 sz102 hb2 rfl) (.tmp (by kernel_rfl) .nil)) ⟨_, rfl, _, rfl, hS⟩

/-! ### windrose/windroseref06.Apart: function 50 -/
mutual
def windroseref06_Apart.l5 : Nat → List T_api_Node → List Int → Int → Option Bool
  | 0, _, _, _ => none
  | k + 1, x0_, x1_, x4 => if x4 < (x1_.length : Int) then (if 0 ≤ x4 ∧ x4 < (x1_.length : Int) then ((windroseref06_Find.f k x0_ (nth 0 x1_ x4)).bind fun t20 => (if t20.2 = true then (windroseref06_Apart.l31 k x0_ x1_ x4 t20 0) else (some false))) else (none)) else (some true)
def windroseref06_Apart.l31 : Nat → List T_api_Node → List Int → Int → T_api_Node × Bool → Int → Option Bool
  | 0, _, _, _, _, _ => none
  | k + 1, x0_, x1_, x4, t20, x30 => if x30 < x4 then (if 0 ≤ x30 ∧ x30 < (x1_.length : Int) then ((windroseref06_Find.f k x0_ (nth 0 x1_ x30)).bind fun t45 => (if t20.1.f1 = t45.1.f1 then (some false) else (windroseref06_Apart.l31 k x0_ x1_ x4 t20 (w64 (x30 + 1))))) else (none)) else (windroseref06_Apart.l5 k x0_ x1_ (w64 (x4 + 1)))
end
theorem windroseref06_Apart.l5_s (k : Nat) (x0_ : List T_api_Node) (x1_ : List Int) (x4 : Int) : windroseref06_Apart.l5 (k + 1) x0_ x1_ x4 = (if x4 < (x1_.length : Int) then (if 0 ≤ x4 ∧ x4 < (x1_.length : Int) then ((windroseref06_Find.f k x0_ (nth 0 x1_ x4)).bind fun t20 => (if t20.2 = true then (windroseref06_Apart.l31 k x0_ x1_ x4 t20 0) else (some false))) else (none)) else (some true)) := by kernel_rfl
theorem windroseref06_Apart.l31_s (k : Nat) (x0_ : List T_api_Node) (x1_ : List Int) (x4 : Int) (t20 : T_api_Node × Bool) (x30 : Int) : windroseref06_Apart.l31 (k + 1) x0_ x1_ x4 t20 x30 = (if x30 < x4 then (if 0 ≤ x30 ∧ x30 < (x1_.length : Int) then ((windroseref06_Find.f k x0_ (nth 0 x1_ x30)).bind fun t45 => (if t20.1.f1 = t45.1.f1 then (some false) else (windroseref06_Apart.l31 k x0_ x1_ x4 t20 (w64 (x30 + 1))))) else (none)) else (windroseref06_Apart.l5 k x0_ x1_ (w64 (x4 + 1)))) := by kernel_rfl
def windroseref06_Apart.f (k : Nat) (x0_ : List T_api_Node) (x1_ : List Int) : Option Bool := windroseref06_Apart.l5 k x0_ x1_ 0
def windroseref06_Apart.Post (W F : World) (r : Bool) (v : Value) (w' : World) : Prop := ∃ (F' : World), v = .bool r ∧ St W (mine W []) F w' F' []
set_option maxHeartbeats 4000000 in
set_option maxRecDepth 100000 in
theorem windroseref06_Apart.calls (k : Nat) (x0_ : List T_api_Node) (x1_ : List Int) (A0_0 : Option Addr) (c0_0 : Nat) (A1_0 : Option Addr) (c1_0 : Nat) (r : Bool) (W F : World) (hown : Sub F W) (g0_0 : Rd T_api_Node.k F A0_0 c0_0 x0_) (g1_0 : Rd (Kn.int .i64) F A1_0 c1_0 x1_) (H : windroseref06_Apart.f k x0_ x1_ = some r) :
    Calls Try.prog 50 #[.slice A0_0 x0_.length c0_0, .slice A1_0 x1_.length c1_0] W fun e w' => ∃ v, e = .returned v ∧ windroseref06_Apart.Post W F r v w' := by
  have hS := St.start (Own.nil hown)
  unfold windroseref06_Apart.f at H
  refine enter (n := 47) rfl rfl rfl (Nat.le_of_ble_eq_true rfl) (fun a hE => ?_)
  refine wp_seq_k fun K1 hK1 => ?_
  refine pl0 ?_
  refine plc hE (.r 0 1 .nil) (fun a hE => ?_)
  refine pld ?_
  refine hK1 _ _ ?_
  refine wp_seq_k fun K2 hK2 => ?_
  refine wp_seq_k fun K3 hK3 => ?_
  refine pl0 ?_
  refine plc hE (.r 0 1 .nil) (fun a hE => ?_)
  refine pld ?_
  refine hK3 _ _ ?_
  refine wp_block ?_
  refine wp_loop_ghost (fun kq6 a w' => ∃ (G : Nat → Value) (x4 : Int), kq6 ≤ k ∧ Env 47 G a ∧ At G [(0, .slice A0_0 x0_.length c0_0), (1, .slice A1_0 x1_.length c1_0), (5, .int .i64 x4)] ∧ St W (mine W []) F w' F [] ∧  windroseref06_Apart.l5 kq6 x0_ x1_ x4 = some r) k ⟨_, 0, Nat.le_refl _, hE, .of, hS, H⟩ ?_
  rintro kq6 a u8 ⟨G, x4, hkq, hE, hA, hS, H⟩
  cases kq6 with
  | zero => cases (show none = some r from H)
  | succ k7 =>
    rw [windroseref06_Apart.l5_s] at H
    obtain ⟨J, hE⟩ := hE.at hA
    refine wp_seq_k fun K9 hK9 => ?_
    refine wp_seq_k fun K10 hK10 => ?_
    refine pl0 ?_
    refine plc hE (.r 0 4 .nil) (fun a hE => ?_)
    refine pld ?_
    refine hK10 _ _ ?_
    by_cases c11 : x4 < (x1_.length : Int)
    · rw [if_pos c11] at H
      replace hE := hE.kt 14 c11
      refine ct hE ?_
      refine wp_skip ?_
      refine hK9 _ _ ?_
      refine wp_seq_k fun K12 hK12 => ?_
      refine wp_block ?_
      refine wp_seq_k fun K13 hK13 => ?_
      refine pl0 ?_
      by_cases c14 : 0 ≤ x4 ∧ x4 < (x1_.length : Int)
      rotate_left
      · rw [if_neg c14] at H; cases H
      rw [if_pos c14] at H
      have hE_ := hE
      obtain ⟨ad15, rfl⟩ := g1_0.addr c14.1 c14.2
      replace hE := hE_
      obtain ⟨cs17, rfl, hc18⟩ := g1_0.el 0 x4 c14.1 c14.2
      refine plc hE (.r 0 3 <| .x 3 c14 <| .c 4 (hS.fc hc18 0) <| .nil) (fun a hE => ?_)
      obtain ⟨t20, h21, H⟩ := Option.bind_eq_some_iff.mp H
      refine ple hE (.cl en49 (windroseref06_Find.calls k7 x0_ (nth 0 x1_ x4) _ _ _ _ _ hS.own.sub g0_0 h21)) ?_
      rintro _ u19 a ⟨_, rfl, hC⟩ hE
      replace hS := hS.lent hC
      refine plc hE (.r 6 3 .nil) (fun a hE => ?_)
      refine ple hE (.al (t := 102) hS [.int .i64 0, .int .i64 0, .int .i64 0, .int .i64 0, .bool false, .bool false]) ?_
      rintro _ u23 a ⟨b22, rfl, hb22, hS, hg⟩ hE
      refine ple hE (.sto hS [.int .i64 t20.1.f0, .int .i64 t20.1.f1, .int .i64 t20.1.f2, .int .i64 t20.1.f3, .bool t20.1.f4, .bool t20.1.f5]) ?_
      rintro _ u24 a ⟨rfl, hb22, hS, hz⟩ hE
      refine plc hE (.r 11 1 .nil) (fun a hE => ?_)
      refine pld ?_
      refine hK13 _ _ ?_
      refine wp_seq_k fun K25 hK25 => ?_
      refine wp_seq_k fun K26 hK26 => ?_
      refine pl0 ?_
      refine plc hE (.r 0 2 .nil) (fun a hE => ?_)
      refine pld ?_
      refine hK26 _ _ ?_
      by_cases c27 : t20.2 = true
      · rw [if_pos c27] at H
        replace hE := hE.btn 27 c27
        refine cf hE ?_
        refine wp_skip ?_
        refine hK25 _ _ ?_
        refine wp_seq_k fun K29 hK29 => ?_
        refine pl0 ?_
        refine plc hE (.r 0 1 .nil) (fun a hE => ?_)
        refine pld ?_
        refine hK29 _ _ ?_
        refine wp_block ?_
        refine wp_loop_ghost (fun kq32 a w' => ∃ (G : Nat → Value) (x30 : Int), kq32 ≤ k7 ∧ Env 47 G a ∧ At G [(0, .slice A0_0 x0_.length c0_0), (1, .slice (some ad15) x1_.length c1_0), (5, .int .i64 x4), (6, .pointer (some ⟨b22, 0, none⟩)), (8, .int .i64 x30)] ∧ St W (mine W []) F w' F [box b22 #[.int .i64 t20.1.f0, .int .i64 t20.1.f1, .int .i64 t20.1.f2, .int .i64 t20.1.f3, .bool t20.1.f4, .bool t20.1.f5] 102] ∧  windroseref06_Apart.l31 kq32 x0_ x1_ x4 t20 x30 = some r) k7 ⟨_, 0, Nat.le_refl _, hE, .of, hS, H⟩ ?_
        rintro kq32 a u34 ⟨G, x30, hkq, hE, hA, hS, H⟩
        cases kq32 with
        | zero => cases (show none = some r from H)
        | succ k33 =>
          rw [windroseref06_Apart.l31_s] at H
          obtain ⟨J, hE⟩ := hE.at hA
          refine wp_seq_k fun K35 hK35 => ?_
          refine wp_seq_k fun K36 hK36 => ?_
          refine pl0 ?_
          refine plc hE (.r 0 3 .nil) (fun a hE => ?_)
          refine pld ?_
          refine hK36 _ _ ?_
          by_cases c37 : x30 < x4
          · rw [if_pos c37] at H
            replace hE := hE.kt 30 c37
            refine ct hE ?_
            refine wp_skip ?_
            refine hK35 _ _ ?_
            refine wp_seq_k fun K38 hK38 => ?_
            refine wp_block ?_
            refine wp_seq_k fun K39 hK39 => ?_
            refine pl0 ?_
            by_cases c40 : 0 ≤ x30 ∧ x30 < (x1_.length : Int)
            rotate_left
            · rw [if_neg c40] at H; cases H
            rw [if_pos c40] at H
            obtain ⟨cs42, rfl, hc43⟩ := g1_0.el 0 x30 c40.1 c40.2
            refine plc hE (.r 0 3 <| .x 3 c40 <| .c 4 (hS.fc hc43 0) <| .nil) (fun a hE => ?_)
            obtain ⟨t45, h46, H⟩ := Option.bind_eq_some_iff.mp H
            refine ple hE (.cl en49 (windroseref06_Find.calls k33 x0_ (nth 0 x1_ x30) _ _ _ _ _ hS.own.sub g0_0 h46)) ?_
            rintro _ u44 a ⟨_, rfl, hC⟩ hE
            replace hS := hS.lent hC
            refine plc hE (.r 6 3 .nil) (fun a hE => ?_)
            refine ple hE (.al (t := 102) hS [.int .i64 0, .int .i64 0, .int .i64 0, .int .i64 0, .bool false, .bool false]) ?_
            rintro _ u48 a ⟨b47, rfl, hb47, hS, hg⟩ hE
            refine ple hE (.sto hS [.int .i64 t45.1.f0, .int .i64 t45.1.f1, .int .i64 t45.1.f2, .int .i64 t45.1.f3, .bool t45.1.f4, .bool t45.1.f5]) ?_
            rintro _ u49 a ⟨rfl, hb47, hS, hz⟩ hE
            refine plc hE (.r 11 1 .nil) (fun a hE => ?_)
            refine pld ?_
            refine hK39 _ _ ?_
            refine wp_seq_k fun K50 hK50 => ?_
            refine pl0 ?_
            have hb22 := hS.blk_at (i := 1) rfl
            refine plc hE (.r 0 1 <| .b 1 1 hb22 <| .r 2 1 <| .b 3 1 hb47 <| .r 4 1 <| .nil) (fun a hE => ?_)
            refine pld ?_
            refine hK50 _ _ ?_
            by_cases c51 : t20.1.f1 = t45.1.f1
            · rw [if_pos c51] at H
              replace hE := hE.kt 46 c51
              refine ct hE ?_
              refine wp_seq_k fun K52 hK52 => ?_
              refine pl0 ?_
              refine plc hE (.r 0 1 .nil) (fun a hE => ?_)
              refine pld ?_
              refine hK52 _ _ ?_
              refine wp_ret (block_ret (then_ret (then_ret (block_ret (block_ret (then_ret (then_ret (block_ret (then_ret ?_)))))))))
              replace hS := hS.tail
              replace hS := hS.tail
              obtain rfl := Option.some.inj H
              exact rt1 hE ⟨_, rfl, _, rfl, hS⟩
            · rw [if_neg c51] at H
              replace hE := hE.kf 46 c51
              refine cf hE ?_
              refine wp_skip ?_
              refine hK38 _ _ ?_
              refine pl0 ?_
              refine plc hE (.r 0 3 .nil) (fun a hE => ?_)
              refine pld ?_
              replace hS := hS.tail
              exact then_n ⟨k33, by omega, _, (w64 (x30 + 1)), by omega, hE, .of, hS, H⟩
          · rw [if_neg c37] at H
            replace hE := hE.kf 30 c37
            refine cf hE ?_
            refine wp_exit ?_
            refine hK12 _ _ ?_
            refine pl0 ?_
            refine plc hE (.r 0 3 .nil) (fun a hE => ?_)
            refine pld ?_
            replace hS := hS.tail
            exact then_n ⟨k33, by omega, _, (w64 (x4 + 1)), by omega, hE, .of, hS, H⟩
      · rw [if_neg c27] at H
        replace hE := hE.bfn 27 c27
        refine ct hE ?_
        refine wp_seq_k fun K28 hK28 => ?_
        refine pl0 ?_
        refine plc hE (.r 0 1 .nil) (fun a hE => ?_)
        refine pld ?_
        refine hK28 _ _ ?_
        refine wp_ret (then_ret (block_ret (then_ret (then_ret (block_ret (then_ret ?_))))))
        replace hS := hS.tail
        obtain rfl := Option.some.inj H
        exact rt1 hE ⟨_, rfl, _, rfl, hS⟩
    · rw [if_neg c11] at H
      replace hE := hE.kf 14 c11
      refine cf hE ?_
      refine wp_exit ?_
      refine hK2 _ _ ?_
      refine wp_seq_k fun K53 hK53 => ?_
      refine pl0 ?_
      refine plc hE (.r 0 1 .nil) (fun a hE => ?_)
      refine pld ?_
      refine hK53 _ _ ?_
      refine wp_ret ?_
      obtain rfl := Option.some.inj H
      exact rt1 hE ⟨_, rfl, _, rfl, hS⟩

end Go.Proofs.Ytihjknnhbgkinaa.SR
