/- Functions of the program, what each computes (written by wip/s/sl.py). -/
import Derived.Test.YtpohepinmjmbkaaGreatQB5
namespace Go.Proofs.YtpohepinmjmbkaaGreat.QB
open Go Go.RowKit Go.Proofs.YtpohepinmjmbkaaGreat.Sl
set_option linter.unusedVariables false
set_option linter.unusedSimpArgs false
set_option maxHeartbeats 4000000
set_option maxRecDepth 100000
/-! ### slices.ContainsFunc[[]windrose/api.Info,windrose/api.Info]: function 155 -/
def slices_ContainsFunc__api_Info_api_Info_of_quorum_has_1.f (k : Nat) (x0_ : List T_api_Info) (x1c0_ : Int) : Option Bool := (slices_IndexFunc__api_Info_api_Info_of_quorum_has_1.f k x0_ x1c0_).bind fun t4 => (some (decide (t4 ≥ 0)))
def slices_ContainsFunc__api_Info_api_Info_of_quorum_has_1.Post (W F : World) (r : Bool) (v : Value) (w' : World) : Prop := ∃ (F' : World), v = .bool r ∧ St W (mine W []) F w' F' []
theorem slices_ContainsFunc__api_Info_api_Info_of_quorum_has_1.calls (k : Nat) (x0_ : List T_api_Info) (x1c0_ : Int) (A0_0 : Option Addr) (c0_0 : Nat) (p1c0_ : Nat) (r : Bool) (W F : World) (hown : Sub F W) (g0_0 : Rd T_api_Info.k F A0_0 c0_0 x0_) (hp1c0_ : F.heap[p1c0_]? = some (.cells #[.int .i64 x1c0_] 3 (0, 0))) (H : slices_ContainsFunc__api_Info_api_Info_of_quorum_has_1.f k x0_ x1c0_ = some r) :
    Calls Tryz.prog 155 #[.slice A0_0 x0_.length c0_0, .func (.func 156) #[] #[.pointer (some ⟨p1c0_, 0, none⟩)]] W fun e w' => ∃ v, e = .returned v ∧ slices_ContainsFunc__api_Info_api_Info_of_quorum_has_1.Post W F r v w' := by
 have hS := St.start (Own.nil hown)
 unfold slices_ContainsFunc__api_Info_api_Info_of_quorum_has_1.f at H
 refine enter (n := 9) rfl rfl rfl (Nat.le_of_ble_eq_true rfl) (fun a hE => ?_)
 refine wp_seq_k fun K1 hK1 => pl0 (plc hE (.r 0 1 .nil) (fun a hE => pld (hK1 _ _ (wp_seq_k fun K2 hK2 => pl0 (plc hE (.r 0 2 .nil) (fun a hE => ?_))))))
 obtain ⟨t4, h5, H⟩ := bd H
 refine ple hE (.cl en190 (slices_IndexFunc__api_Info_api_Info_of_quorum_has_1.calls k x0_ x1c0_ _ _ _ _ _ _ hS.own.sub g0_0 hp1c0_ h5)) ?_
 rintro _ u3 a ⟨_, rfl, hC⟩ hE
 replace hS := hS.lent hC
 refine plc hE (.r 3 2 .nil) (fun a hE => pld (hK2 _ _ (wp_ret ?_)))
 obtain rfl := si H
 exact rt1 hE ⟨_, rfl, _, rfl, hS⟩

/-! ### windrose/quorum.has: function 105 -/
def quorum_has.f (k : Nat) (x0_ : List T_api_Info) (x1_ : Int) : Option Bool := (slices_ContainsFunc__api_Info_api_Info_of_quorum_has_1.f k x0_ x1_).bind fun t6 => (some t6)
def quorum_has.Post (W F : World) (r : Bool) (v : Value) (w' : World) : Prop := ∃ (F' : World), v = .bool r ∧ St W (mine W []) F w' F' []
theorem quorum_has.calls (k : Nat) (x0_ : List T_api_Info) (x1_ : Int) (A0_0 : Option Addr) (c0_0 : Nat) (r : Bool) (W F : World) (hown : Sub F W) (g0_0 : Rd T_api_Info.k F A0_0 c0_0 x0_) (H : quorum_has.f k x0_ x1_ = some r) :
    Calls Tryz.prog 105 #[.slice A0_0 x0_.length c0_0, .int .i64 x1_] W fun e w' => ∃ v, e = .returned v ∧ quorum_has.Post W F r v w' := by
 have hS := St.start (Own.nil hown)
 unfold quorum_has.f at H
 refine enter (n := 8) rfl rfl rfl (Nat.le_of_ble_eq_true rfl) (fun a hE => ?_)
 refine wp_seq_k fun K1 hK1 => pl0 (ple hE (.bx (t := 3) hS [.int .i64 x1_]) ?_)
 rintro _ u3 a ⟨b2, rfl, hb2, hS, hg⟩ hE
 refine plc hE (.r 1 1 .nil) (fun a hE => pld (hK1 _ _ (wp_seq_k fun K4 hK4 => pl0 (plc hE (.r 0 2 .nil) (fun a hE => ?_)))))
 obtain ⟨t6, h7, H⟩ := bd H
 refine ple hE (.cl en155 (slices_ContainsFunc__api_Info_api_Info_of_quorum_has_1.calls k x0_ x1_ _ _ _ _ _ _ (Sub.refl _) (g0_0.mono hS.own.sub) (hS.blk_at (i := 0) rfl) h7)) ?_
 rintro _ u5 a ⟨_, rfl, hC⟩ hE
 replace hS := hS.lent hC
 refine plc hE (.r 3 1 .nil) (fun a hE => pld (hK4 _ _ (wp_ret ?_)))
 replace hS := hS.tail
 obtain rfl := si H
 exact rt1 hE ⟨_, rfl, _, rfl, hS⟩

/-! ### windrose/quorum.Check: function 58 -/
mutual
def quorum_Check.l9 : Nat → List T_api_Info → Int → Option Int
  | 0, _, _ => none
  | k + 1, x0_, x8 => if x8 < (x0_.length : Int) then (if 0 ≤ x8 ∧ x8 < (x0_.length : Int) then ((quorum_in.f ((nth T_api_Info.z x0_ x8).f0) 1 999).bind fun t29 => (if t29 = true then (if 0 ≤ x8 ∧ x8 ≤ (x0_.length : Int) then ((quorum_has.f k (cutl x0_ 0 x8) ((nth T_api_Info.z x0_ x8).f0)).bind fun t38 => (quorum_Check.j41 k x0_ x8 t38)) else (none)) else (quorum_Check.j41 k x0_ x8 true))) else (none)) else (some 0)
def quorum_Check.j41 : Nat → List T_api_Info → Int → Bool → Option Int
  | 0, _, _, _ => none
  | k + 1, x0_, x8, y40 => if y40 = true then (some 1) else ((quorum_in.f ((nth T_api_Info.z x0_ x8).f1) 0 2147483647).bind fun t50 => (if t50 = true then ((quorum_in.f ((nth T_api_Info.z x0_ x8).f2) 0 2147483647).bind fun t54 => (if t54 = true then ((quorum_in.f ((nth T_api_Info.z x0_ x8).f3) 0 2147483647).bind fun t58 => (if t58 = true then ((quorum_in.f ((nth T_api_Info.z x0_ x8).f4) 0 ((nth T_api_Info.z x0_ x8).f3)).bind fun t62 => (quorum_Check.j65 k x0_ x8 (!t62))) else (quorum_Check.j65 k x0_ x8 true))) else (quorum_Check.j65 k x0_ x8 true))) else (quorum_Check.j65 k x0_ x8 true)))
def quorum_Check.j65 : Nat → List T_api_Info → Int → Bool → Option Int
  | 0, _, _, _ => none
  | k + 1, x0_, x8, y64 => if y64 = true then (some 1) else (quorum_Check.l9 k x0_ (w64 (x8 + 1)))
end
theorem quorum_Check.l9_s (k : Nat) (x0_ : List T_api_Info) (x8 : Int) : quorum_Check.l9 (k + 1) x0_ x8 = (if x8 < (x0_.length : Int) then (if 0 ≤ x8 ∧ x8 < (x0_.length : Int) then ((quorum_in.f ((nth T_api_Info.z x0_ x8).f0) 1 999).bind fun t29 => (if t29 = true then (if 0 ≤ x8 ∧ x8 ≤ (x0_.length : Int) then ((quorum_has.f k (cutl x0_ 0 x8) ((nth T_api_Info.z x0_ x8).f0)).bind fun t38 => (quorum_Check.j41 k x0_ x8 t38)) else (none)) else (quorum_Check.j41 k x0_ x8 true))) else (none)) else (some 0)) := by kernel_rfl
theorem quorum_Check.j41_s (k : Nat) (x0_ : List T_api_Info) (x8 : Int) (y40 : Bool) : quorum_Check.j41 (k + 1) x0_ x8 y40 = (if y40 = true then (some 1) else ((quorum_in.f ((nth T_api_Info.z x0_ x8).f1) 0 2147483647).bind fun t50 => (if t50 = true then ((quorum_in.f ((nth T_api_Info.z x0_ x8).f2) 0 2147483647).bind fun t54 => (if t54 = true then ((quorum_in.f ((nth T_api_Info.z x0_ x8).f3) 0 2147483647).bind fun t58 => (if t58 = true then ((quorum_in.f ((nth T_api_Info.z x0_ x8).f4) 0 ((nth T_api_Info.z x0_ x8).f3)).bind fun t62 => (quorum_Check.j65 k x0_ x8 (!t62))) else (quorum_Check.j65 k x0_ x8 true))) else (quorum_Check.j65 k x0_ x8 true))) else (quorum_Check.j65 k x0_ x8 true)))) := by kernel_rfl
theorem quorum_Check.j65_s (k : Nat) (x0_ : List T_api_Info) (x8 : Int) (y64 : Bool) : quorum_Check.j65 (k + 1) x0_ x8 y64 = (if y64 = true then (some 1) else (quorum_Check.l9 k x0_ (w64 (x8 + 1)))) := by kernel_rfl
def quorum_Check.f (k : Nat) (x0_ : List T_api_Info) : Option Int := if (x0_.length : Int) > 12 then (some 1) else (quorum_Check.l9 k x0_ 0)
def quorum_Check.Post (W F : World) (r : Int) (v : Value) (w' : World) : Prop := ∃ (F' : World), v = .int .i64 r ∧ St W (mine W []) F w' F' []
theorem quorum_Check.calls (k : Nat) (x0_ : List T_api_Info) (A0_0 : Option Addr) (c0_0 : Nat) (r : Int) (W F : World) (hown : Sub F W) (g0_0 : Rd T_api_Info.k F A0_0 c0_0 x0_) (H : quorum_Check.f k x0_ = some r) :
    Calls Tryz.prog 58 #[.slice A0_0 x0_.length c0_0] W fun e w' => ∃ v, e = .returned v ∧ quorum_Check.Post W F r v w' := by
 have hS := St.start (Own.nil hown)
 unfold quorum_Check.f at H
 refine enter (n := 52) rfl rfl rfl (Nat.le_of_ble_eq_true rfl) (fun a hE => ?_)
 refine wp_seq_k fun K1 hK1 => pl0 (plc hE (.r 0 1 .nil) (fun a hE => pld (hK1 _ _ (wp_seq_k fun K2 hK2 => wp_seq_k fun K3 hK3 => pl0 (plc hE (.r 0 3 .nil) (fun a hE => pld (hK3 _ _ ?_)))))))
 rcases sp H with ⟨c4, H⟩ | ⟨c4, H⟩
 ·
  replace hE := hE.kt 7 c4
  refine ct hE (wp_seq_k fun K5 hK5 => pl0 (plc hE (.r 0 1 .nil) (fun a hE => pld (hK5 _ _ (wp_ret (then_ret ?_))))))
  obtain rfl := si H
  exact rt1 hE ⟨_, rfl, _, rfl, hS⟩
 ·
  replace hE := hE.kf 7 c4
  refine cf hE (wp_skip (hK2 _ _ (wp_seq_k fun K6 hK6 => wp_seq_k fun K7 hK7 => pl0 (plc hE (.r 0 3 .nil) (fun a hE => pld (hK7 _ _ (wp_block ?_)))))))
  refine wp_loop_ghost (fun kq10 a w' => ∃ (G : Nat → Value) (x8 : Int), kq10 ≤ k ∧ Env 52 G a ∧ At G [(0, .slice A0_0 x0_.length c0_0), (8, .slice A0_0 x0_.length c0_0), (9, .int .i64 (x0_.length : Int)), (10, .int .i64 x8)] ∧ St W (mine W []) F w' F [] ∧  quorum_Check.l9 kq10 x0_ x8 = some r) k ⟨_, 0, Nat.le_refl _, hE, .of, hS, H⟩ ?_
  rintro kq10 a u12 ⟨G, x8, hkq, hE, hA, hS, H⟩
  cases kq10 with
  | zero => cases (show none = some r from H)
  | succ k11 =>
   rw [quorum_Check.l9_s] at H
   obtain ⟨J, hE⟩ := hE.at hA
   refine wp_seq_k fun K13 hK13 => pl0 (plc hE (.r 0 1 .nil) (fun a hE => pld (hK13 _ _ (wp_seq_k fun K14 hK14 => ?_))))
   rcases sp H with ⟨c15, H⟩ | ⟨c15, H⟩
   ·
    replace hE := hE.kt 11 c15
    refine ct hE (wp_skip (hK14 _ _ (wp_seq_k fun K16 hK16 => wp_block (wp_seq_k fun K17 hK17 => pl0 ?_))))
    obtain ⟨c18, H⟩ := gd H
    have hE_ := hE
    obtain ⟨ad19, rfl⟩ := g0_0.addr c18.1 c18.2
    replace hE := hE_
    obtain ⟨cs21, rfl, hc22⟩ := g0_0.el T_api_Info.z x8 c18.1 c18.2
    refine plc hE (.r 0 1 <| .x 1 c18 <| .cs 2 (hS.fcs hc22) <| .nil) (fun a hE => ple hE (.al (t := 86) hS [.int .i64 0, .int .i64 0, .int .i64 0, .int .i64 0, .int .i64 0]) ?_)
    rintro _ u24 a ⟨b23, rfl, hb23, hS, hg⟩ hE
    refine plc hE (.r 4 1 .nil) (fun a hE => ple hE (.sto hS [.int .i64 ((nth T_api_Info.z x0_ x8).f0), .int .i64 ((nth T_api_Info.z x0_ x8).f1), .int .i64 ((nth T_api_Info.z x0_ x8).f2), .int .i64 ((nth T_api_Info.z x0_ x8).f3), .int .i64 ((nth T_api_Info.z x0_ x8).f4)]) ?_)
    rintro _ u25 a ⟨rfl, hb23, hS, hz⟩ hE
    refine pld (hK17 _ _ (wp_seq_k fun K26 hK26 => wp_seq_k fun K27 hK27 => ?_))
    have J44 : ∀ kq42, kq42 ≤ k11 → ∀ (G : Nat → Value) (y40 : Bool) (a : Act) (w' : World), Env 52 G a → At G [(0, .slice (some ad19) x0_.length c0_0), (4, .pointer (some ⟨b23, 0, none⟩)), (8, .slice (some ad19) x0_.length c0_0), (9, .int .i64 (x0_.length : Int)), (10, .int .i64 x8), (26, .bool y40)] → St W (mine W []) F w' F [box b23 #[.int .i64 ((nth T_api_Info.z x0_ x8).f0), .int .i64 ((nth T_api_Info.z x0_ x8).f1), .int .i64 ((nth T_api_Info.z x0_ x8).f2), .int .i64 ((nth T_api_Info.z x0_ x8).f3), .int .i64 ((nth T_api_Info.z x0_ x8).f4)] 86] → quorum_Check.j41 kq42 x0_ x8 y40 = some r → K27 a w' := by
     intro kq42 hkq G y40 a u45 hE hA hS H
     cases kq42 with
     | zero => cases (show none = some r from H)
     | succ k43 =>
      rw [quorum_Check.j41_s] at H
      obtain ⟨J, hE⟩ := hE.at hA
      refine hK27 _ _ ?_
      rcases sp H with ⟨c46, H⟩ | ⟨c46, H⟩
      ·
       replace hE := hE.bt 26 c46
       refine ct hE (wp_seq_k fun K47 hK47 => pl0 (plc hE (.r 0 1 .nil) (fun a hE => pld (hK47 _ _ (wp_ret (then_ret (block_ret (then_ret (then_ret (block_ret (then_ret ?_)))))))))))
       replace hS := hS.tail
       obtain rfl := si H
       exact rt1 hE ⟨_, rfl, _, rfl, hS⟩
      ·
       replace hE := hE.bf 26 c46
       refine cf hE (wp_skip (hK26 _ _ (wp_seq_k fun K48 hK48 => ?_)))
       have J68 : ∀ kq66, kq66 ≤ k43 → ∀ (G : Nat → Value) (y64 : Bool) (a : Act) (w' : World), Env 52 G a → At G [(0, .slice (some ad19) x0_.length c0_0), (8, .slice (some ad19) x0_.length c0_0), (9, .int .i64 (x0_.length : Int)), (10, .int .i64 x8), (50, .bool y64)] → St W (mine W []) F w' F [box b23 #[.int .i64 ((nth T_api_Info.z x0_ x8).f0), .int .i64 ((nth T_api_Info.z x0_ x8).f1), .int .i64 ((nth T_api_Info.z x0_ x8).f2), .int .i64 ((nth T_api_Info.z x0_ x8).f3), .int .i64 ((nth T_api_Info.z x0_ x8).f4)] 86] → quorum_Check.j65 kq66 x0_ x8 y64 = some r → K48 a w' := by
        intro kq66 hkq G y64 a u69 hE hA hS H
        cases kq66 with
        | zero => cases (show none = some r from H)
        | succ k67 =>
         rw [quorum_Check.j65_s] at H
         obtain ⟨J, hE⟩ := hE.at hA
         refine hK48 _ _ ?_
         rcases sp H with ⟨c70, H⟩ | ⟨c70, H⟩
         ·
          replace hE := hE.bt 50 c70
          refine ct hE (wp_seq_k fun K71 hK71 => pl0 (plc hE (.r 0 1 .nil) (fun a hE => pld (hK71 _ _ (wp_ret (block_ret (then_ret (then_ret (block_ret (then_ret ?_))))))))))
          replace hS := hS.tail
          obtain rfl := si H
          exact rt1 hE ⟨_, rfl, _, rfl, hS⟩
         ·
          replace hE := hE.bf 50 c70
          refine cf hE (wp_skip ?_)
          refine block_n ?_
          refine hK16 _ _ (pl0 (plc hE (.r 0 2 .nil) (fun a hE => pld ?_)))
          replace hS := hS.tail
          exact then_n ⟨k67, by omega, _, (w64 (x8 + 1)), by omega, hE, .of, hS, H⟩
       refine pl0 ?_
       have hb23 := hS.blk_at (i := 0) rfl
       refine plc hE (.r 0 1 <| .b 1 1 hb23 <| .nil) (fun a hE => ?_)
       obtain ⟨t50, h51, H⟩ := bd H
       refine ple hE (.cl en116 (quorum_in.calls ((nth T_api_Info.z x0_ x8).f1) 0 2147483647 _ _ _ hS.own.sub h51)) ?_
       rintro _ u49 a ⟨_, rfl, hC⟩ hE
       replace hS := hS.lent hC
       refine plc hE (.r 3 2 .nil) (fun a hE => ?_)
       rcases sp H with ⟨c52, H⟩ | ⟨c52, H⟩
       ·
        replace hE := hE.btn 31 c52
        have hb23 := hS.blk_at (i := 0) rfl
        refine plc hE (.r 5 1 <| .b 6 2 hb23 <| .nil) (fun a hE => ?_)
        obtain ⟨t54, h55, H⟩ := bd H
        refine ple hE (.cl en116 (quorum_in.calls ((nth T_api_Info.z x0_ x8).f2) 0 2147483647 _ _ _ hS.own.sub h55)) ?_
        rintro _ u53 a ⟨_, rfl, hC⟩ hE
        replace hS := hS.lent hC
        refine plc hE (.r 8 3 .nil) (fun a hE => ?_)
        rcases sp H with ⟨c56, H⟩ | ⟨c56, H⟩
        ·
         replace hE := hE.btn 37 c56
         have hb23 := hS.blk_at (i := 0) rfl
         refine plc hE (.r 11 1 <| .b 12 3 hb23 <| .nil) (fun a hE => ?_)
         obtain ⟨t58, h59, H⟩ := bd H
         refine ple hE (.cl en116 (quorum_in.calls ((nth T_api_Info.z x0_ x8).f3) 0 2147483647 _ _ _ hS.own.sub h59)) ?_
         rintro _ u57 a ⟨_, rfl, hC⟩ hE
         replace hS := hS.lent hC
         refine plc hE (.r 14 3 .nil) (fun a hE => ?_)
         rcases sp H with ⟨c60, H⟩ | ⟨c60, H⟩
         ·
          replace hE := hE.btn 43 c60
          have hb23 := hS.blk_at (i := 0) rfl
          refine plc hE (.r 17 1 <| .b 18 4 hb23 <| .r 19 1 <| .b 20 3 hb23 <| .nil) (fun a hE => ?_)
          obtain ⟨t62, h63, H⟩ := bd H
          refine ple hE (.cl en116 (quorum_in.calls ((nth T_api_Info.z x0_ x8).f4) 0 ((nth T_api_Info.z x0_ x8).f3) _ _ _ hS.own.sub h63)) ?_
          rintro _ u61 a ⟨_, rfl, hC⟩ hE
          replace hS := hS.lent hC
          refine plc hE (.r 22 2 .nil) (fun a hE => pld ?_)
          exact J68 _ (by omega) _ (!t62) _ _ hE .of hS H
         ·
          replace hE := hE.bfn 43 c60
          refine plc hE (.r 17 7 .nil) (fun a hE => pld ?_)
          exact J68 _ (by omega) _ true _ _ hE .of hS H
        ·
         replace hE := hE.bfn 37 c56
         refine plc hE (.r 11 13 .nil) (fun a hE => pld ?_)
         exact J68 _ (by omega) _ true _ _ hE .of hS H
       ·
        replace hE := hE.bfn 31 c52
        refine plc hE (.r 5 19 .nil) (fun a hE => pld ?_)
        exact J68 _ (by omega) _ true _ _ hE .of hS H
    refine drawn 12 ⟨[], [], fun q => False⟩ mixed rfl (by kernel_rfl) (fun hst => ?_)
    replace hS := hS.drew
    have hb23 := hS.blk_at (i := 0) rfl
    refine mny 10 hst hE (.r 0 1 <| .b 1 0 hb23 <| .nil) (fun a hE => ?_)
    obtain ⟨t29, h30, H⟩ := bd H
    refine on1 2 hE (.cl en116 (quorum_in.calls ((nth T_api_Info.z x0_ x8).f0) 1 999 _ _ _ hS.own.sub h30)) ?_
    rintro _ u28 a ⟨_, rfl, hC⟩ hE
    refine ⟨.of hC.agr, ?_⟩
    replace hS := hS.lent hC
    refine mny 7 hst hE (.r 3 2 .nil) (fun a hE => ?_)
    rcases sp H with ⟨c31, H⟩ | ⟨c31, H⟩
    ·
     replace hE := hE.btn 19 c31
     obtain ⟨c32, H⟩ := gd H
     obtain ⟨A33, c34, g35, hv36⟩ := slK_run (P := Tryz.prog) g0_0 ⟨Int.le_refl _, c32.1, c32.2⟩ sz86
     have hb23 := hS.blk_at (i := 0) rfl
     refine mny 2 hst hE (.r 5 2 <| .y 7 (hv36 (by kernel_rfl)) <| .r 8 1 <| .b 9 0 hb23 <| .nil) (fun a hE => ?_)
     obtain ⟨t38, h39, H⟩ := bd H
     refine on1 10 hE (.cl en105 (quorum_has.calls k11 (cutl x0_ 0 x8) ((nth T_api_Info.z x0_ x8).f0) _ _ _ _ _ hS.own.sub g35 h39)) ?_
     rintro _ u37 a ⟨_, rfl, hC⟩ hE
     refine ⟨.of hC.agr, ?_⟩
     replace hS := hS.lent hC
     refine mny 0 hst hE (.r 11 1 .nil) (fun a hE => ?_)
     refine dn ?_
     exact J44 _ (by omega) _ t38 _ _ hE .of hS H
    ·
     replace hE := hE.bfn 19 c31
     refine mny 0 hst hE (.r 5 7 .nil) (fun a hE => ?_)
     refine dn ?_
     exact J44 _ (by omega) _ true _ _ hE .of hS H
   ·
    replace hE := hE.kf 11 c15
    refine cf hE ?_
    refine wp_exit ?_
    refine hK6 _ _ (wp_seq_k fun K72 hK72 => pl0 (plc hE (.r 0 1 .nil) (fun a hE => pld (hK72 _ _ (wp_ret ?_)))))
    obtain rfl := si H
    exact rt1 hE ⟨_, rfl, _, rfl, hS⟩

/-! ### windrose/quorum.sound: function 103 -/
def quorum_sound.f (k : Nat) (x0_ : T_api_Map) (x1_ : Int) (x2_ : List T_api_Info) : Option Bool := (maps_Check.f k x0_).bind fun t6 => (if t6 = 0 then ((quorum_in.f x1_ 0 (w64 (x0_.f3 - 1))).bind fun t10 => (if t10 = true then ((quorum_Check.f k x2_).bind fun t14 => (some (t14 == 0))) else (some false))) else (some false))
def quorum_sound.Post (W F : World) (r : Bool) (v : Value) (w' : World) : Prop := ∃ (F' : World), v = .bool r ∧ St W (mine W []) F w' F' []
theorem quorum_sound.calls (k : Nat) (x0_ : T_api_Map) (x1_ : Int) (x2_ : List T_api_Info) (A0_4 : Option Addr) (c0_4 : Nat) (A0_5 : Option Addr) (c0_5 : Nat) (A0_6 : Option Addr) (c0_6 : Nat) (A2_0 : Option Addr) (c2_0 : Nat) (r : Bool) (W F : World) (hown : Sub F W) (g0_4 : Rd T_api_Node.k F A0_4 c0_4 x0_.f4) (g0_5 : Rd T_api_Temp.k F A0_5 c0_5 x0_.f5) (g0_6 : Rd T_api_Trail.k F A0_6 c0_6 x0_.f6) (g2_0 : Rd T_api_Info.k F A2_0 c2_0 x2_) (H : quorum_sound.f k x0_ x1_ x2_ = some r) :
    Calls Tryz.prog 103 #[.agg #[.int .i64 x0_.f0, .int .i64 x0_.f1, .int .i64 x0_.f2, .int .i64 x0_.f3, .slice A0_4 x0_.f4.length c0_4, .slice A0_5 x0_.f5.length c0_5, .slice A0_6 x0_.f6.length c0_6], .int .i64 x1_, .slice A2_0 x2_.length c2_0] W fun e w' => ∃ v, e = .returned v ∧ quorum_sound.Post W F r v w' := by
 have hS := St.start (Own.nil hown)
 unfold quorum_sound.f at H
 refine enter (n := 22) rfl rfl rfl (Nat.le_of_ble_eq_true rfl) (fun a hE => ?_)
 refine wp_seq_k fun K1 hK1 => pl0 (ple hE (.bx (t := 26) hS [.int .i64 x0_.f0, .int .i64 x0_.f1, .int .i64 x0_.f2, .int .i64 x0_.f3, .slice A0_4 x0_.f4.length c0_4, .slice A0_5 x0_.f5.length c0_5, .slice A0_6 x0_.f6.length c0_6]) ?_)
 rintro _ u3 a ⟨b2, rfl, hb2, hS, hg⟩ hE
 refine plc hE (.r 1 1 .nil) (fun a hE => pld (hK1 _ _ (wp_seq_k fun K4 hK4 => pl0 (plc hE (.bn 0 0 7 hb2 .nil) (fun a hE => ?_)))))
 obtain ⟨t6, h7, H⟩ := bd H
 refine ple hE (.cl en32 (maps_Check.calls k x0_ _ _ _ _ _ _ _ _ _ hS.own.sub g0_4 g0_5 g0_6 h7)) ?_
 rintro _ u5 a ⟨_, rfl, hC⟩ hE
 replace hS := hS.lent hC
 refine plc hE (.r 2 2 .nil) (fun a hE => ?_)
 rcases sp H with ⟨c8, H⟩ | ⟨c8, H⟩
 ·
  replace hE := hE.kt 10 c8
  have hb2 := hS.blk_at (i := 0) rfl
  refine plc hE (.r 4 2 <| .b 6 3 hb2 <| .r 7 1 <| .nil) (fun a hE => ?_)
  obtain ⟨t10, h11, H⟩ := bd H
  refine ple hE (.cl en116 (quorum_in.calls x1_ 0 (w64 (x0_.f3 - 1)) _ _ _ hS.own.sub h11)) ?_
  rintro _ u9 a ⟨_, rfl, hC⟩ hE
  replace hS := hS.lent hC
  refine plc hE (.r 9 2 .nil) (fun a hE => ?_)
  rcases sp H with ⟨c12, H⟩ | ⟨c12, H⟩
  ·
   replace hE := hE.bt 17 c12
   refine plc hE (.r 11 1 .nil) (fun a hE => ?_)
   obtain ⟨t14, h15, H⟩ := bd H
   refine ple hE (.cl en58 (quorum_Check.calls k x2_ _ _ _ _ _ hS.own.sub g2_0 h15)) ?_
   rintro _ u13 a ⟨_, rfl, hC⟩ hE
   replace hS := hS.lent hC
   refine plc hE (.r 13 3 .nil) (fun a hE => pld (hK4 _ _ (wp_ret ?_)))
   replace hS := hS.tail
   obtain rfl := si H
   exact rt1 hE ⟨_, rfl, _, rfl, hS⟩
  ·
   replace hE := hE.bf 17 c12
   refine plc hE (.r 11 5 .nil) (fun a hE => pld (hK4 _ _ (wp_ret ?_)))
   replace hS := hS.tail
   obtain rfl := si H
   exact rt1 hE ⟨_, rfl, _, rfl, hS⟩
 ·
  replace hE := hE.kf 10 c8
  refine plc hE (.r 4 12 .nil) (fun a hE => pld (hK4 _ _ (wp_ret ?_)))
  replace hS := hS.tail
  obtain rfl := si H
  exact rt1 hE ⟨_, rfl, _, rfl, hS⟩

/-! ### windrose/maps.Raw: function 22 -/
def maps_Raw.j14 : Nat → T_api_Map → Int → Bool → Option (List Int)
  | 0, _, _, _ => none
  | k + 1, x0_, x1_, y13 => if y13 = true then (some []) else ((maps_raw.f k x0_ x1_).bind fun t24 => (some t24))
theorem maps_Raw.j14_s (k : Nat) (x0_ : T_api_Map) (x1_ : Int) (y13 : Bool) : maps_Raw.j14 (k + 1) x0_ x1_ y13 = (if y13 = true then (some []) else ((maps_raw.f k x0_ x1_).bind fun t24 => (some t24))) := by kernel_rfl
def maps_Raw.f (k : Nat) (x0_ : T_api_Map) (x1_ : Int) : Option (List Int) := (maps_Check.f k x0_).bind fun t7 => (if t7 = 0 then ((maps_in.f x1_ 0 (w64 (x0_.f3 - 1))).bind fun t11 => (maps_Raw.j14 k x0_ x1_ (!t11))) else (maps_Raw.j14 k x0_ x1_ true))
def maps_Raw.Post (W F : World) (r : List Int) (v : Value) (w' : World) : Prop := ∃ (F' : World) (RA0_0 : Option Addr) (rc0_0 : Nat), v = .slice RA0_0 r.length rc0_0 ∧ St W (mine W []) F w' F' [row (Kn.int .i64) 3 (.slice RA0_0 r.length rc0_0) r]
theorem maps_Raw.calls (k : Nat) (x0_ : T_api_Map) (x1_ : Int) (A0_4 : Option Addr) (c0_4 : Nat) (A0_5 : Option Addr) (c0_5 : Nat) (A0_6 : Option Addr) (c0_6 : Nat) (r : List Int) (W F : World) (hown : Sub F W) (g0_4 : Rd T_api_Node.k F A0_4 c0_4 x0_.f4) (g0_5 : Rd T_api_Temp.k F A0_5 c0_5 x0_.f5) (g0_6 : Rd T_api_Trail.k F A0_6 c0_6 x0_.f6) (H : maps_Raw.f k x0_ x1_ = some r) :
    Calls Tryz.prog 22 #[.agg #[.int .i64 x0_.f0, .int .i64 x0_.f1, .int .i64 x0_.f2, .int .i64 x0_.f3, .slice A0_4 x0_.f4.length c0_4, .slice A0_5 x0_.f5.length c0_5, .slice A0_6 x0_.f6.length c0_6], .int .i64 x1_] W fun e w' => ∃ v, e = .returned v ∧ maps_Raw.Post W F r v w' := by
 have hS := St.start (Own.nil hown)
 unfold maps_Raw.f at H
 refine enter (n := 19) rfl rfl rfl (Nat.le_of_ble_eq_true rfl) (fun a hE => ?_)
 refine wp_seq_k fun K1 hK1 => pl0 (ple hE (.bx (t := 26) hS [.int .i64 x0_.f0, .int .i64 x0_.f1, .int .i64 x0_.f2, .int .i64 x0_.f3, .slice A0_4 x0_.f4.length c0_4, .slice A0_5 x0_.f5.length c0_5, .slice A0_6 x0_.f6.length c0_6]) ?_)
 rintro _ u3 a ⟨b2, rfl, hb2, hS, hg⟩ hE
 refine plc hE (.r 1 1 .nil) (fun a hE => pld (hK1 _ _ (wp_seq_k fun K4 hK4 => wp_seq_k fun K5 hK5 => ?_)))
 have J17 : ∀ kq15, kq15 ≤ k → ∀ (G : Nat → Value) (y13 : Bool) (a : Act) (w' : World), Env 19 G a → At G [(1, .int .i64 x1_), (2, .pointer (some ⟨b2, 0, none⟩)), (15, .bool y13)] → St W (mine W []) F w' F [box b2 #[.int .i64 x0_.f0, .int .i64 x0_.f1, .int .i64 x0_.f2, .int .i64 x0_.f3, .slice A0_4 x0_.f4.length c0_4, .slice A0_5 x0_.f5.length c0_5, .slice A0_6 x0_.f6.length c0_6] 26] → maps_Raw.j14 kq15 x0_ x1_ y13 = some r → K5 a w' := by
  intro kq15 hkq G y13 a u18 hE hA hS H
  cases kq15 with
  | zero => cases (show none = some r from H)
  | succ k16 =>
   rw [maps_Raw.j14_s] at H
   obtain ⟨J, hE⟩ := hE.at hA
   refine hK5 _ _ ?_
   rcases sp H with ⟨c19, H⟩ | ⟨c19, H⟩
   ·
    replace hE := hE.bt 15 c19
    refine ct hE (wp_seq_k fun K20 hK20 => pl0 (plc hE (.r 0 1 .nil) (fun a hE => pld (hK20 _ _ (wp_ret (then_ret ?_))))))
    replace hS := hS.nilrow (Kn.int .i64) 3
    replace hS := hS.front 1 rfl
    replace hS := hS.tail
    obtain rfl := si H
    exact rt1 hE ⟨_, rfl, _, _, _, rfl, hS⟩
   ·
    replace hE := hE.bf 15 c19
    refine cf hE (wp_skip (hK4 _ _ (wp_seq_k fun K22 hK22 => pl0 ?_)))
    have hb2 := hS.blk_at (i := 0) rfl
    refine plc hE (.bn 0 0 7 hb2 <| .r 1 1 <| .nil) (fun a hE => ?_)
    obtain ⟨t24, h25, H⟩ := bd H
    refine ple hE (.cl en71 (maps_raw.calls k16 x0_ x1_ _ _ _ _ _ _ _ _ _ hS.own.sub g0_4 g0_5 g0_6 h25)) ?_
    rintro _ u23 a ⟨F26, A27, c28, rfl, hC⟩ hE
    have hs := hC.sub
    replace hS := hS.called (X := []) hC
    replace g0_4 := g0_4.mono hs
    replace g0_5 := g0_5.mono hs
    replace g0_6 := g0_6.mono hs
    refine plc hE (.r 3 1 .nil) (fun a hE => pld (hK22 _ _ (wp_ret ?_)))
    replace hS := hS.front 1 rfl
    replace hS := hS.tail
    obtain rfl := si H
    exact rt1 hE ⟨_, rfl, _, _, _, rfl, hS⟩
 refine pl0 (plc hE (.bn 0 0 7 hb2 .nil) (fun a hE => ?_))
 obtain ⟨t7, h8, H⟩ := bd H
 refine ple hE (.cl en32 (maps_Check.calls k x0_ _ _ _ _ _ _ _ _ _ hS.own.sub g0_4 g0_5 g0_6 h8)) ?_
 rintro _ u6 a ⟨_, rfl, hC⟩ hE
 replace hS := hS.lent hC
 refine plc hE (.r 2 2 .nil) (fun a hE => ?_)
 rcases sp H with ⟨c9, H⟩ | ⟨c9, H⟩
 ·
  replace hE := hE.ktn 8 c9
  have hb2 := hS.blk_at (i := 0) rfl
  refine plc hE (.r 4 2 <| .b 6 3 hb2 <| .r 7 1 <| .nil) (fun a hE => ?_)
  obtain ⟨t11, h12, H⟩ := bd H
  refine ple hE (.cl en70 (maps_in.calls x1_ 0 (w64 (x0_.f3 - 1)) _ _ _ hS.own.sub h12)) ?_
  rintro _ u10 a ⟨_, rfl, hC⟩ hE
  replace hS := hS.lent hC
  refine plc hE (.r 9 2 .nil) (fun a hE => pld ?_)
  exact J17 _ (by omega) _ (!t11) _ _ hE .of hS H
 ·
  replace hE := hE.kfn 8 c9
  refine plc hE (.r 4 7 .nil) (fun a hE => pld ?_)
  exact J17 _ (by omega) _ true _ _ hE .of hS H

/-! ### windrose/maps.Acting: function 24 -/
def maps_Acting.f (k : Nat) (x0_ : T_api_Map) (x1_ : Int) : Option (List Int) := (maps_Raw.f k x0_ x1_).bind fun t6 => ((maps_up.f k x0_ t6).bind fun t14 => (some t14))
def maps_Acting.Post (W F : World) (r : List Int) (v : Value) (w' : World) : Prop := ∃ (F' : World) (RA0_0 : Option Addr) (rc0_0 : Nat), v = .slice RA0_0 r.length rc0_0 ∧ St W (mine W []) F w' F' [row (Kn.int .i64) 3 (.slice RA0_0 r.length rc0_0) r]
theorem maps_Acting.calls (k : Nat) (x0_ : T_api_Map) (x1_ : Int) (A0_4 : Option Addr) (c0_4 : Nat) (A0_5 : Option Addr) (c0_5 : Nat) (A0_6 : Option Addr) (c0_6 : Nat) (r : List Int) (W F : World) (hown : Sub F W) (g0_4 : Rd T_api_Node.k F A0_4 c0_4 x0_.f4) (g0_5 : Rd T_api_Temp.k F A0_5 c0_5 x0_.f5) (g0_6 : Rd T_api_Trail.k F A0_6 c0_6 x0_.f6) (H : maps_Acting.f k x0_ x1_ = some r) :
    Calls Tryz.prog 24 #[.agg #[.int .i64 x0_.f0, .int .i64 x0_.f1, .int .i64 x0_.f2, .int .i64 x0_.f3, .slice A0_4 x0_.f4.length c0_4, .slice A0_5 x0_.f5.length c0_5, .slice A0_6 x0_.f6.length c0_6], .int .i64 x1_] W fun e w' => ∃ v, e = .returned v ∧ maps_Acting.Post W F r v w' := by
 have hS := St.start (Own.nil hown)
 unfold maps_Acting.f at H
 refine enter (n := 10) rfl rfl rfl (Nat.le_of_ble_eq_true rfl) (fun a hE => ?_)
 refine wp_seq_k fun K1 hK1 => pl0 (ple hE (.bx (t := 26) hS [.int .i64 x0_.f0, .int .i64 x0_.f1, .int .i64 x0_.f2, .int .i64 x0_.f3, .slice A0_4 x0_.f4.length c0_4, .slice A0_5 x0_.f5.length c0_5, .slice A0_6 x0_.f6.length c0_6]) ?_)
 rintro _ u3 a ⟨b2, rfl, hb2, hS, hg⟩ hE
 refine plc hE (.r 1 1 .nil) (fun a hE => pld (hK1 _ _ (wp_seq_k fun K4 hK4 => ?_)))
 refine drawn 6 ⟨[4], [], fun q => False⟩ mixed rfl (by kernel_rfl) (fun hst => ?_)
 replace hS := hS.drew
 have hb2 := hS.blk_at (i := 0) rfl
 refine mny 3 hst hE (.bn 0 0 7 hb2 <| .bn 1 0 7 hb2 <| .r 2 1 <| .nil) (fun a hE => ?_)
 obtain ⟨t6, h7, H⟩ := bd H
 refine on1 3 hE (.cl en22 (maps_Raw.calls k x0_ x1_ _ _ _ _ _ _ _ _ _ hS.own.sub g0_4 g0_5 g0_6 h7)) ?_
 rintro _ u5 a ⟨F8, A9, c10, rfl, hC⟩ hE
 refine ⟨.of hC.agr, ?_⟩
 have hs := hC.sub
 replace hS := hS.called (X := []) hC
 replace g0_4 := g0_4.mono hs
 replace g0_5 := g0_5.mono hs
 replace g0_6 := g0_6.mono hs
 obtain ⟨t14, h15, H⟩ := bd H
 refine on1 4 hE (.cl en74 (maps_up.calls k x0_ t6 _ _ _ _ _ _ _ _ _ _ _ (Own.left (X := [row (Kn.int .i64) 3 (.slice A9 t6.length c10) t6]) hS.own) g0_4 g0_5 g0_6 h15)) ?_
 rintro _ u13 a ⟨F16, A17, c18, rfl, hC⟩ hE
 refine ⟨.d, ?_⟩
 have hs := hC.sub
 replace hS := hS.called (X := [row (Kn.int .i64) 3 (.slice A9 t6.length c10) t6]) hC
 replace g0_4 := g0_4.mono hs
 replace g0_5 := g0_5.mono hs
 replace g0_6 := g0_6.mono hs
 refine mny 0 hst hE (.r 5 1 .nil) (fun a hE => ?_)
 refine dn ?_
 refine hK4 _ _ (wp_ret ?_)
 replace hS := hS.front 1 rfl
 replace hS := hS.tail
 obtain rfl := si H
 exact rt1 hE ⟨_, rfl, _, _, _, rfl, hS⟩

/-! ### windrose/quorum.Decide$1: function 104 -/
def quorum_Decide_1.f (k : Nat) (x0_ : Int) (xf0_ : List T_api_Info) : Option Bool := (quorum_has.f k xf0_ x0_).bind fun t4 => (some t4)
def quorum_Decide_1.Post (W F : World) (r : Bool) (v : Value) (w' : World) : Prop := ∃ (F' : World), v = .bool r ∧ St W (mine W []) F w' F' []
theorem quorum_Decide_1.calls (k : Nat) (x0_ : Int) (xf0_ : List T_api_Info) (pf0_ : Nat) (Af0_0 : Option Addr) (cf0_0 : Nat) (r : Bool) (W F : World) (hown : Sub F W) (gf0_0 : Rd T_api_Info.k F Af0_0 cf0_0 xf0_) (hpf0_ : F.heap[pf0_]? = some (.cells #[.slice Af0_0 xf0_.length cf0_0] 72 (0, 0))) (H : quorum_Decide_1.f k x0_ xf0_ = some r) :
    Calls Tryz.prog 104 #[.int .i64 x0_, .pointer (some ⟨pf0_, 0, none⟩)] W fun e w' => ∃ v, e = .returned v ∧ quorum_Decide_1.Post W F r v w' := by
 have hS := St.start (Own.nil hown)
 unfold quorum_Decide_1.f at H
 refine enter (n := 7) rfl rfl rfl (Nat.le_of_ble_eq_true rfl) (fun a hE => ?_)
 refine wp_seq_k fun K1 hK1 => pl0 (plc hE (.r 0 1 .nil) (fun a hE => pld (hK1 _ _ (wp_seq_k fun K2 hK2 => pl0 (plc hE (.b 0 0 (hS.own.sub _ _ _ _ hpf0_) <| .r 1 1 <| .nil) (fun a hE => ?_))))))
 obtain ⟨t4, h5, H⟩ := bd H
 refine ple hE (.cl en105 (quorum_has.calls k xf0_ x0_ _ _ _ _ _ hS.own.sub gf0_0 h5)) ?_
 rintro _ u3 a ⟨_, rfl, hC⟩ hE
 replace hS := hS.lent hC
 refine plc hE (.r 3 1 .nil) (fun a hE => pld (hK2 _ _ (wp_ret ?_)))
 obtain rfl := si H
 exact rt1 hE ⟨_, rfl, _, rfl, hS⟩

/-! ### windrose/quorum.Decide$2: function 106 -/
def quorum_Decide_2.f (k : Nat) (x0_ : Int) (xf0n0_ : List T_api_Info) : Option Bool := (quorum_Decide_1.f k x0_ xf0n0_).bind fun t4 => (some (!t4))
def quorum_Decide_2.Post (W F : World) (r : Bool) (v : Value) (w' : World) : Prop := ∃ (F' : World), v = .bool r ∧ St W (mine W []) F w' F' []
theorem quorum_Decide_2.calls (k : Nat) (x0_ : Int) (xf0n0_ : List T_api_Info) (pf0_ : Nat) (pf0n0_ : Nat) (Af0n0_0 : Option Addr) (cf0n0_0 : Nat) (r : Bool) (W F : World) (hown : Sub F W) (gf0n0_0 : Rd T_api_Info.k F Af0n0_0 cf0n0_0 xf0n0_) (hpf0n0_ : F.heap[pf0n0_]? = some (.cells #[.slice Af0n0_0 xf0n0_.length cf0n0_0] 72 (0, 0))) (hpf0_ : F.heap[pf0_]? = some (.cells #[.func (.func 104) #[] #[.pointer (some ⟨pf0n0_, 0, none⟩)]] 129 (0, 0))) (H : quorum_Decide_2.f k x0_ xf0n0_ = some r) :
    Calls Tryz.prog 106 #[.int .i64 x0_, .pointer (some ⟨pf0_, 0, none⟩)] W fun e w' => ∃ v, e = .returned v ∧ quorum_Decide_2.Post W F r v w' := by
 have hS := St.start (Own.nil hown)
 unfold quorum_Decide_2.f at H
 refine enter (n := 8) rfl rfl rfl (Nat.le_of_ble_eq_true rfl) (fun a hE => ?_)
 refine wp_seq_k fun K1 hK1 => pl0 (plc hE (.r 0 1 .nil) (fun a hE => pld (hK1 _ _ (wp_seq_k fun K2 hK2 => pl0 (plc hE (.b 0 0 (hS.own.sub _ _ _ _ hpf0_) <| .r 1 1 <| .nil) (fun a hE => ?_))))))
 obtain ⟨t4, h5, H⟩ := bd H
 refine ple hE (.cl en104 (quorum_Decide_1.calls k x0_ xf0n0_ _ _ _ _ _ _ hS.own.sub gf0n0_0 hpf0n0_ h5)) ?_
 rintro _ u3 a ⟨_, rfl, hC⟩ hE
 replace hS := hS.lent hC
 refine plc hE (.r 3 2 .nil) (fun a hE => pld (hK2 _ _ (wp_ret ?_)))
 obtain rfl := si H
 exact rt1 hE ⟨_, rfl, _, rfl, hS⟩

/-! ### slices.IndexFunc[[]int,int]: function 157 -/
def slices_IndexFunc__int_int_of_quorum_Decide_2.l5 : Nat → List Int → List T_api_Info → Int → Option Int
  | 0, _, _, _ => none
  | k + 1, x0_, x1c0n0_, x4 => if x4 < (x0_.length : Int) then (if 0 ≤ x4 ∧ x4 < (x0_.length : Int) then ((quorum_Decide_2.f k (nth 0 x0_ x4) x1c0n0_).bind fun t21 => (if t21 = true then (some x4) else (slices_IndexFunc__int_int_of_quorum_Decide_2.l5 k x0_ x1c0n0_ (w64 (x4 + 1))))) else (none)) else (some (-1))
theorem slices_IndexFunc__int_int_of_quorum_Decide_2.l5_s (k : Nat) (x0_ : List Int) (x1c0n0_ : List T_api_Info) (x4 : Int) : slices_IndexFunc__int_int_of_quorum_Decide_2.l5 (k + 1) x0_ x1c0n0_ x4 = (if x4 < (x0_.length : Int) then (if 0 ≤ x4 ∧ x4 < (x0_.length : Int) then ((quorum_Decide_2.f k (nth 0 x0_ x4) x1c0n0_).bind fun t21 => (if t21 = true then (some x4) else (slices_IndexFunc__int_int_of_quorum_Decide_2.l5 k x0_ x1c0n0_ (w64 (x4 + 1))))) else (none)) else (some (-1))) := by kernel_rfl
def slices_IndexFunc__int_int_of_quorum_Decide_2.f (k : Nat) (x0_ : List Int) (x1c0n0_ : List T_api_Info) : Option Int := slices_IndexFunc__int_int_of_quorum_Decide_2.l5 k x0_ x1c0n0_ 0
def slices_IndexFunc__int_int_of_quorum_Decide_2.Post (W F : World) (r : Int) (v : Value) (w' : World) : Prop := ∃ (F' : World), v = .int .i64 r ∧ St W (mine W []) F w' F' []
theorem slices_IndexFunc__int_int_of_quorum_Decide_2.calls (k : Nat) (x0_ : List Int) (x1c0n0_ : List T_api_Info) (A0_0 : Option Addr) (c0_0 : Nat) (p1c0_ : Nat) (p1c0n0_ : Nat) (A1c0n0_0 : Option Addr) (c1c0n0_0 : Nat) (r : Int) (W F : World) (hown : Sub F W) (g0_0 : Rd (Kn.int .i64) F A0_0 c0_0 x0_) (g1c0n0_0 : Rd T_api_Info.k F A1c0n0_0 c1c0n0_0 x1c0n0_) (hp1c0n0_ : F.heap[p1c0n0_]? = some (.cells #[.slice A1c0n0_0 x1c0n0_.length c1c0n0_0] 72 (0, 0))) (hp1c0_ : F.heap[p1c0_]? = some (.cells #[.func (.func 104) #[] #[.pointer (some ⟨p1c0n0_, 0, none⟩)]] 129 (0, 0))) (H : slices_IndexFunc__int_int_of_quorum_Decide_2.f k x0_ x1c0n0_ = some r) :
    Calls Tryz.prog 157 #[.slice A0_0 x0_.length c0_0, .func (.func 106) #[] #[.pointer (some ⟨p1c0_, 0, none⟩)]] W fun e w' => ∃ v, e = .returned v ∧ slices_IndexFunc__int_int_of_quorum_Decide_2.Post W F r v w' := by
 have hS := St.start (Own.nil hown)
 unfold slices_IndexFunc__int_int_of_quorum_Decide_2.f at H
 refine enter (n := 19) rfl rfl rfl (Nat.le_of_ble_eq_true rfl) (fun a hE => ?_)
 refine wp_seq_k fun K1 hK1 => pl0 (plc hE (.r 0 1 .nil) (fun a hE => pld (hK1 _ _ (wp_seq_k fun K2 hK2 => wp_seq_k fun K3 hK3 => pl0 (plc hE (.r 0 3 .nil) (fun a hE => pld (hK3 _ _ (wp_block ?_))))))))
 refine wp_loop_ghost (fun kq6 a w' => ∃ (G : Nat → Value) (x4 : Int), kq6 ≤ k ∧ Env 19 G a ∧ At G [(0, .slice A0_0 x0_.length c0_0), (1, .func (.func 106) #[] #[.pointer (some ⟨p1c0_, 0, none⟩)]), (7, .int .i64 (x0_.length : Int)), (8, .int .i64 x4)] ∧ St W (mine W []) F w' F [] ∧  slices_IndexFunc__int_int_of_quorum_Decide_2.l5 kq6 x0_ x1c0n0_ x4 = some r) k ⟨_, 0, Nat.le_refl _, hE, .of, hS, H⟩ ?_
 rintro kq6 a u8 ⟨G, x4, hkq, hE, hA, hS, H⟩
 cases kq6 with
 | zero => cases (show none = some r from H)
 | succ k7 =>
  rw [slices_IndexFunc__int_int_of_quorum_Decide_2.l5_s] at H
  obtain ⟨J, hE⟩ := hE.at hA
  refine wp_seq_k fun K9 hK9 => pl0 (plc hE (.r 0 1 .nil) (fun a hE => pld (hK9 _ _ (wp_seq_k fun K10 hK10 => ?_))))
  rcases sp H with ⟨c11, H⟩ | ⟨c11, H⟩
  ·
   replace hE := hE.kt 9 c11
   refine ct hE (wp_skip (hK10 _ _ (wp_seq_k fun K12 hK12 => wp_block (wp_seq_k fun K13 hK13 => pl0 (plc hE (.r 0 2 .nil) (fun a hE => pld (hK13 _ _ (wp_seq_k fun K14 hK14 => pl0 ?_))))))))
   obtain ⟨c15, H⟩ := gd H
   have hE_ := hE
   obtain ⟨ad16, rfl⟩ := g0_0.addr c15.1 c15.2
   replace hE := hE_
   obtain ⟨cs18, rfl, hc19⟩ := g0_0.el 0 x4 c15.1 c15.2
   refine plc hE (.r 0 3 <| .x 3 c15 <| .c 4 (hS.fc hc19 0) <| .nil) (fun a hE => ?_)
   obtain ⟨t21, h22, H⟩ := bd H
   refine ple hE (.cl en106 (quorum_Decide_2.calls k7 (nth 0 x0_ x4) x1c0n0_ _ _ _ _ _ _ _ hS.own.sub g1c0n0_0 hp1c0n0_ hp1c0_ h22)) ?_
   rintro _ u20 a ⟨_, rfl, hC⟩ hE
   replace hS := hS.lent hC
   refine pld (hK14 _ _ ?_)
   rcases sp H with ⟨c23, H⟩ | ⟨c23, H⟩
   ·
    replace hE := hE.bt 16 c23
    refine ct hE (wp_seq_k fun K24 hK24 => pl0 (plc hE (.r 0 2 .nil) (fun a hE => pld (hK24 _ _ (wp_ret (block_ret (then_ret (then_ret (block_ret (then_ret ?_))))))))))
    obtain rfl := si H
    exact rt1 hE ⟨_, rfl, _, rfl, hS⟩
   ·
    replace hE := hE.bf 16 c23
    refine cf hE (wp_skip ?_)
    refine block_n ?_
    refine hK12 _ _ (pl0 (plc hE (.r 0 2 .nil) (fun a hE => pld ?_)))
    exact then_n ⟨k7, by omega, _, (w64 (x4 + 1)), by omega, hE, .of, hS, H⟩
  ·
   replace hE := hE.kf 9 c11
   refine cf hE ?_
   refine wp_exit ?_
   refine hK2 _ _ (wp_seq_k fun K25 hK25 => pl0 (plc hE (.r 0 1 .nil) (fun a hE => pld (hK25 _ _ (wp_ret ?_)))))
   obtain rfl := si H
   exact rt1 hE ⟨_, rfl, _, rfl, hS⟩

/-! ### slices.ContainsFunc[[]int,int]: function 107 -/
def slices_ContainsFunc__int_int_of_quorum_Decide_2.f (k : Nat) (x0_ : List Int) (x1c0n0_ : List T_api_Info) : Option Bool := (slices_IndexFunc__int_int_of_quorum_Decide_2.f k x0_ x1c0n0_).bind fun t4 => (some (decide (t4 ≥ 0)))
def slices_ContainsFunc__int_int_of_quorum_Decide_2.Post (W F : World) (r : Bool) (v : Value) (w' : World) : Prop := ∃ (F' : World), v = .bool r ∧ St W (mine W []) F w' F' []
theorem slices_ContainsFunc__int_int_of_quorum_Decide_2.calls (k : Nat) (x0_ : List Int) (x1c0n0_ : List T_api_Info) (A0_0 : Option Addr) (c0_0 : Nat) (p1c0_ : Nat) (p1c0n0_ : Nat) (A1c0n0_0 : Option Addr) (c1c0n0_0 : Nat) (r : Bool) (W F : World) (hown : Sub F W) (g0_0 : Rd (Kn.int .i64) F A0_0 c0_0 x0_) (g1c0n0_0 : Rd T_api_Info.k F A1c0n0_0 c1c0n0_0 x1c0n0_) (hp1c0n0_ : F.heap[p1c0n0_]? = some (.cells #[.slice A1c0n0_0 x1c0n0_.length c1c0n0_0] 72 (0, 0))) (hp1c0_ : F.heap[p1c0_]? = some (.cells #[.func (.func 104) #[] #[.pointer (some ⟨p1c0n0_, 0, none⟩)]] 129 (0, 0))) (H : slices_ContainsFunc__int_int_of_quorum_Decide_2.f k x0_ x1c0n0_ = some r) :
    Calls Tryz.prog 107 #[.slice A0_0 x0_.length c0_0, .func (.func 106) #[] #[.pointer (some ⟨p1c0_, 0, none⟩)]] W fun e w' => ∃ v, e = .returned v ∧ slices_ContainsFunc__int_int_of_quorum_Decide_2.Post W F r v w' := by
 have hS := St.start (Own.nil hown)
 unfold slices_ContainsFunc__int_int_of_quorum_Decide_2.f at H
 refine enter (n := 9) rfl rfl rfl (Nat.le_of_ble_eq_true rfl) (fun a hE => ?_)
 refine wp_seq_k fun K1 hK1 => pl0 (plc hE (.r 0 1 .nil) (fun a hE => pld (hK1 _ _ (wp_seq_k fun K2 hK2 => pl0 (plc hE (.r 0 2 .nil) (fun a hE => ?_))))))
 obtain ⟨t4, h5, H⟩ := bd H
 refine ple hE (.cl en157 (slices_IndexFunc__int_int_of_quorum_Decide_2.calls k x0_ x1c0n0_ _ _ _ _ _ _ _ _ _ hS.own.sub g0_0 g1c0n0_0 hp1c0n0_ hp1c0_ h5)) ?_
 rintro _ u3 a ⟨_, rfl, hC⟩ hE
 replace hS := hS.lent hC
 refine plc hE (.r 3 2 .nil) (fun a hE => pld (hK2 _ _ (wp_ret ?_)))
 obtain rfl := si H
 exact rt1 hE ⟨_, rfl, _, rfl, hS⟩

/-! ### cmp.Or[int]: function 160 -/
def cmp_Or_int.l6 : Nat → List Int → Int → Option Int
  | 0, _, _ => none
  | k + 1, x0_, x5 => if x5 < (x0_.length : Int) then (if 0 ≤ x5 ∧ x5 < (x0_.length : Int) then (if (nth 0 x0_ x5) = 0 then (cmp_Or_int.l6 k x0_ (w64 (x5 + 1))) else (some (nth 0 x0_ x5))) else (none)) else (some 0)
theorem cmp_Or_int.l6_s (k : Nat) (x0_ : List Int) (x5 : Int) : cmp_Or_int.l6 (k + 1) x0_ x5 = (if x5 < (x0_.length : Int) then (if 0 ≤ x5 ∧ x5 < (x0_.length : Int) then (if (nth 0 x0_ x5) = 0 then (cmp_Or_int.l6 k x0_ (w64 (x5 + 1))) else (some (nth 0 x0_ x5))) else (none)) else (some 0)) := by kernel_rfl
def cmp_Or_int.f (k : Nat) (x0_ : List Int) : Option Int := cmp_Or_int.l6 k x0_ 0
def cmp_Or_int.Post (W F : World) (r : Int) (v : Value) (w' : World) : Prop := ∃ (F' : World), v = .int .i64 r ∧ St W (mine W []) F w' F' []
theorem cmp_Or_int.calls (k : Nat) (x0_ : List Int) (A0_0 : Option Addr) (c0_0 : Nat) (r : Int) (W F : World) (hown : Sub F W) (g0_0 : Rd (Kn.int .i64) F A0_0 c0_0 x0_) (H : cmp_Or_int.f k x0_ = some r) :
    Calls Tryz.prog 160 #[.slice A0_0 x0_.length c0_0] W fun e w' => ∃ v, e = .returned v ∧ cmp_Or_int.Post W F r v w' := by
 have hS := St.start (Own.nil hown)
 unfold cmp_Or_int.f at H
 refine enter (n := 18) rfl rfl rfl (Nat.le_of_ble_eq_true rfl) (fun a hE => ?_)
 refine wp_seq_k fun K1 hK1 => pl0 (plc hE (.r 0 1 .nil) (fun a hE => pld (hK1 _ _ (wp_seq_k fun K2 hK2 => pl0 (plc hE (.r 0 1 .nil) (fun a hE => pld (hK2 _ _ (wp_seq_k fun K3 hK3 => wp_seq_k fun K4 hK4 => pl0 (plc hE (.r 0 3 .nil) (fun a hE => pld (hK4 _ _ (wp_block ?_))))))))))))
 refine wp_loop_ghost (fun kq7 a w' => ∃ (G : Nat → Value) (x5 : Int), kq7 ≤ k ∧ Env 18 G a ∧ At G [(3, .int .i64 0), (6, .slice A0_0 x0_.length c0_0), (7, .int .i64 (x0_.length : Int)), (8, .int .i64 x5)] ∧ St W (mine W []) F w' F [] ∧  cmp_Or_int.l6 kq7 x0_ x5 = some r) k ⟨_, 0, Nat.le_refl _, hE, .of, hS, H⟩ ?_
 rintro kq7 a u9 ⟨G, x5, hkq, hE, hA, hS, H⟩
 cases kq7 with
 | zero => cases (show none = some r from H)
 | succ k8 =>
  rw [cmp_Or_int.l6_s] at H
  obtain ⟨J, hE⟩ := hE.at hA
  refine wp_seq_k fun K10 hK10 => pl0 (plc hE (.r 0 1 .nil) (fun a hE => pld (hK10 _ _ (wp_seq_k fun K11 hK11 => ?_))))
  rcases sp H with ⟨c12, H⟩ | ⟨c12, H⟩
  ·
   replace hE := hE.kt 9 c12
   refine ct hE (wp_skip (hK11 _ _ (wp_seq_k fun K13 hK13 => wp_block (wp_seq_k fun K14 hK14 => pl0 ?_))))
   obtain ⟨c15, H⟩ := gd H
   have hE_ := hE
   obtain ⟨ad16, rfl⟩ := g0_0.addr c15.1 c15.2
   replace hE := hE_
   obtain ⟨cs18, rfl, hc19⟩ := g0_0.el 0 x5 c15.1 c15.2
   refine plc hE (.x 0 c15 <| .c 1 (hS.fc hc19 0) <| .r 2 1 <| .nil) (fun a hE => pld (hK14 _ _ (wp_seq_k fun K20 hK20 => pl0 (plc hE (.r 0 3 .nil) (fun a hE => pld (hK20 _ _ ?_))))))
   rcases sp H with ⟨c21, H⟩ | ⟨c21, H⟩
   ·
    replace hE := hE.ktn 14 c21
    refine cf hE (wp_skip ?_)
    refine block_n ?_
    refine hK13 _ _ (pl0 (plc hE (.r 0 2 .nil) (fun a hE => pld ?_)))
    exact then_n ⟨k8, by omega, _, (w64 (x5 + 1)), by omega, hE, .of, hS, H⟩
   ·
    replace hE := hE.kfn 14 c21
    refine ct hE (wp_seq_k fun K22 hK22 => pl0 (plc hE (.r 0 2 .nil) (fun a hE => pld (hK22 _ _ (wp_ret (block_ret (then_ret (then_ret (block_ret (then_ret ?_))))))))))
    obtain rfl := si H
    exact rt1 hE ⟨_, rfl, _, rfl, hS⟩
  ·
   replace hE := hE.kf 9 c12
   refine cf hE ?_
   refine wp_exit ?_
   refine hK3 _ _ (wp_seq_k fun K23 hK23 => pl0 (plc hE (.r 0 2 .nil) (fun a hE => pld (hK23 _ _ (wp_ret ?_)))))
   obtain rfl := si H
   exact rt1 hE ⟨_, rfl, _, rfl, hS⟩

/-! ### windrose/quorum.compare: function 115 -/
def quorum_compare.f (k : Nat) (x0_ : T_api_Info) (x1_ : T_api_Info) : Option Int := (cmp_Compare_int.f x1_.f1 x0_.f1).bind fun t8 => ((cmp_Compare_int.f x1_.f2 x0_.f2).bind fun t11 => ((cmp_Compare_int.f x1_.f3 x0_.f3).bind fun t14 => ((cmp_Compare_int.f x0_.f0 x1_.f0).bind fun t17 => ((cmp_Or_int.f k [t8, t11, t14, t17]).bind fun t24 => (some t24)))))
def quorum_compare.Post (W F : World) (r : Int) (v : Value) (w' : World) : Prop := ∃ (F' : World), v = .int .i64 r ∧ St W (mine W []) F w' F' []
theorem quorum_compare.calls (k : Nat) (x0_ : T_api_Info) (x1_ : T_api_Info) (r : Int) (W F : World) (hown : Sub F W) (H : quorum_compare.f k x0_ x1_ = some r) :
    Calls Tryz.prog 115 #[.agg #[.int .i64 x0_.f0, .int .i64 x0_.f1, .int .i64 x0_.f2, .int .i64 x0_.f3, .int .i64 x0_.f4], .agg #[.int .i64 x1_.f0, .int .i64 x1_.f1, .int .i64 x1_.f2, .int .i64 x1_.f3, .int .i64 x1_.f4]] W fun e w' => ∃ v, e = .returned v ∧ quorum_compare.Post W F r v w' := by
 have hS := St.start (Own.nil hown)
 unfold quorum_compare.f at H
 refine enter (n := 27) rfl rfl rfl (Nat.le_of_ble_eq_true rfl) (fun a hE => ?_)
 refine wp_seq_k fun K1 hK1 => pl0 (ple hE (.bx (t := 86) hS [.int .i64 x0_.f0, .int .i64 x0_.f1, .int .i64 x0_.f2, .int .i64 x0_.f3, .int .i64 x0_.f4]) ?_)
 rintro _ u3 a ⟨b2, rfl, hb2, hS, hg⟩ hE
 refine ple hE (.bx (t := 86) hS [.int .i64 x1_.f0, .int .i64 x1_.f1, .int .i64 x1_.f2, .int .i64 x1_.f3, .int .i64 x1_.f4]) ?_
 rintro _ u5 a ⟨b4, rfl, hb4, hS, hg⟩ hE
 refine plc hE (.r 2 1 .nil) (fun a hE => pld (hK1 _ _ (wp_seq_k fun K6 hK6 => ?_)))
 refine drawn 23 ⟨[], [], fun q => False⟩ mixed rfl (by kernel_rfl) (fun hst => ?_)
 replace hS := hS.drew
 have hb4 := hS.blk_at (i := 0) rfl
 have hb2 := hS.blk_at (i := 1) rfl
 refine mny 7 hst hE (.r 0 1 <| .b 1 1 hb4 <| .r 2 1 <| .b 3 1 hb2 <| .r 5 1 <| .b 6 2 hb4 <| .r 7 1 <| .b 8 2 hb2 <| .r 10 1 <| .b 11 3 hb4 <| .r 12 1 <| .b 13 3 hb2 <| .r 15 1 <| .b 16 0 hb2 <| .r 17 1 <| .b 18 0 hb4 <| .nil) (fun a hE => ?_)
 obtain ⟨t8, h9, H⟩ := bd H
 refine on1 4 hE (.cl en161 (cmp_Compare_int.calls x1_.f1 x0_.f1 _ _ _ hS.own.sub h9)) ?_
 rintro _ u7 a ⟨_, rfl, hC⟩ hE
 refine ⟨.of hC.agr, ?_⟩
 replace hS := hS.lent hC
 obtain ⟨t11, h12, H⟩ := bd H
 refine on1 9 hE (.cl en161 (cmp_Compare_int.calls x1_.f2 x0_.f2 _ _ _ hS.own.sub h12)) ?_
 rintro _ u10 a ⟨_, rfl, hC⟩ hE
 refine ⟨.of hC.agr, ?_⟩
 replace hS := hS.lent hC
 obtain ⟨t14, h15, H⟩ := bd H
 refine on1 14 hE (.cl en161 (cmp_Compare_int.calls x1_.f3 x0_.f3 _ _ _ hS.own.sub h15)) ?_
 rintro _ u13 a ⟨_, rfl, hC⟩ hE
 refine ⟨.of hC.agr, ?_⟩
 replace hS := hS.lent hC
 obtain ⟨t17, h18, H⟩ := bd H
 refine on1 19 hE (.cl en161 (cmp_Compare_int.calls x0_.f0 x1_.f0 _ _ _ hS.own.sub h18)) ?_
 rintro _ u16 a ⟨_, rfl, hC⟩ hE
 refine ⟨.of hC.agr, ?_⟩
 replace hS := hS.lent hC
 refine on1 20 hE (.lit (d := (Kn.int .i64)) (e := 3) hS [t8, t11, t14, t17] (.cons rfl <| .cons rfl <| .cons rfl <| .cons rfl .nil)) ?_
 rintro _ u19 a ⟨A20, c21, rfl, hS, hg⟩ hE
 refine ⟨.of hg, ?_⟩
 obtain ⟨t24, h25, H⟩ := bd H
 refine on1 21 hE (.cl en160 (cmp_Or_int.calls k [t8, t11, t14, t17] _ _ _ _ _ (Sub.refl _) (hS.rd_at (i := 0) rfl) h25)) ?_
 rintro _ u23 a ⟨_, rfl, hC⟩ hE
 refine ⟨.of hC.agr, ?_⟩
 replace hS := hS.lent hC
 refine mny 0 hst hE (.r 22 1 .nil) (fun a hE => ?_)
 refine dn ?_
 refine hK6 _ _ (wp_ret ?_)
 replace hS := hS.tail
 replace hS := hS.tail
 replace hS := hS.tail
 obtain rfl := si H
 exact rt1 hE ⟨_, rfl, _, rfl, hS⟩

/-! ### slices.MinFunc[[]windrose/api.Info,windrose/api.Info]: function 114 -/
def slices_MinFunc__api_Info_api_Info_of_quorum_compare.l24 : Nat → List T_api_Info → Int → Int → Int → Int → Int → Int → Option T_api_Info
  | 0, _, _, _, _, _, _, _ => none
  | k + 1, x0_, x18, x19, x20, x21, x22, x23 => if x18 < (x0_.length : Int) then (if 0 ≤ x18 ∧ x18 < (x0_.length : Int) then ((quorum_compare.f k (⟨(nth T_api_Info.z x0_ x18).f0, (nth T_api_Info.z x0_ x18).f1, (nth T_api_Info.z x0_ x18).f2, (nth T_api_Info.z x0_ x18).f3, (nth T_api_Info.z x0_ x18).f4⟩ : T_api_Info) (⟨x19, x20, x21, x22, x23⟩ : T_api_Info)).bind fun t38 => (if t38 < 0 then (slices_MinFunc__api_Info_api_Info_of_quorum_compare.l24 k x0_ (w64 (x18 + 1)) ((nth T_api_Info.z x0_ x18).f0) ((nth T_api_Info.z x0_ x18).f1) ((nth T_api_Info.z x0_ x18).f2) ((nth T_api_Info.z x0_ x18).f3) ((nth T_api_Info.z x0_ x18).f4)) else (slices_MinFunc__api_Info_api_Info_of_quorum_compare.l24 k x0_ (w64 (x18 + 1)) x19 x20 x21 x22 x23))) else (none)) else (some (⟨x19, x20, x21, x22, x23⟩ : T_api_Info))
theorem slices_MinFunc__api_Info_api_Info_of_quorum_compare.l24_s (k : Nat) (x0_ : List T_api_Info) (x18 : Int) (x19 : Int) (x20 : Int) (x21 : Int) (x22 : Int) (x23 : Int) : slices_MinFunc__api_Info_api_Info_of_quorum_compare.l24 (k + 1) x0_ x18 x19 x20 x21 x22 x23 = (if x18 < (x0_.length : Int) then (if 0 ≤ x18 ∧ x18 < (x0_.length : Int) then ((quorum_compare.f k (⟨(nth T_api_Info.z x0_ x18).f0, (nth T_api_Info.z x0_ x18).f1, (nth T_api_Info.z x0_ x18).f2, (nth T_api_Info.z x0_ x18).f3, (nth T_api_Info.z x0_ x18).f4⟩ : T_api_Info) (⟨x19, x20, x21, x22, x23⟩ : T_api_Info)).bind fun t38 => (if t38 < 0 then (slices_MinFunc__api_Info_api_Info_of_quorum_compare.l24 k x0_ (w64 (x18 + 1)) ((nth T_api_Info.z x0_ x18).f0) ((nth T_api_Info.z x0_ x18).f1) ((nth T_api_Info.z x0_ x18).f2) ((nth T_api_Info.z x0_ x18).f3) ((nth T_api_Info.z x0_ x18).f4)) else (slices_MinFunc__api_Info_api_Info_of_quorum_compare.l24 k x0_ (w64 (x18 + 1)) x19 x20 x21 x22 x23))) else (none)) else (some (⟨x19, x20, x21, x22, x23⟩ : T_api_Info))) := by kernel_rfl
def slices_MinFunc__api_Info_api_Info_of_quorum_compare.f (k : Nat) (x0_ : List T_api_Info) : Option T_api_Info := if (x0_.length : Int) < 1 then (none) else (if 0 ≤ (0 : Int) ∧ 0 < (x0_.length : Int) then (slices_MinFunc__api_Info_api_Info_of_quorum_compare.l24 k x0_ 1 ((nth T_api_Info.z x0_ 0).f0) ((nth T_api_Info.z x0_ 0).f1) ((nth T_api_Info.z x0_ 0).f2) ((nth T_api_Info.z x0_ 0).f3) ((nth T_api_Info.z x0_ 0).f4)) else (none))
def slices_MinFunc__api_Info_api_Info_of_quorum_compare.Post (W F : World) (r : T_api_Info) (v : Value) (w' : World) : Prop := ∃ (F' : World), v = .agg #[.int .i64 r.f0, .int .i64 r.f1, .int .i64 r.f2, .int .i64 r.f3, .int .i64 r.f4] ∧ St W (mine W []) F w' F' []
theorem slices_MinFunc__api_Info_api_Info_of_quorum_compare.calls (k : Nat) (x0_ : List T_api_Info) (A0_0 : Option Addr) (c0_0 : Nat) (r : T_api_Info) (W F : World) (hown : Sub F W) (g0_0 : Rd T_api_Info.k F A0_0 c0_0 x0_) (H : slices_MinFunc__api_Info_api_Info_of_quorum_compare.f k x0_ = some r) :
    Calls Tryz.prog 114 #[.slice A0_0 x0_.length c0_0, .func (.func 115) #[] #[]] W fun e w' => ∃ v, e = .returned v ∧ slices_MinFunc__api_Info_api_Info_of_quorum_compare.Post W F r v w' := by
 have hS := St.start (Own.nil hown)
 unfold slices_MinFunc__api_Info_api_Info_of_quorum_compare.f at H
 refine enter (n := 33) rfl rfl rfl (Nat.le_of_ble_eq_true rfl) (fun a hE => ?_)
 refine wp_seq_k fun K1 hK1 => pl0 (ple hE (.al (t := 86) hS [.int .i64 0, .int .i64 0, .int .i64 0, .int .i64 0, .int .i64 0]) ?_)
 rintro _ u3 a ⟨b2, rfl, hb2, hS, hg⟩ hE
 refine pld (hK1 _ _ (wp_seq_k fun K4 hK4 => wp_seq_k fun K5 hK5 => pl0 (plc hE (.r 0 3 .nil) (fun a hE => pld (hK5 _ _ ?_)))))
 rcases sp H with ⟨c6, H⟩ | ⟨c6, H⟩
 ·
  replace hE := hE.kt 9 c6
  refine ct hE ?_
  cases (show none = some r from H)
 ·
  replace hE := hE.kf 9 c6
  refine cf hE (wp_skip (hK4 _ _ (wp_seq_k fun K7 hK7 => pl0 ?_)))
  obtain ⟨c8, H⟩ := gd H
  have hE_ := hE
  obtain ⟨ad9, rfl⟩ := g0_0.addr c8.1 c8.2
  replace hE := hE_
  obtain ⟨cs11, rfl, hc12⟩ := g0_0.el T_api_Info.z 0 c8.1 c8.2
  refine plc hE (.r 0 1 <| .x 1 c8 <| .cs 2 (hS.fcs hc12) <| .nil) (fun a hE => ple hE (.al (t := 86) hS [.int .i64 0, .int .i64 0, .int .i64 0, .int .i64 0, .int .i64 0]) ?_)
  rintro _ u14 a ⟨b13, rfl, hb13, hS, hg⟩ hE
  refine ple hE (.sto hS [.int .i64 ((nth T_api_Info.z x0_ 0).f0), .int .i64 ((nth T_api_Info.z x0_ 0).f1), .int .i64 ((nth T_api_Info.z x0_ 0).f2), .int .i64 ((nth T_api_Info.z x0_ 0).f3), .int .i64 ((nth T_api_Info.z x0_ 0).f4)]) ?_
  rintro _ u15 a ⟨rfl, hb13, hS, hz⟩ hE
  refine pld (hK7 _ _ (wp_seq_k fun K16 hK16 => wp_seq_k fun K17 hK17 => pl0 (plc hE (.r 0 1 .nil) (fun a hE => pld (hK17 _ _ (wp_block ?_))))))
  refine wp_loop_ghost (fun kq25 a w' => ∃ (G : Nat → Value) (x18 : Int) (x19 : Int) (x20 : Int) (x21 : Int) (x22 : Int) (x23 : Int), kq25 ≤ k ∧ Env 33 G a ∧ At G [(0, .slice (some ad9) x0_.length c0_0), (1, .func (.func 115) #[] #[]), (4, .pointer (some ⟨b2, 0, none⟩)), (5, .pointer (some ⟨b13, 0, none⟩)), (6, .int .i64 x18)] ∧ St W (mine W []) F w' F [box b13 #[.int .i64 x19, .int .i64 x20, .int .i64 x21, .int .i64 x22, .int .i64 x23] 86, box b2 #[.int .i64 0, .int .i64 0, .int .i64 0, .int .i64 0, .int .i64 0] 86] ∧  slices_MinFunc__api_Info_api_Info_of_quorum_compare.l24 kq25 x0_ x18 x19 x20 x21 x22 x23 = some r) k ⟨_, 1, (nth T_api_Info.z x0_ 0).f0, (nth T_api_Info.z x0_ 0).f1, (nth T_api_Info.z x0_ 0).f2, (nth T_api_Info.z x0_ 0).f3, (nth T_api_Info.z x0_ 0).f4, Nat.le_refl _, hE, .of, hS, H⟩ ?_
  rintro kq25 a u27 ⟨G, x18, x19, x20, x21, x22, x23, hkq, hE, hA, hS, H⟩
  cases kq25 with
  | zero => cases (show none = some r from H)
  | succ k26 =>
   rw [slices_MinFunc__api_Info_api_Info_of_quorum_compare.l24_s] at H
   obtain ⟨J, hE⟩ := hE.at hA
   refine wp_seq_k fun K28 hK28 => wp_seq_k fun K29 hK29 => pl0 (plc hE (.r 0 4 .nil) (fun a hE => pld (hK29 _ _ ?_)))
   rcases sp H with ⟨c30, H⟩ | ⟨c30, H⟩
   ·
    replace hE := hE.kt 17 c30
    refine ct hE (wp_skip (hK28 _ _ (wp_seq_k fun K31 hK31 => wp_block (wp_seq_k fun K32 hK32 => ?_))))
    refine drawn 8 ⟨[], [], fun q => False⟩ mixed rfl (by kernel_rfl) (fun hst => ?_)
    replace hS := hS.drew
    obtain ⟨c33, H⟩ := gd H
    obtain ⟨cs35, rfl, hc36⟩ := g0_0.el T_api_Info.z x18 c33.1 c33.2
    have hb13 := hS.blk_at (i := 0) rfl
    refine mny 2 hst hE (.r 0 3 <| .x 3 c33 <| .cs 4 (hS.fcs hc36) <| .bn 5 0 5 hb13 <| .nil) (fun a hE => ?_)
    obtain ⟨t38, h39, H⟩ := bd H
    refine on1 6 hE (.cl en115 (quorum_compare.calls k26 (⟨(nth T_api_Info.z x0_ x18).f0, (nth T_api_Info.z x0_ x18).f1, (nth T_api_Info.z x0_ x18).f2, (nth T_api_Info.z x0_ x18).f3, (nth T_api_Info.z x0_ x18).f4⟩ : T_api_Info) (⟨x19, x20, x21, x22, x23⟩ : T_api_Info) _ _ _ hS.own.sub h39)) ?_
    rintro _ u37 a ⟨_, rfl, hC⟩ hE
    refine ⟨.of hC.agr, ?_⟩
    replace hS := hS.lent hC
    refine mny 0 hst hE (.r 7 1 .nil) (fun a hE => ?_)
    refine dn ?_
    refine hK32 _ _ ?_
    rcases sp H with ⟨c40, H⟩ | ⟨c40, H⟩
    ·
     replace hE := hE.kt 27 c40
     refine ct hE (pl0 (plc hE (.r 0 2 <| .x 2 c33 <| .cs 3 (hS.fcs hc36) <| .nil) (fun a hE => ple hE (.sto hS [.int .i64 ((nth T_api_Info.z x0_ x18).f0), .int .i64 ((nth T_api_Info.z x0_ x18).f1), .int .i64 ((nth T_api_Info.z x0_ x18).f2), .int .i64 ((nth T_api_Info.z x0_ x18).f3), .int .i64 ((nth T_api_Info.z x0_ x18).f4)]) ?_)))
     rintro _ u44 a ⟨rfl, hb13, hS, hz⟩ hE
     refine pld ?_
     refine block_n ?_
     refine hK31 _ _ (pl0 (plc hE (.r 0 3 .nil) (fun a hE => pld ?_)))
     exact then_n ⟨k26, by omega, _, (w64 (x18 + 1)), (nth T_api_Info.z x0_ x18).f0, (nth T_api_Info.z x0_ x18).f1, (nth T_api_Info.z x0_ x18).f2, (nth T_api_Info.z x0_ x18).f3, (nth T_api_Info.z x0_ x18).f4, by omega, hE, .of, hS, H⟩
    ·
     replace hE := hE.kf 27 c40
     refine cf hE (wp_skip ?_)
     refine block_n ?_
     refine hK31 _ _ (pl0 (plc hE (.r 0 3 .nil) (fun a hE => pld ?_)))
     exact then_n ⟨k26, by omega, _, (w64 (x18 + 1)), x19, x20, x21, x22, x23, by omega, hE, .of, hS, H⟩
   ·
    replace hE := hE.kf 17 c30
    refine cf hE ?_
    refine wp_exit ?_
    refine hK16 _ _ (wp_seq_k fun K45 hK45 => pl0 ?_)
    have hb13 := hS.blk_at (i := 0) rfl
    refine plc hE (.bn 0 0 5 hb13 .nil) (fun a hE => ?_)
    replace hS := hS.front 1 rfl
    refine ple hE (.sto hS [.int .i64 x19, .int .i64 x20, .int .i64 x21, .int .i64 x22, .int .i64 x23]) ?_
    rintro _ u46 a ⟨rfl, hb2, hS, hz⟩ hE
    refine pld (hK45 _ _ (wp_ret ?_))
    replace hS := hS.tail
    replace hS := hS.tail
    obtain rfl := si H
    exact ret1 hE rfl (.cell (by kernel_rfl) (res_blk [.int .i64 x19, .int .i64 x20, .int .i64 x21, .int .i64 x22, .int .i64 x23] ag86 sz86 hb2 rfl) .nil) ⟨_, rfl, _, rfl, hS⟩

/-! ### windrose/quorum.Best: function 57 -/
def quorum_Best.j11 : Nat → List T_api_Info → Bool → Option (T_api_Info × Bool)
  | 0, _, _ => none
  | k + 1, x0_, y10 => if y10 = true then (some ((⟨0, 0, 0, 0, 0⟩ : T_api_Info), false)) else ((slices_MinFunc__api_Info_api_Info_of_quorum_compare.f k x0_).bind fun t21 => (some (t21, true)))
theorem quorum_Best.j11_s (k : Nat) (x0_ : List T_api_Info) (y10 : Bool) : quorum_Best.j11 (k + 1) x0_ y10 = (if y10 = true then (some ((⟨0, 0, 0, 0, 0⟩ : T_api_Info), false)) else ((slices_MinFunc__api_Info_api_Info_of_quorum_compare.f k x0_).bind fun t21 => (some (t21, true)))) := by kernel_rfl
def quorum_Best.f (k : Nat) (x0_ : List T_api_Info) : Option (T_api_Info × Bool) := if (x0_.length : Int) = 0 then (quorum_Best.j11 k x0_ true) else ((quorum_Check.f k x0_).bind fun t8 => (quorum_Best.j11 k x0_ (!(t8 == 0))))
def quorum_Best.Post (W F : World) (r : T_api_Info × Bool) (v : Value) (w' : World) : Prop := ∃ (F' : World), v = .tuple #[.agg #[.int .i64 r.1.f0, .int .i64 r.1.f1, .int .i64 r.1.f2, .int .i64 r.1.f3, .int .i64 r.1.f4], .bool r.2] ∧ St W (mine W []) F w' F' []
theorem quorum_Best.calls (k : Nat) (x0_ : List T_api_Info) (A0_0 : Option Addr) (c0_0 : Nat) (r : T_api_Info × Bool) (W F : World) (hown : Sub F W) (g0_0 : Rd T_api_Info.k F A0_0 c0_0 x0_) (H : quorum_Best.f k x0_ = some r) :
    Calls Tryz.prog 57 #[.slice A0_0 x0_.length c0_0] W fun e w' => ∃ v, e = .returned v ∧ quorum_Best.Post W F r v w' := by
 have hS := St.start (Own.nil hown)
 unfold quorum_Best.f at H
 refine enter (n := 15) rfl rfl rfl (Nat.le_of_ble_eq_true rfl) (fun a hE => ?_)
 refine wp_seq_k fun K1 hK1 => pl0 (ple hE (.al (t := 86) hS [.int .i64 0, .int .i64 0, .int .i64 0, .int .i64 0, .int .i64 0]) ?_)
 rintro _ u3 a ⟨b2, rfl, hb2, hS, hg⟩ hE
 refine plc hE (.r 1 1 .nil) (fun a hE => pld (hK1 _ _ (wp_seq_k fun K4 hK4 => wp_seq_k fun K5 hK5 => ?_)))
 have J14 : ∀ kq12, kq12 ≤ k → ∀ (G : Nat → Value) (y10 : Bool) (a : Act) (w' : World), Env 15 G a → At G [(0, .slice A0_0 x0_.length c0_0), (2, .pointer (some ⟨b2, 0, none⟩)), (11, .bool y10)] → St W (mine W []) F w' F [box b2 #[.int .i64 0, .int .i64 0, .int .i64 0, .int .i64 0, .int .i64 0] 86] → quorum_Best.j11 kq12 x0_ y10 = some r → K5 a w' := by
  intro kq12 hkq G y10 a u15 hE hA hS H
  cases kq12 with
  | zero => cases (show none = some r from H)
  | succ k13 =>
   rw [quorum_Best.j11_s] at H
   obtain ⟨J, hE⟩ := hE.at hA
   refine hK5 _ _ ?_
   rcases sp H with ⟨c16, H⟩ | ⟨c16, H⟩
   ·
    replace hE := hE.bt 11 c16
    refine ct hE (wp_seq_k fun K17 hK17 => pl0 (plc hE (.r 0 1 .nil) (fun a hE => ple hE (.sto hS [.int .i64 0, .int .i64 0, .int .i64 0, .int .i64 0, .int .i64 0]) ?_)))
    rintro _ u18 a ⟨rfl, hb2, hS, hz⟩ hE
    refine plc hE (.r 2 1 .nil) (fun a hE => pld (hK17 _ _ (wp_ret (then_ret ?_))))
    replace hS := hS.tail
    obtain rfl := si H
    exact retN hE rfl (of_decide_eq_true rfl) (.cell (by kernel_rfl) (res_blk [.int .i64 0, .int .i64 0, .int .i64 0, .int .i64 0, .int .i64 0] ag86 sz86 hb2 rfl) (.tmp (by kernel_rfl) .nil)) ⟨_, rfl, _, rfl, hS⟩
   ·
    replace hE := hE.bf 11 c16
    refine cf hE (wp_skip (hK4 _ _ (wp_seq_k fun K19 hK19 => pl0 (plc hE (.r 0 1 .nil) (fun a hE => ?_)))))
    obtain ⟨t21, h22, H⟩ := bd H
    refine ple hE (.cl en114 (slices_MinFunc__api_Info_api_Info_of_quorum_compare.calls k13 x0_ _ _ _ _ _ hS.own.sub g0_0 h22)) ?_
    rintro _ u20 a ⟨_, rfl, hC⟩ hE
    replace hS := hS.lent hC
    refine ple hE (.sto hS [.int .i64 t21.f0, .int .i64 t21.f1, .int .i64 t21.f2, .int .i64 t21.f3, .int .i64 t21.f4]) ?_
    rintro _ u23 a ⟨rfl, hb2, hS, hz⟩ hE
    refine plc hE (.r 3 1 .nil) (fun a hE => pld (hK19 _ _ (wp_ret ?_)))
    replace hS := hS.tail
    obtain rfl := si H
    exact retN hE rfl (of_decide_eq_true rfl) (.cell (by kernel_rfl) (res_blk [.int .i64 t21.f0, .int .i64 t21.f1, .int .i64 t21.f2, .int .i64 t21.f3, .int .i64 t21.f4] ag86 sz86 hb2 rfl) (.tmp (by kernel_rfl) .nil)) ⟨_, rfl, _, rfl, hS⟩
 refine pl0 (plc hE (.r 0 4 .nil) (fun a hE => ?_))
 rcases sp H with ⟨c6, H⟩ | ⟨c6, H⟩
 ·
  replace hE := hE.kt 7 c6
  refine plc hE (.r 4 4 .nil) (fun a hE => pld ?_)
  exact J14 _ (by omega) _ true _ _ hE .of hS H
 ·
  replace hE := hE.kf 7 c6
  refine plc hE (.r 4 1 .nil) (fun a hE => ?_)
  obtain ⟨t8, h9, H⟩ := bd H
  refine ple hE (.cl en58 (quorum_Check.calls k x0_ _ _ _ _ _ hS.own.sub g0_0 h9)) ?_
  rintro _ u7 a ⟨_, rfl, hC⟩ hE
  replace hS := hS.lent hC
  refine plc hE (.r 6 2 .nil) (fun a hE => pld ?_)
  exact J14 _ (by omega) _ (!(t8 == 0)) _ _ hE .of hS H

/-! ### windrose/quorum.Count: function 51 -/
def quorum_Count.l36 : Nat → T_api_Map → Int → T_api_Info × Bool → List T_api_Span → Int → Option (List T_api_Span)
  | 0, _, _, _, _, _ => none
  | k + 1, x0_, x1_, t14, l33, x34 => if x34 < (((nth T_api_Trail.z x0_.f6 x1_).f1).length : Int) then (if 0 ≤ x34 ∧ x34 < (((nth T_api_Trail.z x0_.f6 x1_).f1).length : Int) then (if (nth T_api_Span.z ((nth T_api_Trail.z x0_.f6 x1_).f1) x34).f0 ≥ t14.1.f1 then ((slices_Clone__int_int.f ((nth T_api_Span.z ((nth T_api_Trail.z x0_.f6 x1_).f1) x34).f1)).bind fun t60 => (if ((l33.length : Int) + ((1 : Nat) : Int)) * 32 ≤ 140737488355328 then (quorum_Count.l36 k x0_ x1_ t14 (l33 ++ [(⟨(nth T_api_Span.z ((nth T_api_Trail.z x0_.f6 x1_).f1) x34).f0, t60⟩ : T_api_Span)]) (w64 (x34 + 1))) else (none))) else (quorum_Count.l36 k x0_ x1_ t14 l33 (w64 (x34 + 1)))) else (none)) else (some l33)
theorem quorum_Count.l36_s (k : Nat) (x0_ : T_api_Map) (x1_ : Int) (t14 : T_api_Info × Bool) (l33 : List T_api_Span) (x34 : Int) : quorum_Count.l36 (k + 1) x0_ x1_ t14 l33 x34 = (if x34 < (((nth T_api_Trail.z x0_.f6 x1_).f1).length : Int) then (if 0 ≤ x34 ∧ x34 < (((nth T_api_Trail.z x0_.f6 x1_).f1).length : Int) then (if (nth T_api_Span.z ((nth T_api_Trail.z x0_.f6 x1_).f1) x34).f0 ≥ t14.1.f1 then ((slices_Clone__int_int.f ((nth T_api_Span.z ((nth T_api_Trail.z x0_.f6 x1_).f1) x34).f1)).bind fun t60 => (if ((l33.length : Int) + ((1 : Nat) : Int)) * 32 ≤ 140737488355328 then (quorum_Count.l36 k x0_ x1_ t14 (l33 ++ [(⟨(nth T_api_Span.z ((nth T_api_Trail.z x0_.f6 x1_).f1) x34).f0, t60⟩ : T_api_Span)]) (w64 (x34 + 1))) else (none))) else (quorum_Count.l36 k x0_ x1_ t14 l33 (w64 (x34 + 1)))) else (none)) else (some l33)) := by kernel_rfl
def quorum_Count.f (k : Nat) (x0_ : T_api_Map) (x1_ : Int) (x2_ : List T_api_Info) : Option (List T_api_Span) := (quorum_sound.f k x0_ x1_ x2_).bind fun t7 => (if t7 = true then ((quorum_Best.f k x2_).bind fun t14 => (if 0 ≤ x1_ ∧ x1_ < (x0_.f6.length : Int) then (quorum_Count.l36 k x0_ x1_ t14 [] 0) else (none))) else (some []))
def quorum_Count.Post (W F : World) (r : List T_api_Span) (v : Value) (w' : World) : Prop := ∃ (F' : World) (RA0_0 : Option Addr) (rc0_0 : Nat), v = .slice RA0_0 r.length rc0_0 ∧ St W (mine W []) F w' F' [row T_api_Span.k 51 (.slice RA0_0 r.length rc0_0) r]
theorem quorum_Count.calls (k : Nat) (x0_ : T_api_Map) (x1_ : Int) (x2_ : List T_api_Info) (A0_4 : Option Addr) (c0_4 : Nat) (A0_5 : Option Addr) (c0_5 : Nat) (A0_6 : Option Addr) (c0_6 : Nat) (A2_0 : Option Addr) (c2_0 : Nat) (r : List T_api_Span) (W F : World) (hown : Sub F W) (g0_4 : Rd T_api_Node.k F A0_4 c0_4 x0_.f4) (g0_5 : Rd T_api_Temp.k F A0_5 c0_5 x0_.f5) (g0_6 : Rd T_api_Trail.k F A0_6 c0_6 x0_.f6) (g2_0 : Rd T_api_Info.k F A2_0 c2_0 x2_) (H : quorum_Count.f k x0_ x1_ x2_ = some r) :
    Calls Tryz.prog 51 #[.agg #[.int .i64 x0_.f0, .int .i64 x0_.f1, .int .i64 x0_.f2, .int .i64 x0_.f3, .slice A0_4 x0_.f4.length c0_4, .slice A0_5 x0_.f5.length c0_5, .slice A0_6 x0_.f6.length c0_6], .int .i64 x1_, .slice A2_0 x2_.length c2_0] W fun e w' => ∃ v, e = .returned v ∧ quorum_Count.Post W F r v w' := by
 have hS := St.start (Own.nil hown)
 unfold quorum_Count.f at H
 refine enter (n := 48) rfl rfl rfl (Nat.le_of_ble_eq_true rfl) (fun a hE => ?_)
 refine wp_seq_k fun K1 hK1 => pl0 (ple hE (.bx (t := 26) hS [.int .i64 x0_.f0, .int .i64 x0_.f1, .int .i64 x0_.f2, .int .i64 x0_.f3, .slice A0_4 x0_.f4.length c0_4, .slice A0_5 x0_.f5.length c0_5, .slice A0_6 x0_.f6.length c0_6]) ?_)
 rintro _ u3 a ⟨b2, rfl, hb2, hS, hg⟩ hE
 refine plc hE (.r 1 1 .nil) (fun a hE => pld (hK1 _ _ (wp_seq_k fun K4 hK4 => wp_seq_k fun K5 hK5 => pl0 (plc hE (.bn 0 0 7 hb2 <| .r 1 2 <| .nil) (fun a hE => ?_)))))
 obtain ⟨t7, h8, H⟩ := bd H
 refine ple hE (.cl en103 (quorum_sound.calls k x0_ x1_ x2_ _ _ _ _ _ _ _ _ _ _ _ hS.own.sub g0_4 g0_5 g0_6 g2_0 h8)) ?_
 rintro _ u6 a ⟨_, rfl, hC⟩ hE
 replace hS := hS.lent hC
 refine plc hE (.r 4 1 .nil) (fun a hE => pld (hK5 _ _ ?_))
 rcases sp H with ⟨c9, H⟩ | ⟨c9, H⟩
 ·
  replace hE := hE.btn 16 c9
  refine cf hE (wp_skip (hK4 _ _ (wp_seq_k fun K12 hK12 => pl0 (plc hE (.r 0 1 .nil) (fun a hE => ?_)))))
  obtain ⟨t14, h15, H⟩ := bd H
  refine ple hE (.cl en57 (quorum_Best.calls k x2_ _ _ _ _ _ hS.own.sub g2_0 h15)) ?_
  rintro _ u13 a ⟨_, rfl, hC⟩ hE
  replace hS := hS.lent hC
  refine plc hE (.r 2 3 .nil) (fun a hE => ple hE (.al (t := 86) hS [.int .i64 0, .int .i64 0, .int .i64 0, .int .i64 0, .int .i64 0]) ?_)
  rintro _ u17 a ⟨b16, rfl, hb16, hS, hg⟩ hE
  refine ple hE (.sto hS [.int .i64 t14.1.f0, .int .i64 t14.1.f1, .int .i64 t14.1.f2, .int .i64 t14.1.f3, .int .i64 t14.1.f4]) ?_
  rintro _ u18 a ⟨rfl, hb16, hS, hz⟩ hE
  refine plc hE (.r 7 1 .nil) (fun a hE => pld (hK12 _ _ (wp_seq_k fun K19 hK19 => pl0 (plc hE (.r 0 1 .nil) (fun a hE => pld (hK19 _ _ (wp_seq_k fun K20 hK20 => wp_seq_k fun K21 hK21 => pl0 ?_)))))))
  have hb2 := hS.blk_at (i := 1) rfl
  obtain ⟨c22, H⟩ := gd H
  have hE_ := hE
  obtain ⟨ad23, rfl⟩ := g0_6.addr c22.1 c22.2
  replace hE := hE_
  obtain ⟨cs25, ⟨A27, c28, rfl, g29⟩, hc26⟩ := g0_6.el T_api_Trail.z x1_ c22.1 c22.2
  refine plc hE (.r 0 1 <| .b 1 6 hb2 <| .r 2 1 <| .x 3 c22 <| .r 4 1 <| .c 5 (hS.fc hc26 1) <| .r 6 2 <| .nil) (fun a hE => pld (hK21 _ _ (wp_block ?_)))
  replace hS := hS.nilrow T_api_Span.k 51
  replace hS := hS.front 2 rfl
  replace hS := hS.front 2 rfl
  refine wp_loop_ghost (fun kq37 a w' => ∃ (G : Nat → Value) (A31 : Option Addr) (c32 : Nat) (l33 : List T_api_Span) (x34 : Int) (F35 : World), kq37 ≤ k ∧ Env 48 G a ∧ At G [(7, .pointer (some ⟨b16, 0, none⟩)), (9, .slice A31 l33.length c32), (27, .slice A27 (((nth T_api_Trail.z x0_.f6 x1_).f1).length) c28), (28, .int .i64 (((nth T_api_Trail.z x0_.f6 x1_).f1).length : Int)), (29, .int .i64 x34)] ∧ St W (mine W []) F w' F35 [box b16 #[.int .i64 t14.1.f0, .int .i64 t14.1.f1, .int .i64 t14.1.f2, .int .i64 t14.1.f3, .int .i64 t14.1.f4] 86, box b2 #[.int .i64 x0_.f0, .int .i64 x0_.f1, .int .i64 x0_.f2, .int .i64 x0_.f3, .slice A0_4 x0_.f4.length c0_4, .slice A0_5 x0_.f5.length c0_5, .slice (some ad23) x0_.f6.length c0_6] 26, row T_api_Span.k 51 (.slice A31 l33.length c32) l33] ∧ Rd T_api_Span.k F35 A27 c28 ((nth T_api_Trail.z x0_.f6 x1_).f1) ∧ Rd T_api_Node.k F35 A0_4 c0_4 x0_.f4 ∧ Rd T_api_Temp.k F35 A0_5 c0_5 x0_.f5 ∧ Rd T_api_Trail.k F35 (some ad23) c0_6 x0_.f6 ∧  quorum_Count.l36 kq37 x0_ x1_ t14 l33 x34 = some r) k ⟨_, none, 0, [], 0, F, Nat.le_refl _, hE, .of, hS, g29, g0_4, g0_5, g0_6, H⟩ ?_
  rintro kq37 a u39 ⟨G, A31, c32, l33, x34, F35, hkq, hE, hA, hS, g29, g0_4, g0_5, g0_6, H⟩
  cases kq37 with
  | zero => cases (show none = some r from H)
  | succ k38 =>
   rw [quorum_Count.l36_s] at H
   obtain ⟨J, hE⟩ := hE.at hA
   refine wp_seq_k fun K40 hK40 => pl0 (plc hE (.r 0 1 .nil) (fun a hE => pld (hK40 _ _ (wp_seq_k fun K41 hK41 => ?_))))
   rcases sp H with ⟨c42, H⟩ | ⟨c42, H⟩
   ·
    replace hE := hE.kt 30 c42
    refine ct hE (wp_skip (hK41 _ _ (wp_seq_k fun K43 hK43 => wp_block (wp_seq_k fun K44 hK44 => pl0 ?_))))
    obtain ⟨c45, H⟩ := gd H
    have hE_ := hE
    obtain ⟨ad46, rfl⟩ := g29.addr c45.1 c45.2
    replace hE := hE_
    obtain ⟨cs48, ⟨A50, c51, rfl, g52⟩, hc49⟩ := g29.el T_api_Span.z x34 c45.1 c45.2
    refine plc hE (.x 0 c45 <| .cs 1 (hS.fcs hc49) <| .nil) (fun a hE => ple hE (.al (t := 51) hS [.int .i64 0, .slice none 0 0]) ?_)
    rintro _ u54 a ⟨b53, rfl, hb53, hS, hg⟩ hE
    refine ple hE (.sto hS [.int .i64 ((nth T_api_Span.z ((nth T_api_Trail.z x0_.f6 x1_).f1) x34).f0), .slice A50 (((nth T_api_Span.z ((nth T_api_Trail.z x0_.f6 x1_).f1) x34).f1).length) c51]) ?_
    rintro _ u55 a ⟨rfl, hb53, hS, hz⟩ hE
    refine pld (hK44 _ _ (wp_seq_k fun K56 hK56 => pl0 ?_))
    have hb16 := hS.blk_at (i := 1) rfl
    refine plc hE (.r 0 1 <| .b 1 0 hb53 <| .r 2 1 <| .b 3 1 hb16 <| .r 4 1 <| .nil) (fun a hE => pld (hK56 _ _ ?_))
    rcases sp H with ⟨c57, H⟩ | ⟨c57, H⟩
    ·
     replace hE := hE.kt 37 c57
     refine ct hE (wp_seq_k fun K58 hK58 => pl0 (plc hE (.r 0 1 <| .b 1 1 hb53 <| .nil) (fun a hE => ?_)))
     obtain ⟨t60, h61, H⟩ := bd H
     refine ple hE (.cl en112 (slices_Clone__int_int.calls ((nth T_api_Span.z ((nth T_api_Trail.z x0_.f6 x1_).f1) x34).f1) _ _ _ _ _ hS.own.sub g52 h61)) ?_
     rintro _ u59 a ⟨F62, A63, c64, rfl, hC⟩ hE
     have hs := hC.sub
     replace hS := hS.called (X := []) hC
     replace g29 := g29.mono hs
     replace g52 := g52.mono hs
     replace g0_4 := g0_4.mono hs
     replace g0_5 := g0_5.mono hs
     replace g0_6 := g0_6.mono hs
     refine plc hE (.r 3 1 .nil) (fun a hE => ?_)
     replace hS := hS.front 1 rfl
     refine ple hE (.sto hS [.int .i64 ((nth T_api_Span.z ((nth T_api_Trail.z x0_.f6 x1_).f1) x34).f0), .slice A63 t60.length c64]) ?_
     rintro _ u67 a ⟨rfl, hb53, hS, hz⟩ hE
     refine pld (hK58 _ _ (pl0 (plc hE (.r 0 1 <| .bn 1 0 2 hb53 <| .nil) (fun a hE => ?_))))
     replace hS := hS.front 1 rfl
     obtain ⟨F71, hs, g72, hS⟩ := hS.give
     replace g29 := g29.mono hs
     replace g52 := g52.mono hs
     replace g0_4 := g0_4.mono hs
     replace g0_5 := g0_5.mono hs
     replace g0_6 := g0_6.mono hs
     refine ple hE (.lit (d := T_api_Span.k) (e := 51) hS [(⟨(nth T_api_Span.z ((nth T_api_Trail.z x0_.f6 x1_).f1) x34).f0, t60⟩ : T_api_Span)] (.cons ⟨_, _, rfl, g72⟩ .nil)) ?_
     rintro _ u68 a ⟨A69, c70, rfl, hS, hg⟩ hE
     obtain ⟨c74, H⟩ := gd H
     replace hS := hS.front 4 rfl
     refine ple hE (.ap (d := T_api_Span.k) 32 hS (row_src (hS.row_at (i := 1) rfl)) c74 c70) ?_
     rintro _ u77 a ⟨A75, c76, rfl, hS, hz⟩ hE
     refine plc hE (.r 4 1 .nil) (fun a hE => pld ?_)
     refine block_n ?_
     refine hK43 _ _ (pl0 (plc hE (.r 0 2 .nil) (fun a hE => pld ?_)))
     replace hS := hS.front 1 rfl
     replace hS := hS.tail
     replace hS := hS.front 1 rfl
     replace hS := hS.tail
     replace hS := hS.front 2 rfl
     replace hS := hS.front 2 rfl
     exact then_n ⟨k38, by omega, _, A75, c76, (l33 ++ [(⟨(nth T_api_Span.z ((nth T_api_Trail.z x0_.f6 x1_).f1) x34).f0, t60⟩ : T_api_Span)]), (w64 (x34 + 1)), F71, by omega, hE, .of, hS, g29, g0_4, g0_5, g0_6, H⟩
    ·
     replace hE := hE.kf 37 c57
     refine cf hE (wp_skip ?_)
     refine block_n ?_
     refine hK43 _ _ (pl0 (plc hE (.r 0 2 .nil) (fun a hE => pld ?_)))
     replace hS := hS.tail
     exact then_n ⟨k38, by omega, _, A31, c32, l33, (w64 (x34 + 1)), F35, by omega, hE, .of, hS, g29, g0_4, g0_5, g0_6, H⟩
   ·
    replace hE := hE.kf 30 c42
    refine cf hE ?_
    refine wp_exit ?_
    refine hK20 _ _ (wp_seq_k fun K79 hK79 => pl0 (plc hE (.r 0 2 .nil) (fun a hE => pld (hK79 _ _ (wp_ret ?_)))))
    replace hS := hS.tail
    replace hS := hS.tail
    obtain rfl := si H
    exact rt1 hE ⟨_, rfl, _, _, _, rfl, hS⟩
 ·
  replace hE := hE.bfn 16 c9
  refine ct hE (wp_seq_k fun K10 hK10 => pl0 (plc hE (.r 0 1 .nil) (fun a hE => pld (hK10 _ _ (wp_ret (then_ret ?_))))))
  replace hS := hS.nilrow T_api_Span.k 51
  replace hS := hS.front 1 rfl
  replace hS := hS.tail
  obtain rfl := si H
  exact rt1 hE ⟨_, rfl, _, _, _, rfl, hS⟩

/-! ### slices.IndexFunc[[]int,int]: function 157 -/
def slices_IndexFunc__int_int_of_quorum_Decide_1.l5 : Nat → List Int → List T_api_Info → Int → Option Int
  | 0, _, _, _ => none
  | k + 1, x0_, x1c0_, x4 => if x4 < (x0_.length : Int) then (if 0 ≤ x4 ∧ x4 < (x0_.length : Int) then ((quorum_Decide_1.f k (nth 0 x0_ x4) x1c0_).bind fun t21 => (if t21 = true then (some x4) else (slices_IndexFunc__int_int_of_quorum_Decide_1.l5 k x0_ x1c0_ (w64 (x4 + 1))))) else (none)) else (some (-1))
theorem slices_IndexFunc__int_int_of_quorum_Decide_1.l5_s (k : Nat) (x0_ : List Int) (x1c0_ : List T_api_Info) (x4 : Int) : slices_IndexFunc__int_int_of_quorum_Decide_1.l5 (k + 1) x0_ x1c0_ x4 = (if x4 < (x0_.length : Int) then (if 0 ≤ x4 ∧ x4 < (x0_.length : Int) then ((quorum_Decide_1.f k (nth 0 x0_ x4) x1c0_).bind fun t21 => (if t21 = true then (some x4) else (slices_IndexFunc__int_int_of_quorum_Decide_1.l5 k x0_ x1c0_ (w64 (x4 + 1))))) else (none)) else (some (-1))) := by kernel_rfl
def slices_IndexFunc__int_int_of_quorum_Decide_1.f (k : Nat) (x0_ : List Int) (x1c0_ : List T_api_Info) : Option Int := slices_IndexFunc__int_int_of_quorum_Decide_1.l5 k x0_ x1c0_ 0
def slices_IndexFunc__int_int_of_quorum_Decide_1.Post (W F : World) (r : Int) (v : Value) (w' : World) : Prop := ∃ (F' : World), v = .int .i64 r ∧ St W (mine W []) F w' F' []
theorem slices_IndexFunc__int_int_of_quorum_Decide_1.calls (k : Nat) (x0_ : List Int) (x1c0_ : List T_api_Info) (A0_0 : Option Addr) (c0_0 : Nat) (p1c0_ : Nat) (A1c0_0 : Option Addr) (c1c0_0 : Nat) (r : Int) (W F : World) (hown : Sub F W) (g0_0 : Rd (Kn.int .i64) F A0_0 c0_0 x0_) (g1c0_0 : Rd T_api_Info.k F A1c0_0 c1c0_0 x1c0_) (hp1c0_ : F.heap[p1c0_]? = some (.cells #[.slice A1c0_0 x1c0_.length c1c0_0] 72 (0, 0))) (H : slices_IndexFunc__int_int_of_quorum_Decide_1.f k x0_ x1c0_ = some r) :
    Calls Tryz.prog 157 #[.slice A0_0 x0_.length c0_0, .func (.func 104) #[] #[.pointer (some ⟨p1c0_, 0, none⟩)]] W fun e w' => ∃ v, e = .returned v ∧ slices_IndexFunc__int_int_of_quorum_Decide_1.Post W F r v w' := by
 have hS := St.start (Own.nil hown)
 unfold slices_IndexFunc__int_int_of_quorum_Decide_1.f at H
 refine enter (n := 19) rfl rfl rfl (Nat.le_of_ble_eq_true rfl) (fun a hE => ?_)
 refine wp_seq_k fun K1 hK1 => pl0 (plc hE (.r 0 1 .nil) (fun a hE => pld (hK1 _ _ (wp_seq_k fun K2 hK2 => wp_seq_k fun K3 hK3 => pl0 (plc hE (.r 0 3 .nil) (fun a hE => pld (hK3 _ _ (wp_block ?_))))))))
 refine wp_loop_ghost (fun kq6 a w' => ∃ (G : Nat → Value) (x4 : Int), kq6 ≤ k ∧ Env 19 G a ∧ At G [(0, .slice A0_0 x0_.length c0_0), (1, .func (.func 104) #[] #[.pointer (some ⟨p1c0_, 0, none⟩)]), (7, .int .i64 (x0_.length : Int)), (8, .int .i64 x4)] ∧ St W (mine W []) F w' F [] ∧  slices_IndexFunc__int_int_of_quorum_Decide_1.l5 kq6 x0_ x1c0_ x4 = some r) k ⟨_, 0, Nat.le_refl _, hE, .of, hS, H⟩ ?_
 rintro kq6 a u8 ⟨G, x4, hkq, hE, hA, hS, H⟩
 cases kq6 with
 | zero => cases (show none = some r from H)
 | succ k7 =>
  rw [slices_IndexFunc__int_int_of_quorum_Decide_1.l5_s] at H
  obtain ⟨J, hE⟩ := hE.at hA
  refine wp_seq_k fun K9 hK9 => pl0 (plc hE (.r 0 1 .nil) (fun a hE => pld (hK9 _ _ (wp_seq_k fun K10 hK10 => ?_))))
  rcases sp H with ⟨c11, H⟩ | ⟨c11, H⟩
  ·
   replace hE := hE.kt 9 c11
   refine ct hE (wp_skip (hK10 _ _ (wp_seq_k fun K12 hK12 => wp_block (wp_seq_k fun K13 hK13 => pl0 (plc hE (.r 0 2 .nil) (fun a hE => pld (hK13 _ _ (wp_seq_k fun K14 hK14 => pl0 ?_))))))))
   obtain ⟨c15, H⟩ := gd H
   have hE_ := hE
   obtain ⟨ad16, rfl⟩ := g0_0.addr c15.1 c15.2
   replace hE := hE_
   obtain ⟨cs18, rfl, hc19⟩ := g0_0.el 0 x4 c15.1 c15.2
   refine plc hE (.r 0 3 <| .x 3 c15 <| .c 4 (hS.fc hc19 0) <| .nil) (fun a hE => ?_)
   obtain ⟨t21, h22, H⟩ := bd H
   refine ple hE (.cl en104 (quorum_Decide_1.calls k7 (nth 0 x0_ x4) x1c0_ _ _ _ _ _ _ hS.own.sub g1c0_0 hp1c0_ h22)) ?_
   rintro _ u20 a ⟨_, rfl, hC⟩ hE
   replace hS := hS.lent hC
   refine pld (hK14 _ _ ?_)
   rcases sp H with ⟨c23, H⟩ | ⟨c23, H⟩
   ·
    replace hE := hE.bt 16 c23
    refine ct hE (wp_seq_k fun K24 hK24 => pl0 (plc hE (.r 0 2 .nil) (fun a hE => pld (hK24 _ _ (wp_ret (block_ret (then_ret (then_ret (block_ret (then_ret ?_))))))))))
    obtain rfl := si H
    exact rt1 hE ⟨_, rfl, _, rfl, hS⟩
   ·
    replace hE := hE.bf 16 c23
    refine cf hE (wp_skip ?_)
    refine block_n ?_
    refine hK12 _ _ (pl0 (plc hE (.r 0 2 .nil) (fun a hE => pld ?_)))
    exact then_n ⟨k7, by omega, _, (w64 (x4 + 1)), by omega, hE, .of, hS, H⟩
  ·
   replace hE := hE.kf 9 c11
   refine cf hE ?_
   refine wp_exit ?_
   refine hK2 _ _ (wp_seq_k fun K25 hK25 => pl0 (plc hE (.r 0 1 .nil) (fun a hE => pld (hK25 _ _ (wp_ret ?_)))))
   obtain rfl := si H
   exact rt1 hE ⟨_, rfl, _, rfl, hS⟩

/-! ### slices.ContainsFunc[[]int,int]: function 107 -/
def slices_ContainsFunc__int_int_of_quorum_Decide_1.f (k : Nat) (x0_ : List Int) (x1c0_ : List T_api_Info) : Option Bool := (slices_IndexFunc__int_int_of_quorum_Decide_1.f k x0_ x1c0_).bind fun t4 => (some (decide (t4 ≥ 0)))
def slices_ContainsFunc__int_int_of_quorum_Decide_1.Post (W F : World) (r : Bool) (v : Value) (w' : World) : Prop := ∃ (F' : World), v = .bool r ∧ St W (mine W []) F w' F' []
theorem slices_ContainsFunc__int_int_of_quorum_Decide_1.calls (k : Nat) (x0_ : List Int) (x1c0_ : List T_api_Info) (A0_0 : Option Addr) (c0_0 : Nat) (p1c0_ : Nat) (A1c0_0 : Option Addr) (c1c0_0 : Nat) (r : Bool) (W F : World) (hown : Sub F W) (g0_0 : Rd (Kn.int .i64) F A0_0 c0_0 x0_) (g1c0_0 : Rd T_api_Info.k F A1c0_0 c1c0_0 x1c0_) (hp1c0_ : F.heap[p1c0_]? = some (.cells #[.slice A1c0_0 x1c0_.length c1c0_0] 72 (0, 0))) (H : slices_ContainsFunc__int_int_of_quorum_Decide_1.f k x0_ x1c0_ = some r) :
    Calls Tryz.prog 107 #[.slice A0_0 x0_.length c0_0, .func (.func 104) #[] #[.pointer (some ⟨p1c0_, 0, none⟩)]] W fun e w' => ∃ v, e = .returned v ∧ slices_ContainsFunc__int_int_of_quorum_Decide_1.Post W F r v w' := by
 have hS := St.start (Own.nil hown)
 unfold slices_ContainsFunc__int_int_of_quorum_Decide_1.f at H
 refine enter (n := 9) rfl rfl rfl (Nat.le_of_ble_eq_true rfl) (fun a hE => ?_)
 refine wp_seq_k fun K1 hK1 => pl0 (plc hE (.r 0 1 .nil) (fun a hE => pld (hK1 _ _ (wp_seq_k fun K2 hK2 => pl0 (plc hE (.r 0 2 .nil) (fun a hE => ?_))))))
 obtain ⟨t4, h5, H⟩ := bd H
 refine ple hE (.cl en157 (slices_IndexFunc__int_int_of_quorum_Decide_1.calls k x0_ x1c0_ _ _ _ _ _ _ _ _ hS.own.sub g0_0 g1c0_0 hp1c0_ h5)) ?_
 rintro _ u3 a ⟨_, rfl, hC⟩ hE
 replace hS := hS.lent hC
 refine plc hE (.r 3 2 .nil) (fun a hE => pld (hK2 _ _ (wp_ret ?_)))
 obtain rfl := si H
 exact rt1 hE ⟨_, rfl, _, rfl, hS⟩

/-! ### windrose/quorum.up: function 109 -/
def quorum_up.f (k : Nat) (x0_ : T_api_Map) (x1_ : Int) : Option Bool := (topo_Find.f k x0_.f4 x1_).bind fun t6 => (if t6.2 = true then (some t6.1.f4) else (some false))
def quorum_up.Post (W F : World) (r : Bool) (v : Value) (w' : World) : Prop := ∃ (F' : World), v = .bool r ∧ St W (mine W []) F w' F' []
theorem quorum_up.calls (k : Nat) (x0_ : T_api_Map) (x1_ : Int) (A0_4 : Option Addr) (c0_4 : Nat) (A0_5 : Option Addr) (c0_5 : Nat) (A0_6 : Option Addr) (c0_6 : Nat) (r : Bool) (W F : World) (hown : Sub F W) (g0_4 : Rd T_api_Node.k F A0_4 c0_4 x0_.f4) (g0_5 : Rd T_api_Temp.k F A0_5 c0_5 x0_.f5) (g0_6 : Rd T_api_Trail.k F A0_6 c0_6 x0_.f6) (H : quorum_up.f k x0_ x1_ = some r) :
    Calls Tryz.prog 109 #[.agg #[.int .i64 x0_.f0, .int .i64 x0_.f1, .int .i64 x0_.f2, .int .i64 x0_.f3, .slice A0_4 x0_.f4.length c0_4, .slice A0_5 x0_.f5.length c0_5, .slice A0_6 x0_.f6.length c0_6], .int .i64 x1_] W fun e w' => ∃ v, e = .returned v ∧ quorum_up.Post W F r v w' := by
 have hS := St.start (Own.nil hown)
 unfold quorum_up.f at H
 refine enter (n := 19) rfl rfl rfl (Nat.le_of_ble_eq_true rfl) (fun a hE => ?_)
 refine wp_seq_k fun K1 hK1 => pl0 (ple hE (.bx (t := 26) hS [.int .i64 x0_.f0, .int .i64 x0_.f1, .int .i64 x0_.f2, .int .i64 x0_.f3, .slice A0_4 x0_.f4.length c0_4, .slice A0_5 x0_.f5.length c0_5, .slice A0_6 x0_.f6.length c0_6]) ?_)
 rintro _ u3 a ⟨b2, rfl, hb2, hS, hg⟩ hE
 refine plc hE (.r 1 1 .nil) (fun a hE => pld (hK1 _ _ (wp_seq_k fun K4 hK4 => pl0 (plc hE (.r 0 1 <| .b 1 4 hb2 <| .r 2 1 <| .nil) (fun a hE => ?_)))))
 obtain ⟨t6, h7, H⟩ := bd H
 refine ple hE (.cl en127 (topo_Find.calls k x0_.f4 x1_ _ _ _ _ _ hS.own.sub g0_4 h7)) ?_
 rintro _ u5 a ⟨_, rfl, hC⟩ hE
 replace hS := hS.lent hC
 refine plc hE (.r 4 3 .nil) (fun a hE => ple hE (.al (t := 104) hS [.int .i64 0, .int .i64 0, .int .i64 0, .int .i64 0, .bool false, .bool false]) ?_)
 rintro _ u9 a ⟨b8, rfl, hb8, hS, hg⟩ hE
 refine ple hE (.sto hS [.int .i64 t6.1.f0, .int .i64 t6.1.f1, .int .i64 t6.1.f2, .int .i64 t6.1.f3, .bool t6.1.f4, .bool t6.1.f5]) ?_
 rintro _ u10 a ⟨rfl, hb8, hS, hz⟩ hE
 refine plc hE (.r 9 1 .nil) (fun a hE => pld (hK4 _ _ (wp_seq_k fun K11 hK11 => pl0 (plc hE (.r 0 2 .nil) (fun a hE => ?_)))))
 rcases sp H with ⟨c12, H⟩ | ⟨c12, H⟩
 ·
  replace hE := hE.bt 15 c12
  refine plc hE (.r 2 1 <| .b 3 4 hb8 <| .r 4 2 <| .nil) (fun a hE => pld (hK11 _ _ (wp_ret ?_)))
  replace hS := hS.tail
  replace hS := hS.tail
  obtain rfl := si H
  exact rt1 hE ⟨_, rfl, _, rfl, hS⟩
 ·
  replace hE := hE.bf 15 c12
  refine plc hE (.r 2 4 .nil) (fun a hE => pld (hK11 _ _ (wp_ret ?_)))
  replace hS := hS.tail
  replace hS := hS.tail
  obtain rfl := si H
  exact rt1 hE ⟨_, rfl, _, rfl, hS⟩

/-! ### windrose/quorum.Decide$3: function 108 -/
def quorum_Decide_3.f (k : Nat) (x0_ : Int) (xf0_ : T_api_Map) : Option Bool := (quorum_up.f k xf0_ x0_).bind fun t4 => (some t4)
def quorum_Decide_3.Post (W F : World) (r : Bool) (v : Value) (w' : World) : Prop := ∃ (F' : World), v = .bool r ∧ St W (mine W []) F w' F' []
theorem quorum_Decide_3.calls (k : Nat) (x0_ : Int) (xf0_ : T_api_Map) (pf0_ : Nat) (Af0_4 : Option Addr) (cf0_4 : Nat) (Af0_5 : Option Addr) (cf0_5 : Nat) (Af0_6 : Option Addr) (cf0_6 : Nat) (r : Bool) (W F : World) (hown : Sub F W) (gf0_4 : Rd T_api_Node.k F Af0_4 cf0_4 xf0_.f4) (gf0_5 : Rd T_api_Temp.k F Af0_5 cf0_5 xf0_.f5) (gf0_6 : Rd T_api_Trail.k F Af0_6 cf0_6 xf0_.f6) (hpf0_ : F.heap[pf0_]? = some (.cells #[.int .i64 xf0_.f0, .int .i64 xf0_.f1, .int .i64 xf0_.f2, .int .i64 xf0_.f3, .slice Af0_4 xf0_.f4.length cf0_4, .slice Af0_5 xf0_.f5.length cf0_5, .slice Af0_6 xf0_.f6.length cf0_6] 26 (0, 0))) (H : quorum_Decide_3.f k x0_ xf0_ = some r) :
    Calls Tryz.prog 108 #[.int .i64 x0_, .pointer (some ⟨pf0_, 0, none⟩)] W fun e w' => ∃ v, e = .returned v ∧ quorum_Decide_3.Post W F r v w' := by
 have hS := St.start (Own.nil hown)
 unfold quorum_Decide_3.f at H
 refine enter (n := 7) rfl rfl rfl (Nat.le_of_ble_eq_true rfl) (fun a hE => ?_)
 refine wp_seq_k fun K1 hK1 => pl0 (plc hE (.r 0 1 .nil) (fun a hE => pld (hK1 _ _ (wp_seq_k fun K2 hK2 => pl0 (plc hE (.bn 0 0 7 (hS.own.sub _ _ _ _ hpf0_) <| .r 1 1 <| .nil) (fun a hE => ?_))))))
 obtain ⟨t4, h5, H⟩ := bd H
 refine ple hE (.cl en109 (quorum_up.calls k xf0_ x0_ _ _ _ _ _ _ _ _ _ hS.own.sub gf0_4 gf0_5 gf0_6 h5)) ?_
 rintro _ u3 a ⟨_, rfl, hC⟩ hE
 replace hS := hS.lent hC
 refine plc hE (.r 3 1 .nil) (fun a hE => pld (hK2 _ _ (wp_ret ?_)))
 obtain rfl := si H
 exact rt1 hE ⟨_, rfl, _, rfl, hS⟩

/-! ### slices.IndexFunc[[]int,int]: function 157 -/
def slices_IndexFunc__int_int_of_quorum_Decide_3.l5 : Nat → List Int → T_api_Map → Int → Option Int
  | 0, _, _, _ => none
  | k + 1, x0_, x1c0_, x4 => if x4 < (x0_.length : Int) then (if 0 ≤ x4 ∧ x4 < (x0_.length : Int) then ((quorum_Decide_3.f k (nth 0 x0_ x4) x1c0_).bind fun t21 => (if t21 = true then (some x4) else (slices_IndexFunc__int_int_of_quorum_Decide_3.l5 k x0_ x1c0_ (w64 (x4 + 1))))) else (none)) else (some (-1))
theorem slices_IndexFunc__int_int_of_quorum_Decide_3.l5_s (k : Nat) (x0_ : List Int) (x1c0_ : T_api_Map) (x4 : Int) : slices_IndexFunc__int_int_of_quorum_Decide_3.l5 (k + 1) x0_ x1c0_ x4 = (if x4 < (x0_.length : Int) then (if 0 ≤ x4 ∧ x4 < (x0_.length : Int) then ((quorum_Decide_3.f k (nth 0 x0_ x4) x1c0_).bind fun t21 => (if t21 = true then (some x4) else (slices_IndexFunc__int_int_of_quorum_Decide_3.l5 k x0_ x1c0_ (w64 (x4 + 1))))) else (none)) else (some (-1))) := by kernel_rfl
def slices_IndexFunc__int_int_of_quorum_Decide_3.f (k : Nat) (x0_ : List Int) (x1c0_ : T_api_Map) : Option Int := slices_IndexFunc__int_int_of_quorum_Decide_3.l5 k x0_ x1c0_ 0
def slices_IndexFunc__int_int_of_quorum_Decide_3.Post (W F : World) (r : Int) (v : Value) (w' : World) : Prop := ∃ (F' : World), v = .int .i64 r ∧ St W (mine W []) F w' F' []
theorem slices_IndexFunc__int_int_of_quorum_Decide_3.calls (k : Nat) (x0_ : List Int) (x1c0_ : T_api_Map) (A0_0 : Option Addr) (c0_0 : Nat) (p1c0_ : Nat) (A1c0_4 : Option Addr) (c1c0_4 : Nat) (A1c0_5 : Option Addr) (c1c0_5 : Nat) (A1c0_6 : Option Addr) (c1c0_6 : Nat) (r : Int) (W F : World) (hown : Sub F W) (g0_0 : Rd (Kn.int .i64) F A0_0 c0_0 x0_) (g1c0_4 : Rd T_api_Node.k F A1c0_4 c1c0_4 x1c0_.f4) (g1c0_5 : Rd T_api_Temp.k F A1c0_5 c1c0_5 x1c0_.f5) (g1c0_6 : Rd T_api_Trail.k F A1c0_6 c1c0_6 x1c0_.f6) (hp1c0_ : F.heap[p1c0_]? = some (.cells #[.int .i64 x1c0_.f0, .int .i64 x1c0_.f1, .int .i64 x1c0_.f2, .int .i64 x1c0_.f3, .slice A1c0_4 x1c0_.f4.length c1c0_4, .slice A1c0_5 x1c0_.f5.length c1c0_5, .slice A1c0_6 x1c0_.f6.length c1c0_6] 26 (0, 0))) (H : slices_IndexFunc__int_int_of_quorum_Decide_3.f k x0_ x1c0_ = some r) :
    Calls Tryz.prog 157 #[.slice A0_0 x0_.length c0_0, .func (.func 108) #[] #[.pointer (some ⟨p1c0_, 0, none⟩)]] W fun e w' => ∃ v, e = .returned v ∧ slices_IndexFunc__int_int_of_quorum_Decide_3.Post W F r v w' := by
 have hS := St.start (Own.nil hown)
 unfold slices_IndexFunc__int_int_of_quorum_Decide_3.f at H
 refine enter (n := 19) rfl rfl rfl (Nat.le_of_ble_eq_true rfl) (fun a hE => ?_)
 refine wp_seq_k fun K1 hK1 => pl0 (plc hE (.r 0 1 .nil) (fun a hE => pld (hK1 _ _ (wp_seq_k fun K2 hK2 => wp_seq_k fun K3 hK3 => pl0 (plc hE (.r 0 3 .nil) (fun a hE => pld (hK3 _ _ (wp_block ?_))))))))
 refine wp_loop_ghost (fun kq6 a w' => ∃ (G : Nat → Value) (x4 : Int), kq6 ≤ k ∧ Env 19 G a ∧ At G [(0, .slice A0_0 x0_.length c0_0), (1, .func (.func 108) #[] #[.pointer (some ⟨p1c0_, 0, none⟩)]), (7, .int .i64 (x0_.length : Int)), (8, .int .i64 x4)] ∧ St W (mine W []) F w' F [] ∧  slices_IndexFunc__int_int_of_quorum_Decide_3.l5 kq6 x0_ x1c0_ x4 = some r) k ⟨_, 0, Nat.le_refl _, hE, .of, hS, H⟩ ?_
 rintro kq6 a u8 ⟨G, x4, hkq, hE, hA, hS, H⟩
 cases kq6 with
 | zero => cases (show none = some r from H)
 | succ k7 =>
  rw [slices_IndexFunc__int_int_of_quorum_Decide_3.l5_s] at H
  obtain ⟨J, hE⟩ := hE.at hA
  refine wp_seq_k fun K9 hK9 => pl0 (plc hE (.r 0 1 .nil) (fun a hE => pld (hK9 _ _ (wp_seq_k fun K10 hK10 => ?_))))
  rcases sp H with ⟨c11, H⟩ | ⟨c11, H⟩
  ·
   replace hE := hE.kt 9 c11
   refine ct hE (wp_skip (hK10 _ _ (wp_seq_k fun K12 hK12 => wp_block (wp_seq_k fun K13 hK13 => pl0 (plc hE (.r 0 2 .nil) (fun a hE => pld (hK13 _ _ (wp_seq_k fun K14 hK14 => pl0 ?_))))))))
   obtain ⟨c15, H⟩ := gd H
   have hE_ := hE
   obtain ⟨ad16, rfl⟩ := g0_0.addr c15.1 c15.2
   replace hE := hE_
   obtain ⟨cs18, rfl, hc19⟩ := g0_0.el 0 x4 c15.1 c15.2
   refine plc hE (.r 0 3 <| .x 3 c15 <| .c 4 (hS.fc hc19 0) <| .nil) (fun a hE => ?_)
   obtain ⟨t21, h22, H⟩ := bd H
   refine ple hE (.cl en108 (quorum_Decide_3.calls k7 (nth 0 x0_ x4) x1c0_ _ _ _ _ _ _ _ _ _ _ hS.own.sub g1c0_4 g1c0_5 g1c0_6 hp1c0_ h22)) ?_
   rintro _ u20 a ⟨_, rfl, hC⟩ hE
   replace hS := hS.lent hC
   refine pld (hK14 _ _ ?_)
   rcases sp H with ⟨c23, H⟩ | ⟨c23, H⟩
   ·
    replace hE := hE.bt 16 c23
    refine ct hE (wp_seq_k fun K24 hK24 => pl0 (plc hE (.r 0 2 .nil) (fun a hE => pld (hK24 _ _ (wp_ret (block_ret (then_ret (then_ret (block_ret (then_ret ?_))))))))))
    obtain rfl := si H
    exact rt1 hE ⟨_, rfl, _, rfl, hS⟩
   ·
    replace hE := hE.bf 16 c23
    refine cf hE (wp_skip ?_)
    refine block_n ?_
    refine hK12 _ _ (pl0 (plc hE (.r 0 2 .nil) (fun a hE => pld ?_)))
    exact then_n ⟨k7, by omega, _, (w64 (x4 + 1)), by omega, hE, .of, hS, H⟩
  ·
   replace hE := hE.kf 9 c11
   refine cf hE ?_
   refine wp_exit ?_
   refine hK2 _ _ (wp_seq_k fun K25 hK25 => pl0 (plc hE (.r 0 1 .nil) (fun a hE => pld (hK25 _ _ (wp_ret ?_)))))
   obtain rfl := si H
   exact rt1 hE ⟨_, rfl, _, rfl, hS⟩

/-! ### slices.ContainsFunc[[]int,int]: function 107 -/
def slices_ContainsFunc__int_int_of_quorum_Decide_3.f (k : Nat) (x0_ : List Int) (x1c0_ : T_api_Map) : Option Bool := (slices_IndexFunc__int_int_of_quorum_Decide_3.f k x0_ x1c0_).bind fun t4 => (some (decide (t4 ≥ 0)))
def slices_ContainsFunc__int_int_of_quorum_Decide_3.Post (W F : World) (r : Bool) (v : Value) (w' : World) : Prop := ∃ (F' : World), v = .bool r ∧ St W (mine W []) F w' F' []
theorem slices_ContainsFunc__int_int_of_quorum_Decide_3.calls (k : Nat) (x0_ : List Int) (x1c0_ : T_api_Map) (A0_0 : Option Addr) (c0_0 : Nat) (p1c0_ : Nat) (A1c0_4 : Option Addr) (c1c0_4 : Nat) (A1c0_5 : Option Addr) (c1c0_5 : Nat) (A1c0_6 : Option Addr) (c1c0_6 : Nat) (r : Bool) (W F : World) (hown : Sub F W) (g0_0 : Rd (Kn.int .i64) F A0_0 c0_0 x0_) (g1c0_4 : Rd T_api_Node.k F A1c0_4 c1c0_4 x1c0_.f4) (g1c0_5 : Rd T_api_Temp.k F A1c0_5 c1c0_5 x1c0_.f5) (g1c0_6 : Rd T_api_Trail.k F A1c0_6 c1c0_6 x1c0_.f6) (hp1c0_ : F.heap[p1c0_]? = some (.cells #[.int .i64 x1c0_.f0, .int .i64 x1c0_.f1, .int .i64 x1c0_.f2, .int .i64 x1c0_.f3, .slice A1c0_4 x1c0_.f4.length c1c0_4, .slice A1c0_5 x1c0_.f5.length c1c0_5, .slice A1c0_6 x1c0_.f6.length c1c0_6] 26 (0, 0))) (H : slices_ContainsFunc__int_int_of_quorum_Decide_3.f k x0_ x1c0_ = some r) :
    Calls Tryz.prog 107 #[.slice A0_0 x0_.length c0_0, .func (.func 108) #[] #[.pointer (some ⟨p1c0_, 0, none⟩)]] W fun e w' => ∃ v, e = .returned v ∧ slices_ContainsFunc__int_int_of_quorum_Decide_3.Post W F r v w' := by
 have hS := St.start (Own.nil hown)
 unfold slices_ContainsFunc__int_int_of_quorum_Decide_3.f at H
 refine enter (n := 9) rfl rfl rfl (Nat.le_of_ble_eq_true rfl) (fun a hE => ?_)
 refine wp_seq_k fun K1 hK1 => pl0 (plc hE (.r 0 1 .nil) (fun a hE => pld (hK1 _ _ (wp_seq_k fun K2 hK2 => pl0 (plc hE (.r 0 2 .nil) (fun a hE => ?_))))))
 obtain ⟨t4, h5, H⟩ := bd H
 refine ple hE (.cl en157 (slices_IndexFunc__int_int_of_quorum_Decide_3.calls k x0_ x1c0_ _ _ _ _ _ _ _ _ _ _ _ _ hS.own.sub g0_0 g1c0_4 g1c0_5 g1c0_6 hp1c0_ h5)) ?_
 rintro _ u3 a ⟨_, rfl, hC⟩ hE
 replace hS := hS.lent hC
 refine plc hE (.r 3 2 .nil) (fun a hE => pld (hK2 _ _ (wp_ret ?_)))
 obtain rfl := si H
 exact rt1 hE ⟨_, rfl, _, rfl, hS⟩

/-! ### slices.Sort[[]int,int]: function 110, by the shelf's contract -/
def slices_Sort__int_int.f (x0_ : List Int) : Option (List Int) := sortI x0_
def slices_Sort__int_int.Post (x0_ : List Int) (A0_0 : Option Addr) (c0_0 : Nat) (W F : World) (r : List Int) (v : Value) (w' : World) : Prop := ∃ (F' : World), v = .tuple #[] ∧ St W (mine W [row (Kn.int .i64) 3 (.slice A0_0 x0_.length c0_0) x0_]) F w' F' [row (Kn.int .i64) 3 (.slice A0_0 x0_.length c0_0) r]
theorem slices_Sort__int_int.calls (x0_ : List Int) (A0_0 : Option Addr) (c0_0 : Nat) (r : List Int) (W F : World) (hown : Own W F [row (Kn.int .i64) 3 (.slice A0_0 x0_.length c0_0) x0_]) (H : slices_Sort__int_int.f x0_ = some r) :
    Calls Tryz.prog 110 #[.slice A0_0 x0_.length c0_0] W fun e w' => ∃ v, e = .returned v ∧ slices_Sort__int_int.Post x0_ A0_0 c0_0 W F r v w' := sorti_calls Tryz.sortI hown H

/-! ### slices.Compact[[]int,int]: function 111 -/
def slices_Compact__int_int.l9 : Nat → List Int → Int → Option (List Int)
  | 0, _, _ => none
  | k + 1, x0_, x8 => if x8 < (x0_.length : Int) then (if 0 ≤ x8 ∧ x8 < (x0_.length : Int) then (if 0 ≤ (w64 (x8 - 1)) ∧ (w64 (x8 - 1)) < (x0_.length : Int) then (if (nth 0 x0_ x8) = (nth 0 x0_ (w64 (x8 - 1))) then (none) else (slices_Compact__int_int.l9 k x0_ (w64 (x8 + 1)))) else (none)) else (none)) else (some x0_)
theorem slices_Compact__int_int.l9_s (k : Nat) (x0_ : List Int) (x8 : Int) : slices_Compact__int_int.l9 (k + 1) x0_ x8 = (if x8 < (x0_.length : Int) then (if 0 ≤ x8 ∧ x8 < (x0_.length : Int) then (if 0 ≤ (w64 (x8 - 1)) ∧ (w64 (x8 - 1)) < (x0_.length : Int) then (if (nth 0 x0_ x8) = (nth 0 x0_ (w64 (x8 - 1))) then (none) else (slices_Compact__int_int.l9 k x0_ (w64 (x8 + 1)))) else (none)) else (none)) else (some x0_)) := by kernel_rfl
def slices_Compact__int_int.f (k : Nat) (x0_ : List Int) : Option (List Int) := if (x0_.length : Int) < 2 then (some x0_) else (slices_Compact__int_int.l9 k x0_ 1)
def slices_Compact__int_int.Post (x0_ : List Int) (A0_0 : Option Addr) (c0_0 : Nat) (W F : World) (r : List Int) (v : Value) (w' : World) : Prop := ∃ (F' : World) (RA0_0 : Option Addr) (rc0_0 : Nat), v = .slice RA0_0 r.length rc0_0 ∧ St W (mine W [row (Kn.int .i64) 3 (.slice A0_0 x0_.length c0_0) x0_]) F w' F' [row (Kn.int .i64) 3 (.slice RA0_0 r.length rc0_0) r]
theorem slices_Compact__int_int.calls (k : Nat) (x0_ : List Int) (A0_0 : Option Addr) (c0_0 : Nat) (r : List Int) (W F : World) (hown : Own W F [row (Kn.int .i64) 3 (.slice A0_0 x0_.length c0_0) x0_]) (H : slices_Compact__int_int.f k x0_ = some r) :
    Calls Tryz.prog 111 #[.slice A0_0 x0_.length c0_0] W fun e w' => ∃ v, e = .returned v ∧ slices_Compact__int_int.Post x0_ A0_0 c0_0 W F r v w' := by
 have hS := St.start hown
 obtain ⟨N, hN⟩ : ∃ N, N = mine W [row (Kn.int .i64) 3 (.slice A0_0 x0_.length c0_0) x0_] := ⟨_, rfl⟩
 rw [← hN] at hS
 unfold slices_Compact__int_int.f at H
 refine enter (n := 61) rfl rfl rfl (Nat.le_of_ble_eq_true rfl) (fun a hE => ?_)
 refine wp_seq_k fun K1 hK1 => pl0 (plc hE (.r 0 1 .nil) (fun a hE => pld (hK1 _ _ (wp_seq_k fun K2 hK2 => wp_seq_k fun K3 hK3 => pl0 (plc hE (.r 0 3 .nil) (fun a hE => pld (hK3 _ _ ?_)))))))
 rcases sp H with ⟨c4, H⟩ | ⟨c4, H⟩
 ·
  replace hE := hE.kt 8 c4
  refine ct hE (wp_seq_k fun K5 hK5 => pl0 (plc hE (.r 0 2 .nil) (fun a hE => pld (hK5 _ _ (wp_ret (then_ret ?_))))))
  rw [hN] at hS
  obtain rfl := si H
  exact rt1 hE ⟨_, rfl, _, _, _, rfl, hS⟩
 ·
  replace hE := hE.kf 8 c4
  refine cf hE (wp_skip (hK2 _ _ (wp_seq_k fun K6 hK6 => wp_seq_k fun K7 hK7 => pl0 (plc hE (.r 0 1 .nil) (fun a hE => pld (hK7 _ _ (wp_block ?_)))))))
  refine wp_loop_ghost (fun kq10 a w' => ∃ (G : Nat → Value) (x8 : Int), kq10 ≤ k ∧ Env 61 G a ∧ At G [(0, .slice A0_0 x0_.length c0_0), (3, .int .i64 x8)] ∧ St W N F w' F [row (Kn.int .i64) 3 (.slice A0_0 x0_.length c0_0) x0_] ∧  slices_Compact__int_int.l9 kq10 x0_ x8 = some r) k ⟨_, 1, Nat.le_refl _, hE, .of, hS, H⟩ ?_
  rintro kq10 a u12 ⟨G, x8, hkq, hE, hA, hS, H⟩
  cases kq10 with
  | zero => cases (show none = some r from H)
  | succ k11 =>
   rw [slices_Compact__int_int.l9_s] at H
   obtain ⟨J, hE⟩ := hE.at hA
   refine wp_seq_k fun K13 hK13 => wp_seq_k fun K14 hK14 => pl0 (plc hE (.r 0 4 .nil) (fun a hE => pld (hK14 _ _ ?_)))
   rcases sp H with ⟨c15, H⟩ | ⟨c15, H⟩
   ·
    replace hE := hE.kt 13 c15
    refine ct hE (wp_skip (hK13 _ _ (wp_seq_k fun K16 hK16 => wp_block (wp_seq_k fun K17 hK17 => ?_))))
    refine drawn 10 ⟨[], [], fun q => False⟩ mixed rfl (by kernel_rfl) (fun hst => ?_)
    replace hS := hS.drew
    obtain ⟨c18, H⟩ := gd H
    have hr19 := hS.row_at (i := 0) rfl
    have hE_ := hE
    obtain ⟨b20, rfl⟩ := row_addr hr19 c18.1 c18.2
    replace hE := hE_
    have hr_ := hS.row_at (i := 0) rfl
    obtain ⟨cs22, rfl, hc23⟩ := row_el hr_ 0 x8 c18.1 c18.2
    obtain ⟨c24, H⟩ := gd H
    have hr25 := hS.row_at (i := 0) rfl
    have hr_ := hS.row_at (i := 0) rfl
    obtain ⟨cs27, rfl, hc28⟩ := row_el hr_ 0 (w64 (x8 - 1)) c24.1 c24.2
    refine mny 0 hst hE (.r 0 2 <| .x 2 c18 <| .c 3 (hc23 0 _ rfl) <| .r 4 3 <| .x 7 c24 <| .c 8 (hc28 0 _ rfl) <| .r 9 1 <| .nil) (fun a hE => ?_)
    refine dn ?_
    refine hK17 _ _ ?_
    rcases sp H with ⟨c29, H⟩ | ⟨c29, H⟩
    ·
     replace hE := hE.kt 25 c29
     refine ct hE (wp_seq_k fun K30 hK30 => pl0 ?_)
     cases (show none = some r from H)
    ·
     replace hE := hE.kf 25 c29
     refine cf hE (wp_skip ?_)
     refine block_n ?_
     refine hK16 _ _ (pl0 (plc hE (.r 0 3 .nil) (fun a hE => pld ?_)))
     exact then_n ⟨k11, by omega, _, (w64 (x8 + 1)), by omega, hE, .of, hS, H⟩
   ·
    replace hE := hE.kf 13 c15
    refine cf hE ?_
    refine wp_exit ?_
    refine hK6 _ _ (wp_seq_k fun K31 hK31 => pl0 (plc hE (.r 0 2 .nil) (fun a hE => pld (hK31 _ _ (wp_ret ?_)))))
    rw [hN] at hS
    obtain rfl := si H
    exact rt1 hE ⟨_, rfl, _, _, _, rfl, hS⟩

end Go.Proofs.YtpohepinmjmbkaaGreat.QB
