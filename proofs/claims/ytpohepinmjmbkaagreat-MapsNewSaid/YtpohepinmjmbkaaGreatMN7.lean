/- Functions of the program, what each computes (written by wip/s/sl.py). -/
import Derived.Test.YtpohepinmjmbkaaGreatMN6
namespace Go.Proofs.YtpohepinmjmbkaaGreat.MN
open Go Go.RowKit Go.Proofs.YtpohepinmjmbkaaGreat.Sl
set_option linter.unusedVariables false
set_option linter.unusedSimpArgs false
/-! ### windrose/maps.Apply: function 26 -/
def maps_Apply.j21 : Nat → T_api_Map → T_api_Delta → Bool → Option (T_api_Map × Int)
  | 0, _, _, _ => none
  | k + 1, x0_, x1_, y20 => if y20 = true then ((maps_own.f k x0_).bind fun t29 => (some (t29, 1))) else (if x0_.f0 = 2147483647 then ((maps_own.f k x0_).bind fun t53 => (some (t53, 6))) else ((maps_own.f k x0_).bind fun t77 => ((maps_turned.f k t77 x1_).bind fun t95 => (if t95.2 = 0 then ((maps_follow.f k x0_ t95.1).bind fun t149 => (some ((⟨(w64 (t95.1.f0 + 1)), t95.1.f1, t95.1.f2, t95.1.f3, t95.1.f4, t95.1.f5, t149⟩ : T_api_Map), 0))) else ((maps_own.f k x0_).bind fun t125 => (some (t125, t95.2)))))))
theorem maps_Apply.j21_s (k : Nat) (x0_ : T_api_Map) (x1_ : T_api_Delta) (y20 : Bool) : maps_Apply.j21 (k + 1) x0_ x1_ y20 = (if y20 = true then ((maps_own.f k x0_).bind fun t29 => (some (t29, 1))) else (if x0_.f0 = 2147483647 then ((maps_own.f k x0_).bind fun t53 => (some (t53, 6))) else ((maps_own.f k x0_).bind fun t77 => ((maps_turned.f k t77 x1_).bind fun t95 => (if t95.2 = 0 then ((maps_follow.f k x0_ t95.1).bind fun t149 => (some ((⟨(w64 (t95.1.f0 + 1)), t95.1.f1, t95.1.f2, t95.1.f3, t95.1.f4, t95.1.f5, t149⟩ : T_api_Map), 0))) else ((maps_own.f k x0_).bind fun t125 => (some (t125, t95.2)))))))) := by kernel_rfl
def maps_Apply.f (k : Nat) (x0_ : T_api_Map) (x1_ : T_api_Delta) : Option (T_api_Map × Int) := (maps_Check.f k x0_).bind fun t11 => (if t11 = 0 then (if x1_.f0 < 1 then (maps_Apply.j21 k x0_ x1_ true) else (if x1_.f0 ≥ 11 then (maps_Apply.j21 k x0_ x1_ true) else ((maps_bare.f x1_).bind fun t18 => (maps_Apply.j21 k x0_ x1_ (!t18))))) else (some ((⟨0, 0, 0, 0, [], [], []⟩ : T_api_Map), 1)))
def maps_Apply.Post (W F : World) (r : T_api_Map × Int) (v : Value) (w' : World) : Prop := ∃ (F' : World) (RA0_4 : Option Addr) (rc0_4 : Nat) (RA0_5 : Option Addr) (rc0_5 : Nat) (RA0_6 : Option Addr) (rc0_6 : Nat), v = .tuple #[.agg #[.int .i64 r.1.f0, .int .i64 r.1.f1, .int .i64 r.1.f2, .int .i64 r.1.f3, .slice RA0_4 r.1.f4.length rc0_4, .slice RA0_5 r.1.f5.length rc0_5, .slice RA0_6 r.1.f6.length rc0_6], .int .i64 r.2] ∧ St W (mine W []) F w' F' [row T_api_Trail.k 49 (.slice RA0_6 r.1.f6.length rc0_6) r.1.f6] ∧ Rd T_api_Node.k F' RA0_4 rc0_4 r.1.f4 ∧ Rd T_api_Temp.k F' RA0_5 rc0_5 r.1.f5
set_option maxHeartbeats 4000000 in
set_option maxRecDepth 100000 in
theorem maps_Apply.calls (k : Nat) (x0_ : T_api_Map) (x1_ : T_api_Delta) (A0_4 : Option Addr) (c0_4 : Nat) (A0_5 : Option Addr) (c0_5 : Nat) (A0_6 : Option Addr) (c0_6 : Nat) (A1_6 : Option Addr) (c1_6 : Nat) (r : T_api_Map × Int) (W F : World) (hown : Sub F W) (g0_4 : Rd T_api_Node.k F A0_4 c0_4 x0_.f4) (g0_5 : Rd T_api_Temp.k F A0_5 c0_5 x0_.f5) (g0_6 : Rd T_api_Trail.k F A0_6 c0_6 x0_.f6) (g1_6 : Rd (Kn.int .i64) F A1_6 c1_6 x1_.f6) (H : maps_Apply.f k x0_ x1_ = some r) :
    Calls Tryz.prog 26 #[.agg #[.int .i64 x0_.f0, .int .i64 x0_.f1, .int .i64 x0_.f2, .int .i64 x0_.f3, .slice A0_4 x0_.f4.length c0_4, .slice A0_5 x0_.f5.length c0_5, .slice A0_6 x0_.f6.length c0_6], .agg #[.int .i64 x1_.f0, .int .i64 x1_.f1, .int .i64 x1_.f2, .int .i64 x1_.f3, .int .i64 x1_.f4, .int .i64 x1_.f5, .slice A1_6 x1_.f6.length c1_6]] W fun e w' => ∃ v, e = .returned v ∧ maps_Apply.Post W F r v w' := by
  have hS := St.start (Own.nil hown)
  unfold maps_Apply.f at H
  refine enter (n := 56) rfl rfl rfl (Nat.le_of_ble_eq_true rfl) (fun a hE => ?_)
  refine wp_seq_k fun K1 hK1 => ?_
  refine pl0 ?_
  refine ple hE (.bx (t := 26) hS [.int .i64 x0_.f0, .int .i64 x0_.f1, .int .i64 x0_.f2, .int .i64 x0_.f3, .slice A0_4 x0_.f4.length c0_4, .slice A0_5 x0_.f5.length c0_5, .slice A0_6 x0_.f6.length c0_6]) ?_
  rintro _ u3 a ⟨b2, rfl, hb2, hS, hg⟩ hE
  refine ple hE (.bx (t := 40) hS [.int .i64 x1_.f0, .int .i64 x1_.f1, .int .i64 x1_.f2, .int .i64 x1_.f3, .int .i64 x1_.f4, .int .i64 x1_.f5, .slice A1_6 x1_.f6.length c1_6]) ?_
  rintro _ u5 a ⟨b4, rfl, hb4, hS, hg⟩ hE
  refine ple hE (.al (t := 26) hS [.int .i64 0, .int .i64 0, .int .i64 0, .int .i64 0, .slice none 0 0, .slice none 0 0, .slice none 0 0]) ?_
  rintro _ u7 a ⟨b6, rfl, hb6, hS, hg⟩ hE
  refine plc hE (.r 3 1 .nil) (fun a hE => ?_)
  refine pld ?_
  refine hK1 _ _ ?_
  refine wp_seq_k fun K8 hK8 => ?_
  refine wp_block ?_
  refine wp_seq_k fun K9 hK9 => ?_
  refine pl0 ?_
  have hb2 := hS.blk_at (i := 2) rfl
  refine plc hE (.bn 0 0 7 hb2 .nil) (fun a hE => ?_)
  obtain ⟨t11, h12, H⟩ := Option.bind_eq_some_iff.mp H
  refine ple hE (.cl en32 (maps_Check.calls k x0_ _ _ _ _ _ _ _ _ _ hS.own.sub g0_4 g0_5 g0_6 h12)) ?_
  rintro _ u10 a ⟨_, rfl, hC⟩ hE
  replace hS := hS.lent hC
  refine plc hE (.r 2 2 .nil) (fun a hE => ?_)
  refine pld ?_
  refine hK9 _ _ ?_
  by_cases c13 : t11 = 0
  · rw [if_pos c13] at H
    replace hE := hE.ktn 8 c13
    refine cf hE ?_
    refine wp_seq_k fun K14 hK14 => ?_
    have J24 : ∀ kq22, kq22 ≤ k → ∀ (G : Nat → Value) (y20 : Bool) (a : Act) (w' : World), Env 56 G a → At G [(2, .pointer (some ⟨b2, 0, none⟩)), (3, .pointer (some ⟨b4, 0, none⟩)), (4, .pointer (some ⟨b6, 0, none⟩)), (13, .bool y20)] → St W (mine W []) F w' F [box b6 #[.int .i64 0, .int .i64 0, .int .i64 0, .int .i64 0, .slice none 0 0, .slice none 0 0, .slice none 0 0] 26, box b4 #[.int .i64 x1_.f0, .int .i64 x1_.f1, .int .i64 x1_.f2, .int .i64 x1_.f3, .int .i64 x1_.f4, .int .i64 x1_.f5, .slice A1_6 x1_.f6.length c1_6] 40, box b2 #[.int .i64 x0_.f0, .int .i64 x0_.f1, .int .i64 x0_.f2, .int .i64 x0_.f3, .slice A0_4 x0_.f4.length c0_4, .slice A0_5 x0_.f5.length c0_5, .slice A0_6 x0_.f6.length c0_6] 26] → maps_Apply.j21 kq22 x0_ x1_ y20 = some r → K14 a w' := by
      intro kq22 hkq G y20 a u25 hE hA hS H
      cases kq22 with
      | zero => cases (show none = some r from H)
      | succ k23 =>
        rw [maps_Apply.j21_s] at H
        obtain ⟨J, hE⟩ := hE.at hA
        refine hK14 _ _ ?_
        by_cases c26 : y20 = true
        · rw [if_pos c26] at H
          replace hE := hE.bt 13 c26
          refine ct hE ?_
          refine wp_seq_k fun K27 hK27 => ?_
          refine pl0 ?_
          have hb2 := hS.blk_at (i := 2) rfl
          refine plc hE (.bn 0 0 7 hb2 .nil) (fun a hE => ?_)
          obtain ⟨t29, h30, H⟩ := Option.bind_eq_some_iff.mp H
          refine ple hE (.cl en77 (maps_own.calls k23 x0_ _ _ _ _ _ _ _ _ _ hS.own.sub g0_4 g0_5 g0_6 h30)) ?_
          rintro _ u28 a ⟨F31, A32, c33, A36, c37, A40, c41, rfl, hC⟩ hE
          have hs := hC.sub
          replace hS := hS.called (X := []) hC
          replace g0_4 := g0_4.mono hs
          replace g0_5 := g0_5.mono hs
          replace g0_6 := g0_6.mono hs
          replace g1_6 := g1_6.mono hs
          replace hS := hS.front 3 rfl
          refine ple hE (.sto hS [.int .i64 t29.f0, .int .i64 t29.f1, .int .i64 t29.f2, .int .i64 t29.f3, .slice A32 t29.f4.length c33, .slice A36 t29.f5.length c37, .slice A40 t29.f6.length c41]) ?_
          rintro _ u44 a ⟨rfl, hb6, hS, hz⟩ hE
          refine plc hE (.r 3 1 .nil) (fun a hE => ?_)
          refine pld ?_
          refine hK27 _ _ ?_
          refine wp_ret (block_ret (then_ret ?_))
          replace hS := hS.front 1 rfl
          obtain ⟨F45, hs, g46, hS⟩ := hS.give
          replace g0_4 := g0_4.mono hs
          replace g0_5 := g0_5.mono hs
          replace g0_6 := g0_6.mono hs
          replace g1_6 := g1_6.mono hs
          replace hS := hS.front 1 rfl
          obtain ⟨F47, hs, g48, hS⟩ := hS.give
          replace g0_4 := g0_4.mono hs
          replace g0_5 := g0_5.mono hs
          replace g0_6 := g0_6.mono hs
          replace g46 := g46.mono hs
          replace g1_6 := g1_6.mono hs
          replace hS := hS.tail
          replace hS := hS.front 1 rfl
          replace hS := hS.tail
          replace hS := hS.front 1 rfl
          replace hS := hS.tail
          obtain rfl := Option.some.inj H
          exact retN hE rfl (of_decide_eq_true rfl) (.cell (by kernel_rfl) (res_blk [.int .i64 t29.f0, .int .i64 t29.f1, .int .i64 t29.f2, .int .i64 t29.f3, .slice A32 t29.f4.length c33, .slice A36 t29.f5.length c37, .slice A40 t29.f6.length c41] ag26 sz26 hb6 rfl) (.tmp (by kernel_rfl) .nil)) ⟨_, rfl, _, _, _, _, _, _, _, rfl, hS, g46, g48⟩
        · rw [if_neg c26] at H
          replace hE := hE.bf 13 c26
          refine cf hE ?_
          refine wp_seq_k fun K49 hK49 => ?_
          refine pl0 ?_
          have hb2 := hS.blk_at (i := 2) rfl
          refine plc hE (.r 0 1 <| .b 1 0 hb2 <| .r 2 2 <| .nil) (fun a hE => ?_)
          refine pld ?_
          refine hK49 _ _ ?_
          by_cases c50 : x0_.f0 = 2147483647
          · rw [if_pos c50] at H
            replace hE := hE.kt 29 c50
            refine ct hE ?_
            refine wp_seq_k fun K51 hK51 => ?_
            refine pl0 ?_
            refine plc hE (.bn 0 0 7 hb2 .nil) (fun a hE => ?_)
            obtain ⟨t53, h54, H⟩ := Option.bind_eq_some_iff.mp H
            refine ple hE (.cl en77 (maps_own.calls k23 x0_ _ _ _ _ _ _ _ _ _ hS.own.sub g0_4 g0_5 g0_6 h54)) ?_
            rintro _ u52 a ⟨F55, A56, c57, A60, c61, A64, c65, rfl, hC⟩ hE
            have hs := hC.sub
            replace hS := hS.called (X := []) hC
            replace g0_4 := g0_4.mono hs
            replace g0_5 := g0_5.mono hs
            replace g0_6 := g0_6.mono hs
            replace g1_6 := g1_6.mono hs
            replace hS := hS.front 3 rfl
            refine ple hE (.sto hS [.int .i64 t53.f0, .int .i64 t53.f1, .int .i64 t53.f2, .int .i64 t53.f3, .slice A56 t53.f4.length c57, .slice A60 t53.f5.length c61, .slice A64 t53.f6.length c65]) ?_
            rintro _ u68 a ⟨rfl, hb6, hS, hz⟩ hE
            refine plc hE (.r 3 1 .nil) (fun a hE => ?_)
            refine pld ?_
            refine hK51 _ _ ?_
            refine wp_ret (block_ret (then_ret ?_))
            replace hS := hS.front 1 rfl
            obtain ⟨F69, hs, g70, hS⟩ := hS.give
            replace g0_4 := g0_4.mono hs
            replace g0_5 := g0_5.mono hs
            replace g0_6 := g0_6.mono hs
            replace g1_6 := g1_6.mono hs
            replace hS := hS.front 1 rfl
            obtain ⟨F71, hs, g72, hS⟩ := hS.give
            replace g0_4 := g0_4.mono hs
            replace g0_5 := g0_5.mono hs
            replace g0_6 := g0_6.mono hs
            replace g70 := g70.mono hs
            replace g1_6 := g1_6.mono hs
            replace hS := hS.tail
            replace hS := hS.front 1 rfl
            replace hS := hS.tail
            replace hS := hS.front 1 rfl
            replace hS := hS.tail
            obtain rfl := Option.some.inj H
            exact retN hE rfl (of_decide_eq_true rfl) (.cell (by kernel_rfl) (res_blk [.int .i64 t53.f0, .int .i64 t53.f1, .int .i64 t53.f2, .int .i64 t53.f3, .slice A56 t53.f4.length c57, .slice A60 t53.f5.length c61, .slice A64 t53.f6.length c65] ag26 sz26 hb6 rfl) (.tmp (by kernel_rfl) .nil)) ⟨_, rfl, _, _, _, _, _, _, _, rfl, hS, g70, g72⟩
          · rw [if_neg c50] at H
            replace hE := hE.kf 29 c50
            refine cf hE ?_
            refine wp_skip ?_
            refine block_n ?_
            refine hK8 _ _ ?_
            refine wp_seq_k fun K76 hK76 => ?_
            refine drawn 10 ⟨[3, 8], [], fun q => False⟩ mixed rfl (by kernel_rfl) (fun hst => ?_)
            replace hS := hS.drew
            have hb2 := hS.blk_at (i := 2) rfl
            have hb4 := hS.blk_at (i := 1) rfl
            refine mny 8 hst hE (.bn 0 0 7 hb2 <| .bn 2 0 7 hb4 <| .nil) (fun a hE => ?_)
            obtain ⟨t77, h78, H⟩ := Option.bind_eq_some_iff.mp H
            obtain ⟨t95, h96, H⟩ := Option.bind_eq_some_iff.mp H
            refine meet2 (fun a w' => ∃ (G : Nat → Value) (b93 : Nat) (A103 : Option Addr) (c104 : Nat) (A107 : Option Addr) (c108 : Nat) (A110 : Option Addr) (c111 : Nat) (F117 : World), Env 56 G a ∧ At G [(2, .pointer (some ⟨b2, 0, none⟩)), (4, .pointer (some ⟨b6, 0, none⟩)), (6, .pointer (some ⟨b93, 0, none⟩)), (40, .agg #[.int .i64 t95.1.f0, .int .i64 t95.1.f1, .int .i64 t95.1.f2, .int .i64 t95.1.f3, .slice A103 t95.1.f4.length c104, .slice A107 t95.1.f5.length c108, .slice A110 t95.1.f6.length c111]), (41, .int .i64 t95.2)] ∧ St W (mine W []) F w' F117 [box b93 #[.int .i64 0, .int .i64 0, .int .i64 0, .int .i64 0, .slice none 0 0, .slice none 0 0, .slice none 0 0] 26, box b6 #[.int .i64 0, .int .i64 0, .int .i64 0, .int .i64 0, .slice none 0 0, .slice none 0 0, .slice none 0 0] 26, box b4 #[.int .i64 x1_.f0, .int .i64 x1_.f1, .int .i64 x1_.f2, .int .i64 x1_.f3, .int .i64 x1_.f4, .int .i64 x1_.f5, .slice A1_6 x1_.f6.length c1_6] 40, box b2 #[.int .i64 x0_.f0, .int .i64 x0_.f1, .int .i64 x0_.f2, .int .i64 x0_.f3, .slice A0_4 x0_.f4.length c0_4, .slice A0_5 x0_.f5.length c0_5, .slice A0_6 x0_.f6.length c0_6] 26, row T_api_Node.k 104 (.slice A103 t95.1.f4.length c104) t95.1.f4] ∧ Rd T_api_Temp.k F117 A107 c108 t95.1.f5 ∧ Rd T_api_Trail.k F117 A110 c111 t95.1.f6 ∧ Rd (Kn.int .i64) F117 A1_6 c1_6 x1_.f6 ∧ Rd T_api_Node.k F117 A0_4 c0_4 x0_.f4 ∧ Rd T_api_Temp.k F117 A0_5 c0_5 x0_.f5 ∧ Rd T_api_Trail.k F117 A0_6 c0_6 x0_.f6) 2 255 ?_ (fun hJb => ?_)
            · rintro a u118 ⟨G, b93, A103, c104, A107, c108, A110, c111, F117, hE, hA, hS, g109, g112, g1_6, g0_4, g0_5, g0_6⟩
              obtain ⟨J, hE⟩ := hE.at hA
              refine on1 8 hE (.sto hS [.int .i64 t95.1.f0, .int .i64 t95.1.f1, .int .i64 t95.1.f2, .int .i64 t95.1.f3, .slice A103 t95.1.f4.length c104, .slice A107 t95.1.f5.length c108, .slice A110 t95.1.f6.length c111]) ?_
              rintro _ u119 a ⟨rfl, hb93, hS, hz⟩ hE
              refine ⟨.d, ?_⟩
              refine mny 0 hst hE (.r 9 1 .nil) (fun a hE => ?_)
              refine dn ?_
              refine hK76 _ _ ?_
              refine wp_seq_k fun K120 hK120 => ?_
              refine wp_seq_k fun K121 hK121 => ?_
              refine pl0 ?_
              refine plc hE (.r 0 2 .nil) (fun a hE => ?_)
              refine pld ?_
              refine hK121 _ _ ?_
              by_cases c122 : t95.2 = 0
              · rw [if_pos c122] at H
                replace hE := hE.ktn 43 c122
                refine cf hE ?_
                refine wp_skip ?_
                refine hK120 _ _ ?_
                refine wp_seq_k fun K145 hK145 => ?_
                refine pl0 ?_
                have hb2 := hS.blk_at (i := 3) rfl
                refine plc hE (.bn 0 0 7 hb2 <| .bn 1 0 7 hb93 <| .nil) (fun a hE => ?_)
                replace hS := hS.front 4 rfl
                obtain ⟨F146, hs, g147, hS⟩ := hS.give
                replace g109 := g109.mono hs
                replace g112 := g112.mono hs
                replace g0_4 := g0_4.mono hs
                replace g0_5 := g0_5.mono hs
                replace g0_6 := g0_6.mono hs
                replace g1_6 := g1_6.mono hs
                obtain ⟨t149, h150, H⟩ := Option.bind_eq_some_iff.mp H
                refine ple hE (.cl en79 (maps_follow.calls k23 x0_ t95.1 _ _ _ _ _ _ _ _ _ _ _ _ _ _ _ hS.own.sub g0_4 g0_5 g0_6 g147 g109 g112 h150)) ?_
                rintro _ u148 a ⟨F151, A152, c153, rfl, hC⟩ hE
                have hs := hC.sub
                replace hS := hS.called (X := []) hC
                replace g147 := g147.mono hs
                replace g109 := g109.mono hs
                replace g112 := g112.mono hs
                replace g0_4 := g0_4.mono hs
                replace g0_5 := g0_5.mono hs
                replace g0_6 := g0_6.mono hs
                replace g1_6 := g1_6.mono hs
                refine plc hE (.r 3 1 .nil) (fun a hE => ?_)
                replace hS := hS.front 1 rfl
                refine ple hE (.sto hS [.int .i64 t95.1.f0, .int .i64 t95.1.f1, .int .i64 t95.1.f2, .int .i64 t95.1.f3, .slice A103 t95.1.f4.length c104, .slice A107 t95.1.f5.length c108, .slice A152 t149.length c153]) ?_
                rintro _ u156 a ⟨rfl, hb93, hS, hz⟩ hE
                refine pld ?_
                refine hK145 _ _ ?_
                refine wp_seq_k fun K157 hK157 => ?_
                refine pl0 ?_
                refine plc hE (.r 0 1 <| .b 1 0 hb93 <| .r 2 2 <| .nil) (fun a hE => ?_)
                refine ple hE (.sto hS [.int .i64 (w64 (t95.1.f0 + 1)), .int .i64 t95.1.f1, .int .i64 t95.1.f2, .int .i64 t95.1.f3, .slice A103 t95.1.f4.length c104, .slice A107 t95.1.f5.length c108, .slice A152 t149.length c153]) ?_
                rintro _ u158 a ⟨rfl, hb93, hS, hz⟩ hE
                refine pld ?_
                refine hK157 _ _ ?_
                refine wp_seq_k fun K159 hK159 => ?_
                refine pl0 ?_
                refine plc hE (.bn 0 0 7 hb93 .nil) (fun a hE => ?_)
                replace hS := hS.front 2 rfl
                refine ple hE (.sto hS [.int .i64 (w64 (t95.1.f0 + 1)), .int .i64 t95.1.f1, .int .i64 t95.1.f2, .int .i64 t95.1.f3, .slice A103 t95.1.f4.length c104, .slice A107 t95.1.f5.length c108, .slice A152 t149.length c153]) ?_
                rintro _ u160 a ⟨rfl, hb6, hS, hz⟩ hE
                refine plc hE (.r 2 1 .nil) (fun a hE => ?_)
                refine pld ?_
                refine hK159 _ _ ?_
                refine wp_ret ?_
                replace hS := hS.tail
                replace hS := hS.tail
                replace hS := hS.front 1 rfl
                replace hS := hS.tail
                replace hS := hS.front 1 rfl
                replace hS := hS.tail
                obtain rfl := Option.some.inj H
                exact retN hE rfl (of_decide_eq_true rfl) (.cell (by kernel_rfl) (res_blk [.int .i64 (w64 (t95.1.f0 + 1)), .int .i64 t95.1.f1, .int .i64 t95.1.f2, .int .i64 t95.1.f3, .slice A103 t95.1.f4.length c104, .slice A107 t95.1.f5.length c108, .slice A152 t149.length c153] ag26 sz26 hb6 rfl) (.tmp (by kernel_rfl) .nil)) ⟨_, rfl, _, _, _, _, _, _, _, rfl, hS, g147, g109⟩
              · rw [if_neg c122] at H
                replace hE := hE.kfn 43 c122
                refine ct hE ?_
                refine wp_seq_k fun K123 hK123 => ?_
                refine pl0 ?_
                have hb2 := hS.blk_at (i := 3) rfl
                refine plc hE (.bn 0 0 7 hb2 .nil) (fun a hE => ?_)
                obtain ⟨t125, h126, H⟩ := Option.bind_eq_some_iff.mp H
                refine ple hE (.cl en77 (maps_own.calls k23 x0_ _ _ _ _ _ _ _ _ _ hS.own.sub g0_4 g0_5 g0_6 h126)) ?_
                rintro _ u124 a ⟨F127, A128, c129, A132, c133, A136, c137, rfl, hC⟩ hE
                have hs := hC.sub
                replace hS := hS.called (X := []) hC
                replace g109 := g109.mono hs
                replace g112 := g112.mono hs
                replace g0_4 := g0_4.mono hs
                replace g0_5 := g0_5.mono hs
                replace g0_6 := g0_6.mono hs
                replace g1_6 := g1_6.mono hs
                refine plc hE (.r 2 1 .nil) (fun a hE => ?_)
                replace hS := hS.front 4 rfl
                refine ple hE (.sto hS [.int .i64 t125.f0, .int .i64 t125.f1, .int .i64 t125.f2, .int .i64 t125.f3, .slice A128 t125.f4.length c129, .slice A132 t125.f5.length c133, .slice A136 t125.f6.length c137]) ?_
                rintro _ u140 a ⟨rfl, hb6, hS, hz⟩ hE
                refine plc hE (.r 4 1 .nil) (fun a hE => ?_)
                refine pld ?_
                refine hK123 _ _ ?_
                refine wp_ret (then_ret ?_)
                replace hS := hS.front 1 rfl
                obtain ⟨F141, hs, g142, hS⟩ := hS.give
                replace g109 := g109.mono hs
                replace g112 := g112.mono hs
                replace g0_4 := g0_4.mono hs
                replace g0_5 := g0_5.mono hs
                replace g0_6 := g0_6.mono hs
                replace g1_6 := g1_6.mono hs
                replace hS := hS.front 1 rfl
                obtain ⟨F143, hs, g144, hS⟩ := hS.give
                replace g109 := g109.mono hs
                replace g112 := g112.mono hs
                replace g0_4 := g0_4.mono hs
                replace g0_5 := g0_5.mono hs
                replace g0_6 := g0_6.mono hs
                replace g142 := g142.mono hs
                replace g1_6 := g1_6.mono hs
                replace hS := hS.tail
                replace hS := hS.front 1 rfl
                replace hS := hS.tail
                replace hS := hS.front 1 rfl
                replace hS := hS.tail
                replace hS := hS.front 1 rfl
                replace hS := hS.tail
                replace hS := hS.front 1 rfl
                replace hS := hS.tail
                obtain rfl := Option.some.inj H
                exact retN hE rfl (of_decide_eq_true rfl) (.cell (by kernel_rfl) (res_blk [.int .i64 t125.f0, .int .i64 t125.f1, .int .i64 t125.f2, .int .i64 t125.f3, .slice A128 t125.f4.length c129, .slice A132 t125.f5.length c133, .slice A136 t125.f6.length c137] ag26 sz26 hb6 rfl) (.tmp (by kernel_rfl) .nil)) ⟨_, rfl, _, _, _, _, _, _, _, rfl, hS, g142, g144⟩
            · refine meet2 (fun a w' => ∃ (G : Nat → Value) (b93 : Nat) (A81 : Option Addr) (c82 : Nat) (A85 : Option Addr) (c86 : Nat) (A89 : Option Addr) (c90 : Nat) (F114 : World), Env 56 G a ∧ At G [(2, .pointer (some ⟨b2, 0, none⟩)), (4, .pointer (some ⟨b6, 0, none⟩)), (6, .pointer (some ⟨b93, 0, none⟩)), (37, .agg #[.int .i64 t77.f0, .int .i64 t77.f1, .int .i64 t77.f2, .int .i64 t77.f3, .slice A81 t77.f4.length c82, .slice A85 t77.f5.length c86, .slice A89 t77.f6.length c90]), (38, .agg #[.int .i64 x1_.f0, .int .i64 x1_.f1, .int .i64 x1_.f2, .int .i64 x1_.f3, .int .i64 x1_.f4, .int .i64 x1_.f5, .slice A1_6 x1_.f6.length c1_6])] ∧ St W (mine W []) F w' F114 [box b93 #[.int .i64 0, .int .i64 0, .int .i64 0, .int .i64 0, .slice none 0 0, .slice none 0 0, .slice none 0 0] 26, box b6 #[.int .i64 0, .int .i64 0, .int .i64 0, .int .i64 0, .slice none 0 0, .slice none 0 0, .slice none 0 0] 26, box b4 #[.int .i64 x1_.f0, .int .i64 x1_.f1, .int .i64 x1_.f2, .int .i64 x1_.f3, .int .i64 x1_.f4, .int .i64 x1_.f5, .slice A1_6 x1_.f6.length c1_6] 40, box b2 #[.int .i64 x0_.f0, .int .i64 x0_.f1, .int .i64 x0_.f2, .int .i64 x0_.f3, .slice A0_4 x0_.f4.length c0_4, .slice A0_5 x0_.f5.length c0_5, .slice A0_6 x0_.f6.length c0_6] 26, row T_api_Node.k 104 (.slice A81 t77.f4.length c82) t77.f4, row T_api_Temp.k 97 (.slice A85 t77.f5.length c86) t77.f5, row T_api_Trail.k 49 (.slice A89 t77.f6.length c90) t77.f6] ∧ Rd (Kn.int .i64) F114 A1_6 c1_6 x1_.f6 ∧ Rd T_api_Node.k F114 A0_4 c0_4 x0_.f4 ∧ Rd T_api_Temp.k F114 A0_5 c0_5 x0_.f5 ∧ Rd T_api_Trail.k F114 A0_6 c0_6 x0_.f6) 6 135 ?_ (fun hJ => ?_)
              · rintro a u115 ⟨G, b93, A81, c82, A85, c86, A89, c90, F114, hE, hA, hS, g1_6, g0_4, g0_5, g0_6⟩
                obtain ⟨J, hE⟩ := hE.at hA
                replace hS := hS.front 5 rfl
                obtain ⟨F97, hs, g98, hS⟩ := hS.give
                replace g1_6 := g1_6.mono hs
                replace g0_4 := g0_4.mono hs
                replace g0_5 := g0_5.mono hs
                replace g0_6 := g0_6.mono hs
                replace hS := hS.front 5 rfl
                obtain ⟨F99, hs, g100, hS⟩ := hS.give
                replace g98 := g98.mono hs
                replace g1_6 := g1_6.mono hs
                replace g0_4 := g0_4.mono hs
                replace g0_5 := g0_5.mono hs
                replace g0_6 := g0_6.mono hs
                replace hS := hS.front 4 rfl
                refine on1 3 hE (.cl en78 (maps_turned.calls k23 t77 x1_ _ _ _ _ _ _ _ _ _ _ _ (Own.left (X := [row T_api_Node.k 104 (.slice A81 t77.f4.length c82) t77.f4]) hS.own) g98 g100 g1_6 h96)) ?_
                rintro _ u101 a ⟨F102, A103, c104, A107, c108, A110, c111, rfl, hC, g109, g112⟩ hE
                refine ⟨.d, ?_⟩
                have hs := hC.sub
                replace hS := hS.called (X := [row T_api_Node.k 104 (.slice A81 t77.f4.length c82) t77.f4]) hC
                replace g98 := g98.mono hs
                replace g100 := g100.mono hs
                replace g1_6 := g1_6.mono hs
                replace g0_4 := g0_4.mono hs
                replace g0_5 := g0_5.mono hs
                replace g0_6 := g0_6.mono hs
                refine mny 2 hst hE (.r 4 3 .nil) (fun a hE => ?_)
                replace hS := hS.front 4 rfl
                replace hS := hS.front 4 rfl
                replace hS := hS.front 4 rfl
                replace hS := hS.front 4 rfl
                exact hJb _ _ ⟨_, b93, A103, c104, A107, c108, A110, c111, F102, hE, .of, hS, g109, g112, g1_6, g0_4, g0_5, g0_6⟩
              · refine pk2 1 7 ?_ ?_
                · skip
                  refine pk1 1 hE (.cl en77 (maps_own.calls k23 x0_ _ _ _ _ _ _ _ _ _ hS.own.sub g0_4 g0_5 g0_6 h78)) ?_
                  rintro _ u79 a ⟨F80, A81, c82, A85, c86, A89, c90, rfl, hC⟩ hE
                  refine ⟨.of hC.agr, ?_⟩
                  have hs := hC.sub
                  replace hS := hS.called (X := []) hC
                  replace g0_4 := g0_4.mono hs
                  replace g0_5 := g0_5.mono hs
                  replace g0_6 := g0_6.mono hs
                  replace g1_6 := g1_6.mono hs
                  refine pk2 7 3 ?_ ?_
                  · skip
                    refine pk1 7 hE (.al (t := 26) hS [.int .i64 0, .int .i64 0, .int .i64 0, .int .i64 0, .slice none 0 0, .slice none 0 0, .slice none 0 0]) ?_
                    rintro _ u94 a ⟨b93, rfl, hb93, hS, hg⟩ hE
                    refine ⟨.of hg, ?_⟩
                    replace hS := hS.front 3 rfl
                    replace hS := hS.front 3 rfl
                    replace hS := hS.front 3 rfl
                    replace hS := hS.front 6 rfl
                    replace hS := hS.front 6 rfl
                    replace hS := hS.front 6 rfl
                    replace hS := hS.front 6 rfl
                    exact hJ _ _ ⟨_, b93, A81, c82, A85, c86, A89, c90, F80, hE, .of, hS, g1_6, g0_4, g0_5, g0_6⟩
                  · skip
                    replace hS := hS.front 1 rfl
                    obtain ⟨F97, hs, g98, hS⟩ := hS.give
                    replace g0_4 := g0_4.mono hs
                    replace g0_5 := g0_5.mono hs
                    replace g0_6 := g0_6.mono hs
                    replace g1_6 := g1_6.mono hs
                    replace hS := hS.front 1 rfl
                    obtain ⟨F99, hs, g100, hS⟩ := hS.give
                    replace g0_4 := g0_4.mono hs
                    replace g0_5 := g0_5.mono hs
                    replace g0_6 := g0_6.mono hs
                    replace g98 := g98.mono hs
                    replace g1_6 := g1_6.mono hs
                    refine pk1 3 hE (.cl en78 (maps_turned.calls k23 t77 x1_ _ _ _ _ _ _ _ _ _ _ _ (Own.left (X := [row T_api_Node.k 104 (.slice A81 t77.f4.length c82) t77.f4]) hS.own) g98 g100 g1_6 h96)) ?_
                    rintro _ u101 a ⟨F102, A103, c104, A107, c108, A110, c111, rfl, hC, g109, g112⟩ hE
                    refine ⟨.d, ?_⟩
                    have hs := hC.sub
                    replace hS := hS.called (X := [row T_api_Node.k 104 (.slice A81 t77.f4.length c82) t77.f4]) hC
                    replace g0_4 := g0_4.mono hs
                    replace g0_5 := g0_5.mono hs
                    replace g0_6 := g0_6.mono hs
                    replace g98 := g98.mono hs
                    replace g100 := g100.mono hs
                    replace g1_6 := g1_6.mono hs
                    refine mny 3 hst hE (.r 4 3 .nil) (fun a hE => ?_)
                    refine on1 7 hE (.al (t := 26) hS [.int .i64 0, .int .i64 0, .int .i64 0, .int .i64 0, .slice none 0 0, .slice none 0 0, .slice none 0 0]) ?_
                    rintro _ u94 a ⟨b93, rfl, hb93, hS, hg⟩ hE
                    refine ⟨.of hg, ?_⟩
                    replace hS := hS.front 1 rfl
                    replace hS := hS.front 4 rfl
                    replace hS := hS.front 4 rfl
                    replace hS := hS.front 4 rfl
                    replace hS := hS.front 4 rfl
                    exact hJb _ _ ⟨_, b93, A103, c104, A107, c108, A110, c111, F102, hE, .of, hS, g109, g112, g1_6, g0_4, g0_5, g0_6⟩
                · skip
                  refine pk1 7 hE (.al (t := 26) hS [.int .i64 0, .int .i64 0, .int .i64 0, .int .i64 0, .slice none 0 0, .slice none 0 0, .slice none 0 0]) ?_
                  rintro _ u94 a ⟨b93, rfl, hb93, hS, hg⟩ hE
                  refine ⟨.of hg, ?_⟩
                  refine on1 1 hE (.cl en77 (maps_own.calls k23 x0_ _ _ _ _ _ _ _ _ _ hS.own.sub g0_4 g0_5 g0_6 h78)) ?_
                  rintro _ u79 a ⟨F80, A81, c82, A85, c86, A89, c90, rfl, hC⟩ hE
                  refine ⟨.of hC.agr, ?_⟩
                  have hs := hC.sub
                  replace hS := hS.called (X := []) hC
                  replace g0_4 := g0_4.mono hs
                  replace g0_5 := g0_5.mono hs
                  replace g0_6 := g0_6.mono hs
                  replace g1_6 := g1_6.mono hs
                  replace hS := hS.front 2 rfl
                  replace hS := hS.front 2 rfl
                  replace hS := hS.front 2 rfl
                  replace hS := hS.front 6 rfl
                  replace hS := hS.front 6 rfl
                  replace hS := hS.front 6 rfl
                  replace hS := hS.front 6 rfl
                  exact hJ _ _ ⟨_, b93, A81, c82, A85, c86, A89, c90, F80, hE, .of, hS, g1_6, g0_4, g0_5, g0_6⟩
    refine pl0 ?_
    have hb4 := hS.blk_at (i := 1) rfl
    refine plc hE (.r 0 1 <| .b 1 0 hb4 <| .r 2 2 <| .nil) (fun a hE => ?_)
    by_cases c15 : x1_.f0 < 1
    · rw [if_pos c15] at H
      replace hE := hE.kt 17 c15
      refine plc hE (.r 4 10 .nil) (fun a hE => ?_)
      refine pld ?_
      exact J24 _ (by omega) _ true _ _ hE .of hS H
    · rw [if_neg c15] at H
      replace hE := hE.kf 17 c15
      refine plc hE (.r 4 1 <| .b 5 0 hb4 <| .r 6 3 <| .nil) (fun a hE => ?_)
      by_cases c16 : x1_.f0 ≥ 11
      · rw [if_pos c16] at H
        replace hE := hE.kt 22 c16
        refine plc hE (.r 9 5 .nil) (fun a hE => ?_)
        refine pld ?_
        exact J24 _ (by omega) _ true _ _ hE .of hS H
      · rw [if_neg c16] at H
        replace hE := hE.kf 22 c16
        refine plc hE (.bn 9 0 7 hb4 .nil) (fun a hE => ?_)
        obtain ⟨t18, h19, H⟩ := Option.bind_eq_some_iff.mp H
        refine ple hE (.cl en76 (maps_bare.calls x1_ _ _ _ _ _ hS.own.sub g1_6 h19)) ?_
        rintro _ u17 a ⟨_, rfl, hC⟩ hE
        replace hS := hS.lent hC
        refine plc hE (.r 11 3 .nil) (fun a hE => ?_)
        refine pld ?_
        exact J24 _ (by omega) _ (!t18) _ _ hE .of hS H
  · rw [if_neg c13] at H
    replace hE := hE.kfn 8 c13
    refine ct hE ?_
    refine wp_seq_k fun K73 hK73 => ?_
    refine pl0 ?_
    refine plc hE (.r 0 1 .nil) (fun a hE => ?_)
    refine ple hE (.sto hS [.int .i64 0, .int .i64 0, .int .i64 0, .int .i64 0, .slice none 0 0, .slice none 0 0, .slice none 0 0]) ?_
    rintro _ u74 a ⟨rfl, hb6, hS, hz⟩ hE
    refine plc hE (.r 2 1 .nil) (fun a hE => ?_)
    refine pld ?_
    refine hK73 _ _ ?_
    refine wp_ret (block_ret (then_ret ?_))
    replace hS := hS.nilrow T_api_Trail.k 49
    replace hS := hS.front 1 rfl
    replace hS := hS.tail
    replace hS := hS.front 1 rfl
    replace hS := hS.tail
    replace hS := hS.front 1 rfl
    replace hS := hS.tail
    obtain rfl := Option.some.inj H
    exact retN hE rfl (of_decide_eq_true rfl) (.cell (by kernel_rfl) (res_blk [.int .i64 0, .int .i64 0, .int .i64 0, .int .i64 0, .slice none 0 0, .slice none 0 0, .slice none 0 0] ag26 sz26 hb6 rfl) (.tmp (by kernel_rfl) .nil)) ⟨_, rfl, _, _, _, _, _, _, _, rfl, hS, (Rd.nil _ _), (Rd.nil _ _)⟩

/-! ### windrose/maps.Raw: function 22 -/
def maps_Raw.j14 : Nat → T_api_Map → Int → Bool → Option (List Int)
  | 0, _, _, _ => none
  | k + 1, x0_, x1_, y13 => if y13 = true then (some []) else ((maps_raw.f k x0_ x1_).bind fun t24 => (some t24))
theorem maps_Raw.j14_s (k : Nat) (x0_ : T_api_Map) (x1_ : Int) (y13 : Bool) : maps_Raw.j14 (k + 1) x0_ x1_ y13 = (if y13 = true then (some []) else ((maps_raw.f k x0_ x1_).bind fun t24 => (some t24))) := by kernel_rfl
def maps_Raw.f (k : Nat) (x0_ : T_api_Map) (x1_ : Int) : Option (List Int) := (maps_Check.f k x0_).bind fun t7 => (if t7 = 0 then ((maps_in.f x1_ 0 (w64 (x0_.f3 - 1))).bind fun t11 => (maps_Raw.j14 k x0_ x1_ (!t11))) else (maps_Raw.j14 k x0_ x1_ true))
def maps_Raw.Post (W F : World) (r : List Int) (v : Value) (w' : World) : Prop := ∃ (F' : World) (RA0_0 : Option Addr) (rc0_0 : Nat), v = .slice RA0_0 r.length rc0_0 ∧ St W (mine W []) F w' F' [row (Kn.int .i64) 3 (.slice RA0_0 r.length rc0_0) r]
set_option maxHeartbeats 4000000 in
set_option maxRecDepth 100000 in
theorem maps_Raw.calls (k : Nat) (x0_ : T_api_Map) (x1_ : Int) (A0_4 : Option Addr) (c0_4 : Nat) (A0_5 : Option Addr) (c0_5 : Nat) (A0_6 : Option Addr) (c0_6 : Nat) (r : List Int) (W F : World) (hown : Sub F W) (g0_4 : Rd T_api_Node.k F A0_4 c0_4 x0_.f4) (g0_5 : Rd T_api_Temp.k F A0_5 c0_5 x0_.f5) (g0_6 : Rd T_api_Trail.k F A0_6 c0_6 x0_.f6) (H : maps_Raw.f k x0_ x1_ = some r) :
    Calls Tryz.prog 22 #[.agg #[.int .i64 x0_.f0, .int .i64 x0_.f1, .int .i64 x0_.f2, .int .i64 x0_.f3, .slice A0_4 x0_.f4.length c0_4, .slice A0_5 x0_.f5.length c0_5, .slice A0_6 x0_.f6.length c0_6], .int .i64 x1_] W fun e w' => ∃ v, e = .returned v ∧ maps_Raw.Post W F r v w' := by
  have hS := St.start (Own.nil hown)
  unfold maps_Raw.f at H
  refine enter (n := 19) rfl rfl rfl (Nat.le_of_ble_eq_true rfl) (fun a hE => ?_)
  refine wp_seq_k fun K1 hK1 => ?_
  refine pl0 ?_
  refine ple hE (.bx (t := 26) hS [.int .i64 x0_.f0, .int .i64 x0_.f1, .int .i64 x0_.f2, .int .i64 x0_.f3, .slice A0_4 x0_.f4.length c0_4, .slice A0_5 x0_.f5.length c0_5, .slice A0_6 x0_.f6.length c0_6]) ?_
  rintro _ u3 a ⟨b2, rfl, hb2, hS, hg⟩ hE
  refine plc hE (.r 1 1 .nil) (fun a hE => ?_)
  refine pld ?_
  refine hK1 _ _ ?_
  refine wp_seq_k fun K4 hK4 => ?_
  refine wp_seq_k fun K5 hK5 => ?_
  have J17 : ∀ kq15, kq15 ≤ k → ∀ (G : Nat → Value) (y13 : Bool) (a : Act) (w' : World), Env 19 G a → At G [(1, .int .i64 x1_), (2, .pointer (some ⟨b2, 0, none⟩)), (15, .bool y13)] → St W (mine W []) F w' F [box b2 #[.int .i64 x0_.f0, .int .i64 x0_.f1, .int .i64 x0_.f2, .int .i64 x0_.f3, .slice A0_4 x0_.f4.length c0_4, .slice A0_5 x0_.f5.length c0_5, .slice A0_6 x0_.f6.length c0_6] 26] → maps_Raw.j14 kq15 x0_ x1_ y13 = some r → K5 a w' := by
    intro kq15 hkq G y13 a u18 hE hA hS H
    cases kq15 with
    | zero => cases (show none = some r from H)
    | succ k16 =>
      rw [maps_Raw.j14_s] at H
      obtain ⟨J, hE⟩ := hE.at hA
      refine hK5 _ _ ?_
      by_cases c19 : y13 = true
      · rw [if_pos c19] at H
        replace hE := hE.bt 15 c19
        refine ct hE ?_
        refine wp_seq_k fun K20 hK20 => ?_
        refine pl0 ?_
        refine plc hE (.r 0 1 .nil) (fun a hE => ?_)
        refine pld ?_
        refine hK20 _ _ ?_
        refine wp_ret (then_ret ?_)
        replace hS := hS.nilrow (Kn.int .i64) 3
        replace hS := hS.front 1 rfl
        replace hS := hS.tail
        obtain rfl := Option.some.inj H
        exact rt1 hE ⟨_, rfl, _, _, _, rfl, hS⟩
      · rw [if_neg c19] at H
        replace hE := hE.bf 15 c19
        refine cf hE ?_
        refine wp_skip ?_
        refine hK4 _ _ ?_
        refine wp_seq_k fun K22 hK22 => ?_
        refine pl0 ?_
        have hb2 := hS.blk_at (i := 0) rfl
        refine plc hE (.bn 0 0 7 hb2 <| .r 1 1 <| .nil) (fun a hE => ?_)
        obtain ⟨t24, h25, H⟩ := Option.bind_eq_some_iff.mp H
        refine ple hE (.cl en71 (maps_raw.calls k16 x0_ x1_ _ _ _ _ _ _ _ _ _ hS.own.sub g0_4 g0_5 g0_6 h25)) ?_
        rintro _ u23 a ⟨F26, A27, c28, rfl, hC⟩ hE
        have hs := hC.sub
        replace hS := hS.called (X := []) hC
        replace g0_4 := g0_4.mono hs
        replace g0_5 := g0_5.mono hs
        replace g0_6 := g0_6.mono hs
        refine plc hE (.r 3 1 .nil) (fun a hE => ?_)
        refine pld ?_
        refine hK22 _ _ ?_
        refine wp_ret ?_
        replace hS := hS.front 1 rfl
        replace hS := hS.tail
        obtain rfl := Option.some.inj H
        exact rt1 hE ⟨_, rfl, _, _, _, rfl, hS⟩
  refine pl0 ?_
  refine plc hE (.bn 0 0 7 hb2 .nil) (fun a hE => ?_)
  obtain ⟨t7, h8, H⟩ := Option.bind_eq_some_iff.mp H
  refine ple hE (.cl en32 (maps_Check.calls k x0_ _ _ _ _ _ _ _ _ _ hS.own.sub g0_4 g0_5 g0_6 h8)) ?_
  rintro _ u6 a ⟨_, rfl, hC⟩ hE
  replace hS := hS.lent hC
  refine plc hE (.r 2 2 .nil) (fun a hE => ?_)
  by_cases c9 : t7 = 0
  · rw [if_pos c9] at H
    replace hE := hE.ktn 8 c9
    have hb2 := hS.blk_at (i := 0) rfl
    refine plc hE (.r 4 2 <| .b 6 3 hb2 <| .r 7 1 <| .nil) (fun a hE => ?_)
    obtain ⟨t11, h12, H⟩ := Option.bind_eq_some_iff.mp H
    refine ple hE (.cl en70 (maps_in.calls x1_ 0 (w64 (x0_.f3 - 1)) _ _ _ hS.own.sub h12)) ?_
    rintro _ u10 a ⟨_, rfl, hC⟩ hE
    replace hS := hS.lent hC
    refine plc hE (.r 9 2 .nil) (fun a hE => ?_)
    refine pld ?_
    exact J17 _ (by omega) _ (!t11) _ _ hE .of hS H
  · rw [if_neg c9] at H
    replace hE := hE.kfn 8 c9
    refine plc hE (.r 4 7 .nil) (fun a hE => ?_)
    refine pld ?_
    exact J17 _ (by omega) _ true _ _ hE .of hS H

/-! ### windrose/maps.Acting: function 24 -/
def maps_Acting.f (k : Nat) (x0_ : T_api_Map) (x1_ : Int) : Option (List Int) := (maps_Raw.f k x0_ x1_).bind fun t6 => ((maps_up.f k x0_ t6).bind fun t14 => (some t14))
def maps_Acting.Post (W F : World) (r : List Int) (v : Value) (w' : World) : Prop := ∃ (F' : World) (RA0_0 : Option Addr) (rc0_0 : Nat), v = .slice RA0_0 r.length rc0_0 ∧ St W (mine W []) F w' F' [row (Kn.int .i64) 3 (.slice RA0_0 r.length rc0_0) r]
set_option maxHeartbeats 4000000 in
set_option maxRecDepth 100000 in
theorem maps_Acting.calls (k : Nat) (x0_ : T_api_Map) (x1_ : Int) (A0_4 : Option Addr) (c0_4 : Nat) (A0_5 : Option Addr) (c0_5 : Nat) (A0_6 : Option Addr) (c0_6 : Nat) (r : List Int) (W F : World) (hown : Sub F W) (g0_4 : Rd T_api_Node.k F A0_4 c0_4 x0_.f4) (g0_5 : Rd T_api_Temp.k F A0_5 c0_5 x0_.f5) (g0_6 : Rd T_api_Trail.k F A0_6 c0_6 x0_.f6) (H : maps_Acting.f k x0_ x1_ = some r) :
    Calls Tryz.prog 24 #[.agg #[.int .i64 x0_.f0, .int .i64 x0_.f1, .int .i64 x0_.f2, .int .i64 x0_.f3, .slice A0_4 x0_.f4.length c0_4, .slice A0_5 x0_.f5.length c0_5, .slice A0_6 x0_.f6.length c0_6], .int .i64 x1_] W fun e w' => ∃ v, e = .returned v ∧ maps_Acting.Post W F r v w' := by
  have hS := St.start (Own.nil hown)
  unfold maps_Acting.f at H
  refine enter (n := 10) rfl rfl rfl (Nat.le_of_ble_eq_true rfl) (fun a hE => ?_)
  refine wp_seq_k fun K1 hK1 => ?_
  refine pl0 ?_
  refine ple hE (.bx (t := 26) hS [.int .i64 x0_.f0, .int .i64 x0_.f1, .int .i64 x0_.f2, .int .i64 x0_.f3, .slice A0_4 x0_.f4.length c0_4, .slice A0_5 x0_.f5.length c0_5, .slice A0_6 x0_.f6.length c0_6]) ?_
  rintro _ u3 a ⟨b2, rfl, hb2, hS, hg⟩ hE
  refine plc hE (.r 1 1 .nil) (fun a hE => ?_)
  refine pld ?_
  refine hK1 _ _ ?_
  refine wp_seq_k fun K4 hK4 => ?_
  refine drawn 6 ⟨[4], [], fun q => False⟩ mixed rfl (by kernel_rfl) (fun hst => ?_)
  replace hS := hS.drew
  have hb2 := hS.blk_at (i := 0) rfl
  refine mny 3 hst hE (.bn 0 0 7 hb2 <| .bn 1 0 7 hb2 <| .r 2 1 <| .nil) (fun a hE => ?_)
  obtain ⟨t6, h7, H⟩ := Option.bind_eq_some_iff.mp H
  refine on1 3 hE (.cl en22 (maps_Raw.calls k x0_ x1_ _ _ _ _ _ _ _ _ _ hS.own.sub g0_4 g0_5 g0_6 h7)) ?_
  rintro _ u5 a ⟨F8, A9, c10, rfl, hC⟩ hE
  refine ⟨.of hC.agr, ?_⟩
  have hs := hC.sub
  replace hS := hS.called (X := []) hC
  replace g0_4 := g0_4.mono hs
  replace g0_5 := g0_5.mono hs
  replace g0_6 := g0_6.mono hs
  obtain ⟨t14, h15, H⟩ := Option.bind_eq_some_iff.mp H
  refine on1 4 hE (.cl en74 (maps_up.calls k x0_ t6 _ _ _ _ _ _ _ _ _ _ _ (Own.left (X := [row (Kn.int .i64) 3 (.slice A9 t6.length c10) t6]) hS.own) g0_4 g0_5 g0_6 h15)) ?_
  rintro _ u13 a ⟨F16, A17, c18, rfl, hC⟩ hE
  refine ⟨.d, ?_⟩
  have hs := hC.sub
  replace hS := hS.called (X := [row (Kn.int .i64) 3 (.slice A9 t6.length c10) t6]) hC
  replace g0_4 := g0_4.mono hs
  replace g0_5 := g0_5.mono hs
  replace g0_6 := g0_6.mono hs
  refine mny 0 hst hE (.r 5 1 .nil) (fun a hE => ?_)
  refine dn ?_
  refine hK4 _ _ ?_
  refine wp_ret ?_
  replace hS := hS.front 1 rfl
  replace hS := hS.tail
  obtain rfl := Option.some.inj H
  exact rt1 hE ⟨_, rfl, _, _, _, rfl, hS⟩

/-! ### windrose/windroselaw08.awake: function 17 -/
def windroselaw08_awake.f (k : Nat) : Option Bool := (maps_New.f k 3 2 4).bind fun t4 => ((maps_Apply.f k t4.1 (⟨1, 5, 1, 1, 3, 0, []⟩ : T_api_Delta)).bind fun t24 => ((maps_Apply.f k t24.1 (⟨3, 5, 0, 0, 0, 0, []⟩ : T_api_Delta)).bind fun t42 => (if t4.2 = 0 then (if t24.2 = 0 then (if t42.2 = 0 then (if t42.1.f0 = 2 then ((maps_Raw.f k t24.1 0).bind fun t64 => ((windroseref02_Ints.f k t64 [5]).bind fun t76 => (if t76 = true then ((maps_Acting.f k t24.1 0).bind fun t80 => (if (t80.length : Int) = 0 then ((maps_Acting.f k t42.1 0).bind fun t91 => ((windroseref02_Ints.f k t91 [5]).bind fun t103 => (some t103))) else (some false))) else (some false)))) else (some false)) else (some false)) else (some false)) else (some false))))
def windroselaw08_awake.Post (W F : World) (r : Bool) (v : Value) (w' : World) : Prop := ∃ (F' : World), v = .bool r ∧ St W (mine W []) F w' F' []
set_option maxHeartbeats 4000000 in
set_option maxRecDepth 100000 in
theorem windroselaw08_awake.calls (k : Nat) (r : Bool) (W F : World) (hown : Sub F W) (H : windroselaw08_awake.f k = some r) :
    Calls Tryz.prog 17 #[] W fun e w' => ∃ v, e = .returned v ∧ windroselaw08_awake.Post W F r v w' := by
  have hS := St.start (Own.nil hown)
  unfold windroselaw08_awake.f at H
  refine enter (n := 55) rfl rfl rfl (Nat.le_of_ble_eq_true rfl) (fun a hE => ?_)
  refine wp_seq_k fun K1 hK1 => ?_
  refine pl0 ?_
  refine plc hE (.r 0 1 .nil) (fun a hE => ?_)
  refine pld ?_
  refine hK1 _ _ ?_
  refine wp_seq_k fun K2 hK2 => ?_
  refine pl0 ?_
  obtain ⟨t4, h5, H⟩ := Option.bind_eq_some_iff.mp H
  refine ple hE (.cl en15 (maps_New.calls k 3 2 4 _ _ _ hS.own.sub h5)) ?_
  rintro _ u3 a ⟨F6, A7, c8, A10, c11, A13, c14, rfl, hC, g9, g12⟩ hE
  have hs := hC.sub
  replace hS := hS.called (X := []) hC
  refine plc hE (.r 1 3 .nil) (fun a hE => ?_)
  refine ple hE (.al (t := 26) hS [.int .i64 0, .int .i64 0, .int .i64 0, .int .i64 0, .slice none 0 0, .slice none 0 0, .slice none 0 0]) ?_
  rintro _ u18 a ⟨b17, rfl, hb17, hS, hg⟩ hE
  refine ple hE (.sto hS [.int .i64 t4.1.f0, .int .i64 t4.1.f1, .int .i64 t4.1.f2, .int .i64 t4.1.f3, .slice A7 t4.1.f4.length c8, .slice A10 t4.1.f5.length c11, .slice A13 t4.1.f6.length c14]) ?_
  rintro _ u19 a ⟨rfl, hb17, hS, hz⟩ hE
  refine plc hE (.r 6 1 .nil) (fun a hE => ?_)
  refine pld ?_
  refine hK2 _ _ ?_
  refine wp_seq_k fun K20 hK20 => ?_
  refine pl0 ?_
  refine plc hE (.bn 0 0 7 hb17 <| .r 1 1 <| .nil) (fun a hE => ?_)
  replace hS := hS.front 1 rfl
  obtain ⟨F21, hs, g22, hS⟩ := hS.give
  replace g9 := g9.mono hs
  replace g12 := g12.mono hs
  obtain ⟨t24, h25, H⟩ := Option.bind_eq_some_iff.mp H
  refine ple hE (.cl en26 (maps_Apply.calls k t4.1 (⟨1, 5, 1, 1, 3, 0, []⟩ : T_api_Delta) _ _ _ _ _ _ _ _ _ _ _ hS.own.sub g9 g12 g22 (Rd.nil _ _) h25)) ?_
  rintro _ u23 a ⟨F26, A27, c28, A30, c31, A33, c34, rfl, hC, g29, g32⟩ hE
  have hs := hC.sub
  replace hS := hS.called (X := []) hC
  replace g9 := g9.mono hs
  replace g12 := g12.mono hs
  replace g22 := g22.mono hs
  refine plc hE (.r 3 3 .nil) (fun a hE => ?_)
  replace hS := hS.front 1 rfl
  refine ple hE (.sto hS [.int .i64 t24.1.f0, .int .i64 t24.1.f1, .int .i64 t24.1.f2, .int .i64 t24.1.f3, .slice A27 t24.1.f4.length c28, .slice A30 t24.1.f5.length c31, .slice A33 t24.1.f6.length c34]) ?_
  rintro _ u37 a ⟨rfl, hb17, hS, hz⟩ hE
  refine plc hE (.r 7 1 .nil) (fun a hE => ?_)
  refine pld ?_
  refine hK20 _ _ ?_
  refine wp_seq_k fun K38 hK38 => ?_
  refine pl0 ?_
  refine plc hE (.bn 0 0 7 hb17 <| .r 1 1 <| .nil) (fun a hE => ?_)
  replace hS := hS.front 1 rfl
  obtain ⟨F39, hs, g40, hS⟩ := hS.give
  replace g9 := g9.mono hs
  replace g12 := g12.mono hs
  replace g22 := g22.mono hs
  replace g29 := g29.mono hs
  replace g32 := g32.mono hs
  obtain ⟨t42, h43, H⟩ := Option.bind_eq_some_iff.mp H
  refine ple hE (.cl en26 (maps_Apply.calls k t24.1 (⟨3, 5, 0, 0, 0, 0, []⟩ : T_api_Delta) _ _ _ _ _ _ _ _ _ _ _ hS.own.sub g29 g32 g40 (Rd.nil _ _) h43)) ?_
  rintro _ u41 a ⟨F44, A45, c46, A48, c49, A51, c52, rfl, hC, g47, g50⟩ hE
  have hs := hC.sub
  replace hS := hS.called (X := []) hC
  replace g9 := g9.mono hs
  replace g12 := g12.mono hs
  replace g22 := g22.mono hs
  replace g29 := g29.mono hs
  replace g32 := g32.mono hs
  replace g40 := g40.mono hs
  refine plc hE (.r 3 3 .nil) (fun a hE => ?_)
  refine ple hE (.al (t := 26) hS [.int .i64 0, .int .i64 0, .int .i64 0, .int .i64 0, .slice none 0 0, .slice none 0 0, .slice none 0 0]) ?_
  rintro _ u56 a ⟨b55, rfl, hb55, hS, hg⟩ hE
  refine ple hE (.sto hS [.int .i64 t42.1.f0, .int .i64 t42.1.f1, .int .i64 t42.1.f2, .int .i64 t42.1.f3, .slice A45 t42.1.f4.length c46, .slice A48 t42.1.f5.length c49, .slice A51 t42.1.f6.length c52]) ?_
  rintro _ u57 a ⟨rfl, hb55, hS, hz⟩ hE
  refine plc hE (.r 8 1 .nil) (fun a hE => ?_)
  refine pld ?_
  refine hK38 _ _ ?_
  refine wp_seq_k fun K58 hK58 => ?_
  refine pl0 ?_
  refine plc hE (.r 0 3 .nil) (fun a hE => ?_)
  by_cases c59 : t4.2 = 0
  · rw [if_pos c59] at H
    replace hE := hE.kt 24 c59
    refine plc hE (.r 3 4 .nil) (fun a hE => ?_)
    by_cases c60 : t24.2 = 0
    · rw [if_pos c60] at H
      replace hE := hE.kt 28 c60
      refine plc hE (.r 7 4 .nil) (fun a hE => ?_)
      by_cases c61 : t42.2 = 0
      · rw [if_pos c61] at H
        replace hE := hE.kt 32 c61
        refine plc hE (.r 11 1 <| .b 12 0 hb55 <| .r 13 3 <| .nil) (fun a hE => ?_)
        by_cases c62 : t42.1.f0 = 2
        · rw [if_pos c62] at H
          replace hE := hE.kt 37 c62
          have hb17 := hS.blk_at (i := 2) rfl
          refine plc hE (.bn 16 0 7 hb17 .nil) (fun a hE => ?_)
          obtain ⟨t64, h65, H⟩ := Option.bind_eq_some_iff.mp H
          refine ple hE (.cl en22 (maps_Raw.calls k t24.1 0 _ _ _ _ _ _ _ _ _ hS.own.sub g29 g32 g40 h65)) ?_
          rintro _ u63 a ⟨F66, A67, c68, rfl, hC⟩ hE
          have hs := hC.sub
          replace hS := hS.called (X := []) hC
          replace g9 := g9.mono hs
          replace g12 := g12.mono hs
          replace g22 := g22.mono hs
          replace g29 := g29.mono hs
          replace g32 := g32.mono hs
          replace g40 := g40.mono hs
          replace g47 := g47.mono hs
          replace g50 := g50.mono hs
          refine ple hE (.lit (d := (Kn.int .i64)) (e := 3) hS [5] (.cons rfl .nil)) ?_
          rintro _ u71 a ⟨A72, c73, rfl, hS, hg⟩ hE
          obtain ⟨t76, h77, H⟩ := Option.bind_eq_some_iff.mp H
          refine ple hE (.cl en21 (windroseref02_Ints.calls k t64 [5] _ _ _ _ _ _ _ (Sub.refl _) (hS.rd_at (i := 1) rfl) (hS.rd_at (i := 0) rfl) h77)) ?_
          rintro _ u75 a ⟨_, rfl, hC⟩ hE
          replace hS := hS.lent hC
          refine plc hE (.r 20 2 .nil) (fun a hE => ?_)
          by_cases c78 : t76 = true
          · rw [if_pos c78] at H
            replace hE := hE.bt 43 c78
            have hb17 := hS.blk_at (i := 4) rfl
            refine plc hE (.bn 22 0 7 hb17 .nil) (fun a hE => ?_)
            obtain ⟨t80, h81, H⟩ := Option.bind_eq_some_iff.mp H
            refine ple hE (.cl en24 (maps_Acting.calls k t24.1 0 _ _ _ _ _ _ _ _ _ hS.own.sub g29 g32 g40 h81)) ?_
            rintro _ u79 a ⟨F82, A83, c84, rfl, hC⟩ hE
            have hs := hC.sub
            replace hS := hS.called (X := []) hC
            replace g9 := g9.mono hs
            replace g12 := g12.mono hs
            replace g22 := g22.mono hs
            replace g29 := g29.mono hs
            replace g32 := g32.mono hs
            replace g40 := g40.mono hs
            replace g47 := g47.mono hs
            replace g50 := g50.mono hs
            refine plc hE (.r 24 4 .nil) (fun a hE => ?_)
            by_cases c87 : (t80.length : Int) = 0
            · rw [if_pos c87] at H
              replace hE := hE.kt 49 c87
              have hb55 := hS.blk_at (i := 3) rfl
              refine plc hE (.bn 28 0 7 hb55 .nil) (fun a hE => ?_)
              replace hS := hS.front 4 rfl
              obtain ⟨F88, hs, g89, hS⟩ := hS.give
              replace g9 := g9.mono hs
              replace g12 := g12.mono hs
              replace g22 := g22.mono hs
              replace g29 := g29.mono hs
              replace g32 := g32.mono hs
              replace g40 := g40.mono hs
              replace g47 := g47.mono hs
              replace g50 := g50.mono hs
              obtain ⟨t91, h92, H⟩ := Option.bind_eq_some_iff.mp H
              refine ple hE (.cl en24 (maps_Acting.calls k t42.1 0 _ _ _ _ _ _ _ _ _ hS.own.sub g47 g50 g89 h92)) ?_
              rintro _ u90 a ⟨F93, A94, c95, rfl, hC⟩ hE
              have hs := hC.sub
              replace hS := hS.called (X := []) hC
              replace g9 := g9.mono hs
              replace g12 := g12.mono hs
              replace g22 := g22.mono hs
              replace g29 := g29.mono hs
              replace g32 := g32.mono hs
              replace g40 := g40.mono hs
              replace g47 := g47.mono hs
              replace g50 := g50.mono hs
              replace g89 := g89.mono hs
              refine ple hE (.lit (d := (Kn.int .i64)) (e := 3) hS [5] (.cons rfl .nil)) ?_
              rintro _ u98 a ⟨A99, c100, rfl, hS, hg⟩ hE
              obtain ⟨t103, h104, H⟩ := Option.bind_eq_some_iff.mp H
              refine ple hE (.cl en21 (windroseref02_Ints.calls k t91 [5] _ _ _ _ _ _ _ (Sub.refl _) (hS.rd_at (i := 1) rfl) (hS.rd_at (i := 0) rfl) h104)) ?_
              rintro _ u102 a ⟨_, rfl, hC⟩ hE
              replace hS := hS.lent hC
              refine plc hE (.r 32 2 .nil) (fun a hE => ?_)
              refine pld ?_
              refine hK58 _ _ ?_
              refine wp_ret ?_
              replace hS := hS.tail
              replace hS := hS.tail
              replace hS := hS.tail
              replace hS := hS.tail
              replace hS := hS.tail
              replace hS := hS.tail
              replace hS := hS.tail
              obtain rfl := Option.some.inj H
              exact rt1 hE ⟨_, rfl, _, rfl, hS⟩
            · rw [if_neg c87] at H
              replace hE := hE.kf 49 c87
              refine plc hE (.r 28 6 .nil) (fun a hE => ?_)
              refine pld ?_
              refine hK58 _ _ ?_
              refine wp_ret ?_
              replace hS := hS.tail
              replace hS := hS.tail
              replace hS := hS.tail
              replace hS := hS.tail
              replace hS := hS.tail
              replace hS := hS.tail
              obtain rfl := Option.some.inj H
              exact rt1 hE ⟨_, rfl, _, rfl, hS⟩
          · rw [if_neg c78] at H
            replace hE := hE.bf 43 c78
            refine plc hE (.r 22 12 .nil) (fun a hE => ?_)
            refine pld ?_
            refine hK58 _ _ ?_
            refine wp_ret ?_
            replace hS := hS.tail
            replace hS := hS.tail
            replace hS := hS.tail
            replace hS := hS.tail
            replace hS := hS.tail
            obtain rfl := Option.some.inj H
            exact rt1 hE ⟨_, rfl, _, rfl, hS⟩
        · rw [if_neg c62] at H
          replace hE := hE.kf 37 c62
          refine plc hE (.r 16 18 .nil) (fun a hE => ?_)
          refine pld ?_
          refine hK58 _ _ ?_
          refine wp_ret ?_
          replace hS := hS.tail
          replace hS := hS.tail
          replace hS := hS.tail
          obtain rfl := Option.some.inj H
          exact rt1 hE ⟨_, rfl, _, rfl, hS⟩
      · rw [if_neg c61] at H
        replace hE := hE.kf 32 c61
        refine plc hE (.r 11 23 .nil) (fun a hE => ?_)
        refine pld ?_
        refine hK58 _ _ ?_
        refine wp_ret ?_
        replace hS := hS.tail
        replace hS := hS.tail
        replace hS := hS.tail
        obtain rfl := Option.some.inj H
        exact rt1 hE ⟨_, rfl, _, rfl, hS⟩
    · rw [if_neg c60] at H
      replace hE := hE.kf 28 c60
      refine plc hE (.r 7 27 .nil) (fun a hE => ?_)
      refine pld ?_
      refine hK58 _ _ ?_
      refine wp_ret ?_
      replace hS := hS.tail
      replace hS := hS.tail
      replace hS := hS.tail
      obtain rfl := Option.some.inj H
      exact rt1 hE ⟨_, rfl, _, rfl, hS⟩
  · rw [if_neg c59] at H
    replace hE := hE.kf 24 c59
    refine plc hE (.r 3 31 .nil) (fun a hE => ?_)
    refine pld ?_
    refine hK58 _ _ ?_
    refine wp_ret ?_
    replace hS := hS.tail
    replace hS := hS.tail
    replace hS := hS.tail
    obtain rfl := Option.some.inj H
    exact rt1 hE ⟨_, rfl, _, rfl, hS⟩

/-! ### windrose/windroseref08.New: function 18 -/
def windroseref08_New.f (x0_ : Int) (x1_ : Int) (x2_ : Int) : Option T_api_Map := if 0 ≤ x2_ ∧ x2_ * 32 ≤ 140737488355328 then (some (⟨0, x0_, x1_, x2_, [], [], (List.replicate (x2_).toNat (T_api_Trail.z : T_api_Trail))⟩ : T_api_Map)) else (none)
def windroseref08_New.Post (W F : World) (r : T_api_Map) (v : Value) (w' : World) : Prop := ∃ (F' : World) (RA0_4 : Option Addr) (rc0_4 : Nat) (RA0_5 : Option Addr) (rc0_5 : Nat) (RA0_6 : Option Addr) (rc0_6 : Nat), v = .agg #[.int .i64 r.f0, .int .i64 r.f1, .int .i64 r.f2, .int .i64 r.f3, .slice RA0_4 r.f4.length rc0_4, .slice RA0_5 r.f5.length rc0_5, .slice RA0_6 r.f6.length rc0_6] ∧ St W (mine W []) F w' F' [row T_api_Trail.k 49 (.slice RA0_6 r.f6.length rc0_6) r.f6] ∧ Rd T_api_Node.k F' RA0_4 rc0_4 r.f4 ∧ Rd T_api_Temp.k F' RA0_5 rc0_5 r.f5
set_option maxHeartbeats 4000000 in
set_option maxRecDepth 100000 in
theorem windroseref08_New.calls (x0_ : Int) (x1_ : Int) (x2_ : Int) (r : T_api_Map) (W F : World) (hown : Sub F W) (H : windroseref08_New.f x0_ x1_ x2_ = some r) :
    Calls Tryz.prog 18 #[.int .i64 x0_, .int .i64 x1_, .int .i64 x2_] W fun e w' => ∃ v, e = .returned v ∧ windroseref08_New.Post W F r v w' := by
  have hS := St.start (Own.nil hown)
  unfold windroseref08_New.f at H
  refine enter (n := 13) rfl rfl rfl (Nat.le_of_ble_eq_true rfl) (fun a hE => ?_)
  refine wp_seq_k fun K1 hK1 => ?_
  refine pl0 ?_
  refine ple hE (.al (t := 26) hS [.int .i64 0, .int .i64 0, .int .i64 0, .int .i64 0, .slice none 0 0, .slice none 0 0, .slice none 0 0]) ?_
  rintro _ u3 a ⟨b2, rfl, hb2, hS, hg⟩ hE
  refine pld ?_
  refine hK1 _ _ ?_
  refine wp_seq_k fun K4 hK4 => ?_
  refine pl0 ?_
  refine plc hE (.r 0 4 .nil) (fun a hE => ?_)
  by_cases c5 : 0 ≤ x2_ ∧ x2_ * 32 ≤ 140737488355328
  rotate_left
  · rw [if_neg c5] at H; cases H
  rw [if_pos c5] at H
  refine ple hE (.mk (d := T_api_Trail.k) (e := 49) 32 T_api_Trail.z hS c5 (by rw [zr49]; exact ⟨none, 0, rfl, Rd.nil _ _⟩)) ?_
  rintro _ u8 a ⟨A6, c7, rfl, hS, hg⟩ hE
  refine plc hE (.r 5 1 .nil) (fun a hE => ?_)
  replace hS := hS.front 1 rfl
  refine ple hE (.sto hS [.int .i64 0, .int .i64 x0_, .int .i64 x1_, .int .i64 x2_, .slice none 0 0, .slice none 0 0, .slice A6 ((List.replicate (x2_).toNat (T_api_Trail.z : T_api_Trail)).length) c7]) ?_
  rintro _ u10 a ⟨rfl, hb2, hS, hz⟩ hE
  refine pld ?_
  refine hK4 _ _ ?_
  refine wp_ret ?_
  replace hS := hS.tail
  obtain rfl := Option.some.inj H
  exact ret1 hE rfl (.cell (by kernel_rfl) (res_blk [.int .i64 0, .int .i64 x0_, .int .i64 x1_, .int .i64 x2_, .slice none 0 0, .slice none 0 0, .slice A6 ((List.replicate (x2_).toNat (T_api_Trail.z : T_api_Trail)).length) c7] ag26 sz26 hb2 rfl) .nil) ⟨_, rfl, _, _, _, _, _, _, _, rfl, hS, (Rd.nil _ _), (Rd.nil _ _)⟩

/-! ### windrose/windroseref06.May: function 67 -/
mutual
def windroseref06_May.l5 : Nat → List T_api_Node → Int → Option Bool
  | 0, _, _ => none
  | k + 1, x0_, x4 => if x4 < (x0_.length : Int) then (if 0 ≤ x4 ∧ x4 < (x0_.length : Int) then (if (nth T_api_Node.z x0_ x4).f0 < 1 then (windroseref06_May.j37 k x0_ x4 true) else (if (nth T_api_Node.z x0_ x4).f0 > 999 then (windroseref06_May.j37 k x0_ x4 true) else (if (nth T_api_Node.z x0_ x4).f1 < 1 then (windroseref06_May.j37 k x0_ x4 true) else (if (nth T_api_Node.z x0_ x4).f1 > 9 then (windroseref06_May.j37 k x0_ x4 true) else (if (nth T_api_Node.z x0_ x4).f2 < 1 then (windroseref06_May.j37 k x0_ x4 true) else (if (nth T_api_Node.z x0_ x4).f2 > 9 then (windroseref06_May.j37 k x0_ x4 true) else (if (nth T_api_Node.z x0_ x4).f3 < 0 then (windroseref06_May.j37 k x0_ x4 true) else (if (nth T_api_Node.z x0_ x4).f3 > 65536 then (windroseref06_May.j37 k x0_ x4 true) else (if x4 > 0 then (if 0 ≤ (w64 (x4 - 1)) ∧ (w64 (x4 - 1)) < (x0_.length : Int) then (windroseref06_May.j37 k x0_ x4 (decide ((nth T_api_Node.z x0_ (w64 (x4 - 1))).f0 ≥ (nth T_api_Node.z x0_ x4).f0))) else (none)) else (windroseref06_May.j37 k x0_ x4 false)))))))))) else (none)) else (some (decide ((x0_.length : Int) ≤ 12)))
def windroseref06_May.j37 : Nat → List T_api_Node → Int → Bool → Option Bool
  | 0, _, _, _ => none
  | k + 1, x0_, x4, y36 => if y36 = true then (some false) else (windroseref06_May.l5 k x0_ (w64 (x4 + 1)))
end
theorem windroseref06_May.l5_s (k : Nat) (x0_ : List T_api_Node) (x4 : Int) : windroseref06_May.l5 (k + 1) x0_ x4 = (if x4 < (x0_.length : Int) then (if 0 ≤ x4 ∧ x4 < (x0_.length : Int) then (if (nth T_api_Node.z x0_ x4).f0 < 1 then (windroseref06_May.j37 k x0_ x4 true) else (if (nth T_api_Node.z x0_ x4).f0 > 999 then (windroseref06_May.j37 k x0_ x4 true) else (if (nth T_api_Node.z x0_ x4).f1 < 1 then (windroseref06_May.j37 k x0_ x4 true) else (if (nth T_api_Node.z x0_ x4).f1 > 9 then (windroseref06_May.j37 k x0_ x4 true) else (if (nth T_api_Node.z x0_ x4).f2 < 1 then (windroseref06_May.j37 k x0_ x4 true) else (if (nth T_api_Node.z x0_ x4).f2 > 9 then (windroseref06_May.j37 k x0_ x4 true) else (if (nth T_api_Node.z x0_ x4).f3 < 0 then (windroseref06_May.j37 k x0_ x4 true) else (if (nth T_api_Node.z x0_ x4).f3 > 65536 then (windroseref06_May.j37 k x0_ x4 true) else (if x4 > 0 then (if 0 ≤ (w64 (x4 - 1)) ∧ (w64 (x4 - 1)) < (x0_.length : Int) then (windroseref06_May.j37 k x0_ x4 (decide ((nth T_api_Node.z x0_ (w64 (x4 - 1))).f0 ≥ (nth T_api_Node.z x0_ x4).f0))) else (none)) else (windroseref06_May.j37 k x0_ x4 false)))))))))) else (none)) else (some (decide ((x0_.length : Int) ≤ 12)))) := by kernel_rfl
theorem windroseref06_May.j37_s (k : Nat) (x0_ : List T_api_Node) (x4 : Int) (y36 : Bool) : windroseref06_May.j37 (k + 1) x0_ x4 y36 = (if y36 = true then (some false) else (windroseref06_May.l5 k x0_ (w64 (x4 + 1)))) := by kernel_rfl
def windroseref06_May.f (k : Nat) (x0_ : List T_api_Node) : Option Bool := windroseref06_May.l5 k x0_ 0
def windroseref06_May.Post (W F : World) (r : Bool) (v : Value) (w' : World) : Prop := ∃ (F' : World), v = .bool r ∧ St W (mine W []) F w' F' []
set_option maxHeartbeats 4000000 in
set_option maxRecDepth 100000 in
theorem windroseref06_May.calls (k : Nat) (x0_ : List T_api_Node) (A0_0 : Option Addr) (c0_0 : Nat) (r : Bool) (W F : World) (hown : Sub F W) (g0_0 : Rd T_api_Node.k F A0_0 c0_0 x0_) (H : windroseref06_May.f k x0_ = some r) :
    Calls Tryz.prog 67 #[.slice A0_0 x0_.length c0_0] W fun e w' => ∃ v, e = .returned v ∧ windroseref06_May.Post W F r v w' := by
  have hS := St.start (Own.nil hown)
  unfold windroseref06_May.f at H
  refine enter (n := 71) rfl rfl rfl (Nat.le_of_ble_eq_true rfl) (fun a hE => ?_)
  refine wp_seq_k fun K1 hK1 => ?_
  refine pl0 ?_
  refine plc hE (.r 0 1 .nil) (fun a hE => ?_)
  refine pld ?_
  refine hK1 _ _ ?_
  refine wp_seq_k fun K2 hK2 => ?_
  refine wp_seq_k fun K3 hK3 => ?_
  refine pl0 ?_
  refine plc hE (.r 0 1 .nil) (fun a hE => ?_)
  refine pld ?_
  refine hK3 _ _ ?_
  refine wp_block ?_
  refine wp_loop_ghost (fun kq6 a w' => ∃ (G : Nat → Value) (x4 : Int), kq6 ≤ k ∧ Env 71 G a ∧ At G [(0, .slice A0_0 x0_.length c0_0), (3, .int .i64 x4)] ∧ St W (mine W []) F w' F [] ∧  windroseref06_May.l5 kq6 x0_ x4 = some r) k ⟨_, 0, Nat.le_refl _, hE, .of, hS, H⟩ ?_
  rintro kq6 a u8 ⟨G, x4, hkq, hE, hA, hS, H⟩
  cases kq6 with
  | zero => cases (show none = some r from H)
  | succ k7 =>
    rw [windroseref06_May.l5_s] at H
    obtain ⟨J, hE⟩ := hE.at hA
    refine wp_seq_k fun K9 hK9 => ?_
    refine wp_seq_k fun K10 hK10 => ?_
    refine pl0 ?_
    refine plc hE (.r 0 4 .nil) (fun a hE => ?_)
    refine pld ?_
    refine hK10 _ _ ?_
    by_cases c11 : x4 < (x0_.length : Int)
    · rw [if_pos c11] at H
      replace hE := hE.kt 8 c11
      refine ct hE ?_
      refine wp_skip ?_
      refine hK9 _ _ ?_
      refine wp_seq_k fun K12 hK12 => ?_
      refine wp_block ?_
      refine wp_seq_k fun K13 hK13 => ?_
      refine pl0 ?_
      by_cases c14 : 0 ≤ x4 ∧ x4 < (x0_.length : Int)
      rotate_left
      · rw [if_neg c14] at H; cases H
      rw [if_pos c14] at H
      have hE_ := hE
      obtain ⟨ad15, rfl⟩ := g0_0.addr c14.1 c14.2
      replace hE := hE_
      obtain ⟨cs17, rfl, hc18⟩ := g0_0.el T_api_Node.z x4 c14.1 c14.2
      refine plc hE (.r 0 2 <| .x 2 c14 <| .cs 3 (hS.fcs hc18) <| .nil) (fun a hE => ?_)
      refine ple hE (.al (t := 104) hS [.int .i64 0, .int .i64 0, .int .i64 0, .int .i64 0, .bool false, .bool false]) ?_
      rintro _ u20 a ⟨b19, rfl, hb19, hS, hg⟩ hE
      refine ple hE (.sto hS [.int .i64 ((nth T_api_Node.z x0_ x4).f0), .int .i64 ((nth T_api_Node.z x0_ x4).f1), .int .i64 ((nth T_api_Node.z x0_ x4).f2), .int .i64 ((nth T_api_Node.z x0_ x4).f3), .bool ((nth T_api_Node.z x0_ x4).f4), .bool ((nth T_api_Node.z x0_ x4).f5)]) ?_
      rintro _ u21 a ⟨rfl, hb19, hS, hz⟩ hE
      refine pld ?_
      refine hK13 _ _ ?_
      refine wp_seq_k fun K22 hK22 => ?_
      have J40 : ∀ kq38, kq38 ≤ k7 → ∀ (G : Nat → Value) (y36 : Bool) (a : Act) (w' : World), Env 71 G a → At G [(0, .slice (some ad15) x0_.length c0_0), (3, .int .i64 x4), (67, .bool y36)] → St W (mine W []) F w' F [box b19 #[.int .i64 ((nth T_api_Node.z x0_ x4).f0), .int .i64 ((nth T_api_Node.z x0_ x4).f1), .int .i64 ((nth T_api_Node.z x0_ x4).f2), .int .i64 ((nth T_api_Node.z x0_ x4).f3), .bool ((nth T_api_Node.z x0_ x4).f4), .bool ((nth T_api_Node.z x0_ x4).f5)] 104] → windroseref06_May.j37 kq38 x0_ x4 y36 = some r → K22 a w' := by
        intro kq38 hkq G y36 a u41 hE hA hS H
        cases kq38 with
        | zero => cases (show none = some r from H)
        | succ k39 =>
          rw [windroseref06_May.j37_s] at H
          obtain ⟨J, hE⟩ := hE.at hA
          refine hK22 _ _ ?_
          by_cases c42 : y36 = true
          · rw [if_pos c42] at H
            replace hE := hE.bt 67 c42
            refine ct hE ?_
            refine wp_seq_k fun K43 hK43 => ?_
            refine pl0 ?_
            refine plc hE (.r 0 1 .nil) (fun a hE => ?_)
            refine pld ?_
            refine hK43 _ _ ?_
            refine wp_ret (block_ret (then_ret (then_ret (block_ret (then_ret ?_)))))
            replace hS := hS.tail
            obtain rfl := Option.some.inj H
            exact rt1 hE ⟨_, rfl, _, rfl, hS⟩
          · rw [if_neg c42] at H
            replace hE := hE.bf 67 c42
            refine cf hE ?_
            refine wp_skip ?_
            refine block_n ?_
            refine hK12 _ _ ?_
            refine pl0 ?_
            refine plc hE (.r 0 3 .nil) (fun a hE => ?_)
            refine pld ?_
            replace hS := hS.tail
            exact then_n ⟨k39, by omega, _, (w64 (x4 + 1)), by omega, hE, .of, hS, H⟩
      refine drawn 53 ⟨[], [], fun q => False⟩ mixed rfl (by kernel_rfl) (fun hst => ?_)
      replace hS := hS.drew
      have hb19 := hS.blk_at (i := 0) rfl
      refine mny 49 hst hE (.r 0 1 <| .b 1 0 hb19 <| .r 2 2 <| .nil) (fun a hE => ?_)
      by_cases c23 : (nth T_api_Node.z x0_ x4).f0 < 1
      · rw [if_pos c23] at H
        replace hE := hE.kt 18 c23
        refine mny 0 hst hE (.r 4 49 .nil) (fun a hE => ?_)
        refine dn ?_
        exact J40 _ (by omega) _ true _ _ hE .of hS H
      · rw [if_neg c23] at H
        replace hE := hE.kf 18 c23
        refine mny 44 hst hE (.r 4 1 <| .b 5 0 hb19 <| .r 6 3 <| .nil) (fun a hE => ?_)
        by_cases c24 : (nth T_api_Node.z x0_ x4).f0 > 999
        · rw [if_pos c24] at H
          replace hE := hE.kt 23 c24
          refine mny 0 hst hE (.r 9 44 .nil) (fun a hE => ?_)
          refine dn ?_
          exact J40 _ (by omega) _ true _ _ hE .of hS H
        · rw [if_neg c24] at H
          replace hE := hE.kf 23 c24
          refine mny 39 hst hE (.r 9 1 <| .b 10 1 hb19 <| .r 11 3 <| .nil) (fun a hE => ?_)
          by_cases c25 : (nth T_api_Node.z x0_ x4).f1 < 1
          · rw [if_pos c25] at H
            replace hE := hE.kt 28 c25
            refine mny 0 hst hE (.r 14 39 .nil) (fun a hE => ?_)
            refine dn ?_
            exact J40 _ (by omega) _ true _ _ hE .of hS H
          · rw [if_neg c25] at H
            replace hE := hE.kf 28 c25
            refine mny 34 hst hE (.r 14 1 <| .b 15 1 hb19 <| .r 16 3 <| .nil) (fun a hE => ?_)
            by_cases c26 : (nth T_api_Node.z x0_ x4).f1 > 9
            · rw [if_pos c26] at H
              replace hE := hE.kt 33 c26
              refine mny 0 hst hE (.r 19 34 .nil) (fun a hE => ?_)
              refine dn ?_
              exact J40 _ (by omega) _ true _ _ hE .of hS H
            · rw [if_neg c26] at H
              replace hE := hE.kf 33 c26
              refine mny 29 hst hE (.r 19 1 <| .b 20 2 hb19 <| .r 21 3 <| .nil) (fun a hE => ?_)
              by_cases c27 : (nth T_api_Node.z x0_ x4).f2 < 1
              · rw [if_pos c27] at H
                replace hE := hE.kt 38 c27
                refine mny 0 hst hE (.r 24 29 .nil) (fun a hE => ?_)
                refine dn ?_
                exact J40 _ (by omega) _ true _ _ hE .of hS H
              · rw [if_neg c27] at H
                replace hE := hE.kf 38 c27
                refine mny 24 hst hE (.r 24 1 <| .b 25 2 hb19 <| .r 26 3 <| .nil) (fun a hE => ?_)
                by_cases c28 : (nth T_api_Node.z x0_ x4).f2 > 9
                · rw [if_pos c28] at H
                  replace hE := hE.kt 43 c28
                  refine mny 0 hst hE (.r 29 24 .nil) (fun a hE => ?_)
                  refine dn ?_
                  exact J40 _ (by omega) _ true _ _ hE .of hS H
                · rw [if_neg c28] at H
                  replace hE := hE.kf 43 c28
                  refine mny 19 hst hE (.r 29 1 <| .b 30 3 hb19 <| .r 31 3 <| .nil) (fun a hE => ?_)
                  by_cases c29 : (nth T_api_Node.z x0_ x4).f3 < 0
                  · rw [if_pos c29] at H
                    replace hE := hE.kt 48 c29
                    refine mny 0 hst hE (.r 34 19 .nil) (fun a hE => ?_)
                    refine dn ?_
                    exact J40 _ (by omega) _ true _ _ hE .of hS H
                  · rw [if_neg c29] at H
                    replace hE := hE.kf 48 c29
                    refine mny 14 hst hE (.r 34 1 <| .b 35 3 hb19 <| .r 36 3 <| .nil) (fun a hE => ?_)
                    by_cases c30 : (nth T_api_Node.z x0_ x4).f3 > 65536
                    · rw [if_pos c30] at H
                      replace hE := hE.kt 53 c30
                      refine mny 0 hst hE (.r 39 14 .nil) (fun a hE => ?_)
                      refine dn ?_
                      exact J40 _ (by omega) _ true _ _ hE .of hS H
                    · rw [if_neg c30] at H
                      replace hE := hE.kf 53 c30
                      refine mny 11 hst hE (.r 39 3 .nil) (fun a hE => ?_)
                      by_cases c31 : x4 > 0
                      · rw [if_pos c31] at H
                        replace hE := hE.kt 56 c31
                        by_cases c32 : 0 ≤ (w64 (x4 - 1)) ∧ (w64 (x4 - 1)) < (x0_.length : Int)
                        rotate_left
                        · rw [if_neg c32] at H; cases H
                        rw [if_pos c32] at H
                        obtain ⟨cs34, rfl, hc35⟩ := g0_0.el T_api_Node.z (w64 (x4 - 1)) c32.1 c32.2
                        refine mny 0 hst hE (.r 42 3 <| .x 45 c32 <| .r 46 1 <| .c 47 (hS.fc hc35 0) <| .r 48 1 <| .b 49 0 hb19 <| .r 50 3 <| .nil) (fun a hE => ?_)
                        refine dn ?_
                        exact J40 _ (by omega) _ (decide ((nth T_api_Node.z x0_ (w64 (x4 - 1))).f0 ≥ (nth T_api_Node.z x0_ x4).f0)) _ _ hE .of hS H
                      · rw [if_neg c31] at H
                        replace hE := hE.kf 56 c31
                        refine mny 0 hst hE (.r 42 11 .nil) (fun a hE => ?_)
                        refine dn ?_
                        exact J40 _ (by omega) _ false _ _ hE .of hS H
    · rw [if_neg c11] at H
      replace hE := hE.kf 8 c11
      refine cf hE ?_
      refine wp_exit ?_
      refine hK2 _ _ ?_
      refine wp_seq_k fun K44 hK44 => ?_
      refine pl0 ?_
      refine plc hE (.r 0 4 .nil) (fun a hE => ?_)
      refine pld ?_
      refine hK44 _ _ ?_
      refine wp_ret ?_
      obtain rfl := Option.some.inj H
      exact rt1 hE ⟨_, rfl, _, rfl, hS⟩

/-! ### windrose/windroseref06.Find: function 75 -/
def windroseref06_Find.l7 : Nat → List T_api_Node → Int → Int → Option (T_api_Node × Bool)
  | 0, _, _, _ => none
  | k + 1, x0_, x1_, x6 => if x6 < (x0_.length : Int) then (if 0 ≤ x6 ∧ x6 < (x0_.length : Int) then (if (nth T_api_Node.z x0_ x6).f0 = x1_ then (some ((⟨(nth T_api_Node.z x0_ x6).f0, (nth T_api_Node.z x0_ x6).f1, (nth T_api_Node.z x0_ x6).f2, (nth T_api_Node.z x0_ x6).f3, (nth T_api_Node.z x0_ x6).f4, (nth T_api_Node.z x0_ x6).f5⟩ : T_api_Node), true)) else (windroseref06_Find.l7 k x0_ x1_ (w64 (x6 + 1)))) else (none)) else (some ((⟨0, 0, 0, 0, false, false⟩ : T_api_Node), false))
theorem windroseref06_Find.l7_s (k : Nat) (x0_ : List T_api_Node) (x1_ : Int) (x6 : Int) : windroseref06_Find.l7 (k + 1) x0_ x1_ x6 = (if x6 < (x0_.length : Int) then (if 0 ≤ x6 ∧ x6 < (x0_.length : Int) then (if (nth T_api_Node.z x0_ x6).f0 = x1_ then (some ((⟨(nth T_api_Node.z x0_ x6).f0, (nth T_api_Node.z x0_ x6).f1, (nth T_api_Node.z x0_ x6).f2, (nth T_api_Node.z x0_ x6).f3, (nth T_api_Node.z x0_ x6).f4, (nth T_api_Node.z x0_ x6).f5⟩ : T_api_Node), true)) else (windroseref06_Find.l7 k x0_ x1_ (w64 (x6 + 1)))) else (none)) else (some ((⟨0, 0, 0, 0, false, false⟩ : T_api_Node), false))) := by kernel_rfl
def windroseref06_Find.f (k : Nat) (x0_ : List T_api_Node) (x1_ : Int) : Option (T_api_Node × Bool) := windroseref06_Find.l7 k x0_ x1_ 0
def windroseref06_Find.Post (W F : World) (r : T_api_Node × Bool) (v : Value) (w' : World) : Prop := ∃ (F' : World), v = .tuple #[.agg #[.int .i64 r.1.f0, .int .i64 r.1.f1, .int .i64 r.1.f2, .int .i64 r.1.f3, .bool r.1.f4, .bool r.1.f5], .bool r.2] ∧ St W (mine W []) F w' F' []
set_option maxHeartbeats 4000000 in
set_option maxRecDepth 100000 in
theorem windroseref06_Find.calls (k : Nat) (x0_ : List T_api_Node) (x1_ : Int) (A0_0 : Option Addr) (c0_0 : Nat) (r : T_api_Node × Bool) (W F : World) (hown : Sub F W) (g0_0 : Rd T_api_Node.k F A0_0 c0_0 x0_) (H : windroseref06_Find.f k x0_ x1_ = some r) :
    Calls Tryz.prog 75 #[.slice A0_0 x0_.length c0_0, .int .i64 x1_] W fun e w' => ∃ v, e = .returned v ∧ windroseref06_Find.Post W F r v w' := by
  have hS := St.start (Own.nil hown)
  unfold windroseref06_Find.f at H
  refine enter (n := 25) rfl rfl rfl (Nat.le_of_ble_eq_true rfl) (fun a hE => ?_)
  refine wp_seq_k fun K1 hK1 => ?_
  refine pl0 ?_
  refine ple hE (.al (t := 104) hS [.int .i64 0, .int .i64 0, .int .i64 0, .int .i64 0, .bool false, .bool false]) ?_
  rintro _ u3 a ⟨b2, rfl, hb2, hS, hg⟩ hE
  refine plc hE (.r 1 1 .nil) (fun a hE => ?_)
  refine pld ?_
  refine hK1 _ _ ?_
  refine wp_seq_k fun K4 hK4 => ?_
  refine wp_seq_k fun K5 hK5 => ?_
  refine pl0 ?_
  refine plc hE (.r 0 1 .nil) (fun a hE => ?_)
  refine pld ?_
  refine hK5 _ _ ?_
  refine wp_block ?_
  refine wp_loop_ghost (fun kq8 a w' => ∃ (G : Nat → Value) (x6 : Int), kq8 ≤ k ∧ Env 25 G a ∧ At G [(0, .slice A0_0 x0_.length c0_0), (1, .int .i64 x1_), (4, .pointer (some ⟨b2, 0, none⟩)), (6, .int .i64 x6)] ∧ St W (mine W []) F w' F [box b2 #[.int .i64 0, .int .i64 0, .int .i64 0, .int .i64 0, .bool false, .bool false] 104] ∧  windroseref06_Find.l7 kq8 x0_ x1_ x6 = some r) k ⟨_, 0, Nat.le_refl _, hE, .of, hS, H⟩ ?_
  rintro kq8 a u10 ⟨G, x6, hkq, hE, hA, hS, H⟩
  cases kq8 with
  | zero => cases (show none = some r from H)
  | succ k9 =>
    rw [windroseref06_Find.l7_s] at H
    obtain ⟨J, hE⟩ := hE.at hA
    refine wp_seq_k fun K11 hK11 => ?_
    refine wp_seq_k fun K12 hK12 => ?_
    refine pl0 ?_
    refine plc hE (.r 0 4 .nil) (fun a hE => ?_)
    refine pld ?_
    refine hK12 _ _ ?_
    by_cases c13 : x6 < (x0_.length : Int)
    · rw [if_pos c13] at H
      replace hE := hE.kt 10 c13
      refine ct hE ?_
      refine wp_skip ?_
      refine hK11 _ _ ?_
      refine wp_seq_k fun K14 hK14 => ?_
      refine wp_block ?_
      refine wp_seq_k fun K15 hK15 => ?_
      refine pl0 ?_
      by_cases c16 : 0 ≤ x6 ∧ x6 < (x0_.length : Int)
      rotate_left
      · rw [if_neg c16] at H; cases H
      rw [if_pos c16] at H
      have hE_ := hE
      obtain ⟨ad17, rfl⟩ := g0_0.addr c16.1 c16.2
      replace hE := hE_
      obtain ⟨cs19, rfl, hc20⟩ := g0_0.el T_api_Node.z x6 c16.1 c16.2
      refine plc hE (.r 0 2 <| .x 2 c16 <| .r 3 1 <| .c 4 (hS.fc hc20 0) <| .r 5 2 <| .nil) (fun a hE => ?_)
      refine pld ?_
      refine hK15 _ _ ?_
      by_cases c21 : (nth T_api_Node.z x0_ x6).f0 = x1_
      · rw [if_pos c21] at H
        replace hE := hE.kt 19 c21
        refine ct hE ?_
        refine wp_seq_k fun K22 hK22 => ?_
        refine pl0 ?_
        refine plc hE (.r 0 2 <| .x 2 c16 <| .cs 3 (hS.fcs hc20) <| .nil) (fun a hE => ?_)
        refine ple hE (.sto hS [.int .i64 ((nth T_api_Node.z x0_ x6).f0), .int .i64 ((nth T_api_Node.z x0_ x6).f1), .int .i64 ((nth T_api_Node.z x0_ x6).f2), .int .i64 ((nth T_api_Node.z x0_ x6).f3), .bool ((nth T_api_Node.z x0_ x6).f4), .bool ((nth T_api_Node.z x0_ x6).f5)]) ?_
        rintro _ u26 a ⟨rfl, hb2, hS, hz⟩ hE
        refine plc hE (.r 5 1 .nil) (fun a hE => ?_)
        refine pld ?_
        refine hK22 _ _ ?_
        refine wp_ret (block_ret (then_ret (then_ret (block_ret (then_ret ?_)))))
        replace hS := hS.tail
        obtain rfl := Option.some.inj H
        exact retN hE rfl (of_decide_eq_true rfl) (.cell (by kernel_rfl) (res_blk [.int .i64 ((nth T_api_Node.z x0_ x6).f0), .int .i64 ((nth T_api_Node.z x0_ x6).f1), .int .i64 ((nth T_api_Node.z x0_ x6).f2), .int .i64 ((nth T_api_Node.z x0_ x6).f3), .bool ((nth T_api_Node.z x0_ x6).f4), .bool ((nth T_api_Node.z x0_ x6).f5)] ag104 sz104 hb2 rfl) (.tmp (by kernel_rfl) .nil)) ⟨_, rfl, _, rfl, hS⟩
      · rw [if_neg c21] at H
        replace hE := hE.kf 19 c21
        refine cf hE ?_
        refine wp_skip ?_
        refine block_n ?_
        refine hK14 _ _ ?_
        refine pl0 ?_
        refine plc hE (.r 0 3 .nil) (fun a hE => ?_)
        refine pld ?_
        exact then_n ⟨k9, by omega, _, (w64 (x6 + 1)), by omega, hE, .of, hS, H⟩
    · rw [if_neg c13] at H
      replace hE := hE.kf 10 c13
      refine cf hE ?_
      refine wp_exit ?_
      refine hK4 _ _ ?_
      refine wp_seq_k fun K27 hK27 => ?_
      refine pl0 ?_
      refine plc hE (.r 0 1 .nil) (fun a hE => ?_)
      refine ple hE (.sto hS [.int .i64 0, .int .i64 0, .int .i64 0, .int .i64 0, .bool false, .bool false]) ?_
      rintro _ u28 a ⟨rfl, hb2, hS, hz⟩ hE
      refine plc hE (.r 2 1 .nil) (fun a hE => ?_)
      refine pld ?_
      refine hK27 _ _ ?_
      refine wp_ret ?_
      replace hS := hS.tail
      obtain rfl := Option.some.inj H
      exact retN hE rfl (of_decide_eq_true rfl) (.cell (by kernel_rfl) (res_blk [.int .i64 0, .int .i64 0, .int .i64 0, .int .i64 0, .bool false, .bool false] ag104 sz104 hb2 rfl) (.tmp (by kernel_rfl) .nil)) ⟨_, rfl, _, rfl, hS⟩

/-! ### windrose/windroseref06.Apart: function 68 -/
mutual
def windroseref06_Apart.l5 : Nat → List T_api_Node → List Int → Int → Option Bool
  | 0, _, _, _ => none
  | k + 1, x0_, x1_, x4 => if x4 < (x1_.length : Int) then (if 0 ≤ x4 ∧ x4 < (x1_.length : Int) then ((windroseref06_Find.f k x0_ (nth 0 x1_ x4)).bind fun t20 => (if t20.2 = true then (windroseref06_Apart.l31 k x0_ x1_ x4 t20 0) else (some false))) else (none)) else (some true)
def windroseref06_Apart.l31 : Nat → List T_api_Node → List Int → Int → T_api_Node × Bool → Int → Option Bool
  | 0, _, _, _, _, _ => none
  | k + 1, x0_, x1_, x4, t20, x30 => if x30 < x4 then (if 0 ≤ x30 ∧ x30 < (x1_.length : Int) then ((windroseref06_Find.f k x0_ (nth 0 x1_ x30)).bind fun t45 => (if t20.1.f1 = t45.1.f1 then (some false) else (windroseref06_Apart.l31 k x0_ x1_ x4 t20 (w64 (x30 + 1))))) else (none)) else (windroseref06_Apart.l5 k x0_ x1_ (w64 (x4 + 1)))
end
theorem windroseref06_Apart.l5_s (k : Nat) (x0_ : List T_api_Node) (x1_ : List Int) (x4 : Int) : windroseref06_Apart.l5 (k + 1) x0_ x1_ x4 = (if x4 < (x1_.length : Int) then (if 0 ≤ x4 ∧ x4 < (x1_.length : Int) then ((windroseref06_Find.f k x0_ (nth 0 x1_ x4)).bind fun t20 => (if t20.2 = true then (windroseref06_Apart.l31 k x0_ x1_ x4 t20 0) else (some false))) else (none)) else (some true)) := by kernel_rfl
theorem windroseref06_Apart.l31_s (k : Nat) (x0_ : List T_api_Node) (x1_ : List Int) (x4 : Int) (t20 : T_api_Node × Bool) (x30 : Int) : windroseref06_Apart.l31 (k + 1) x0_ x1_ x4 t20 x30 = (if x30 < x4 then (if 0 ≤ x30 ∧ x30 < (x1_.length : Int) then ((windroseref06_Find.f k x0_ (nth 0 x1_ x30)).bind fun t45 => (if t20.1.f1 = t45.1.f1 then (some false) else (windroseref06_Apart.l31 k x0_ x1_ x4 t20 (w64 (x30 + 1))))) else (none)) else (windroseref06_Apart.l5 k x0_ x1_ (w64 (x4 + 1)))) := by kernel_rfl
def windroseref06_Apart.f (k : Nat) (x0_ : List T_api_Node) (x1_ : List Int) : Option Bool := windroseref06_Apart.l5 k x0_ x1_ 0
def windroseref06_Apart.Post (W F : World) (r : Bool) (v : Value) (w' : World) : Prop := ∃ (F' : World), v = .bool r ∧ St W (mine W []) F w' F' []
set_option maxHeartbeats 4000000 in
set_option maxRecDepth 100000 in
theorem windroseref06_Apart.calls (k : Nat) (x0_ : List T_api_Node) (x1_ : List Int) (A0_0 : Option Addr) (c0_0 : Nat) (A1_0 : Option Addr) (c1_0 : Nat) (r : Bool) (W F : World) (hown : Sub F W) (g0_0 : Rd T_api_Node.k F A0_0 c0_0 x0_) (g1_0 : Rd (Kn.int .i64) F A1_0 c1_0 x1_) (H : windroseref06_Apart.f k x0_ x1_ = some r) :
    Calls Tryz.prog 68 #[.slice A0_0 x0_.length c0_0, .slice A1_0 x1_.length c1_0] W fun e w' => ∃ v, e = .returned v ∧ windroseref06_Apart.Post W F r v w' := by
  have hS := St.start (Own.nil hown)
  unfold windroseref06_Apart.f at H
  refine enter (n := 47) rfl rfl rfl (Nat.le_of_ble_eq_true rfl) (fun a hE => ?_)
  refine wp_seq_k fun K1 hK1 => ?_
  refine pl0 ?_
  refine plc hE (.r 0 1 .nil) (fun a hE => ?_)
  refine pld ?_
  refine hK1 _ _ ?_
  refine wp_seq_k fun K2 hK2 => ?_
  refine wp_seq_k fun K3 hK3 => ?_
  refine pl0 ?_
  refine plc hE (.r 0 1 .nil) (fun a hE => ?_)
  refine pld ?_
  refine hK3 _ _ ?_
  refine wp_block ?_
  refine wp_loop_ghost (fun kq6 a w' => ∃ (G : Nat → Value) (x4 : Int), kq6 ≤ k ∧ Env 47 G a ∧ At G [(0, .slice A0_0 x0_.length c0_0), (1, .slice A1_0 x1_.length c1_0), (5, .int .i64 x4)] ∧ St W (mine W []) F w' F [] ∧  windroseref06_Apart.l5 kq6 x0_ x1_ x4 = some r) k ⟨_, 0, Nat.le_refl _, hE, .of, hS, H⟩ ?_
  rintro kq6 a u8 ⟨G, x4, hkq, hE, hA, hS, H⟩
  cases kq6 with
  | zero => cases (show none = some r from H)
  | succ k7 =>
    rw [windroseref06_Apart.l5_s] at H
    obtain ⟨J, hE⟩ := hE.at hA
    refine wp_seq_k fun K9 hK9 => ?_
    refine wp_seq_k fun K10 hK10 => ?_
    refine pl0 ?_
    refine plc hE (.r 0 4 .nil) (fun a hE => ?_)
    refine pld ?_
    refine hK10 _ _ ?_
    by_cases c11 : x4 < (x1_.length : Int)
    · rw [if_pos c11] at H
      replace hE := hE.kt 14 c11
      refine ct hE ?_
      refine wp_skip ?_
      refine hK9 _ _ ?_
      refine wp_seq_k fun K12 hK12 => ?_
      refine wp_block ?_
      refine wp_seq_k fun K13 hK13 => ?_
      refine pl0 ?_
      by_cases c14 : 0 ≤ x4 ∧ x4 < (x1_.length : Int)
      rotate_left
      · rw [if_neg c14] at H; cases H
      rw [if_pos c14] at H
      have hE_ := hE
      obtain ⟨ad15, rfl⟩ := g1_0.addr c14.1 c14.2
      replace hE := hE_
      obtain ⟨cs17, rfl, hc18⟩ := g1_0.el 0 x4 c14.1 c14.2
      refine plc hE (.r 0 3 <| .x 3 c14 <| .c 4 (hS.fc hc18 0) <| .nil) (fun a hE => ?_)
      obtain ⟨t20, h21, H⟩ := Option.bind_eq_some_iff.mp H
      refine ple hE (.cl en75 (windroseref06_Find.calls k7 x0_ (nth 0 x1_ x4) _ _ _ _ _ hS.own.sub g0_0 h21)) ?_
      rintro _ u19 a ⟨_, rfl, hC⟩ hE
      replace hS := hS.lent hC
      refine plc hE (.r 6 3 .nil) (fun a hE => ?_)
      refine ple hE (.al (t := 104) hS [.int .i64 0, .int .i64 0, .int .i64 0, .int .i64 0, .bool false, .bool false]) ?_
      rintro _ u23 a ⟨b22, rfl, hb22, hS, hg⟩ hE
      refine ple hE (.sto hS [.int .i64 t20.1.f0, .int .i64 t20.1.f1, .int .i64 t20.1.f2, .int .i64 t20.1.f3, .bool t20.1.f4, .bool t20.1.f5]) ?_
      rintro _ u24 a ⟨rfl, hb22, hS, hz⟩ hE
      refine plc hE (.r 11 1 .nil) (fun a hE => ?_)
      refine pld ?_
      refine hK13 _ _ ?_
      refine wp_seq_k fun K25 hK25 => ?_
      refine wp_seq_k fun K26 hK26 => ?_
      refine pl0 ?_
      refine plc hE (.r 0 2 .nil) (fun a hE => ?_)
      refine pld ?_
      refine hK26 _ _ ?_
      by_cases c27 : t20.2 = true
      · rw [if_pos c27] at H
        replace hE := hE.btn 27 c27
        refine cf hE ?_
        refine wp_skip ?_
        refine hK25 _ _ ?_
        refine wp_seq_k fun K29 hK29 => ?_
        refine pl0 ?_
        refine plc hE (.r 0 1 .nil) (fun a hE => ?_)
        refine pld ?_
        refine hK29 _ _ ?_
        refine wp_block ?_
        refine wp_loop_ghost (fun kq32 a w' => ∃ (G : Nat → Value) (x30 : Int), kq32 ≤ k7 ∧ Env 47 G a ∧ At G [(0, .slice A0_0 x0_.length c0_0), (1, .slice (some ad15) x1_.length c1_0), (5, .int .i64 x4), (6, .pointer (some ⟨b22, 0, none⟩)), (8, .int .i64 x30)] ∧ St W (mine W []) F w' F [box b22 #[.int .i64 t20.1.f0, .int .i64 t20.1.f1, .int .i64 t20.1.f2, .int .i64 t20.1.f3, .bool t20.1.f4, .bool t20.1.f5] 104] ∧  windroseref06_Apart.l31 kq32 x0_ x1_ x4 t20 x30 = some r) k7 ⟨_, 0, Nat.le_refl _, hE, .of, hS, H⟩ ?_
        rintro kq32 a u34 ⟨G, x30, hkq, hE, hA, hS, H⟩
        cases kq32 with
        | zero => cases (show none = some r from H)
        | succ k33 =>
          rw [windroseref06_Apart.l31_s] at H
          obtain ⟨J, hE⟩ := hE.at hA
          refine wp_seq_k fun K35 hK35 => ?_
          refine wp_seq_k fun K36 hK36 => ?_
          refine pl0 ?_
          refine plc hE (.r 0 3 .nil) (fun a hE => ?_)
          refine pld ?_
          refine hK36 _ _ ?_
          by_cases c37 : x30 < x4
          · rw [if_pos c37] at H
            replace hE := hE.kt 30 c37
            refine ct hE ?_
            refine wp_skip ?_
            refine hK35 _ _ ?_
            refine wp_seq_k fun K38 hK38 => ?_
            refine wp_block ?_
            refine wp_seq_k fun K39 hK39 => ?_
            refine pl0 ?_
            by_cases c40 : 0 ≤ x30 ∧ x30 < (x1_.length : Int)
            rotate_left
            · rw [if_neg c40] at H; cases H
            rw [if_pos c40] at H
            obtain ⟨cs42, rfl, hc43⟩ := g1_0.el 0 x30 c40.1 c40.2
            refine plc hE (.r 0 3 <| .x 3 c40 <| .c 4 (hS.fc hc43 0) <| .nil) (fun a hE => ?_)
            obtain ⟨t45, h46, H⟩ := Option.bind_eq_some_iff.mp H
            refine ple hE (.cl en75 (windroseref06_Find.calls k33 x0_ (nth 0 x1_ x30) _ _ _ _ _ hS.own.sub g0_0 h46)) ?_
            rintro _ u44 a ⟨_, rfl, hC⟩ hE
            replace hS := hS.lent hC
            refine plc hE (.r 6 3 .nil) (fun a hE => ?_)
            refine ple hE (.al (t := 104) hS [.int .i64 0, .int .i64 0, .int .i64 0, .int .i64 0, .bool false, .bool false]) ?_
            rintro _ u48 a ⟨b47, rfl, hb47, hS, hg⟩ hE
            refine ple hE (.sto hS [.int .i64 t45.1.f0, .int .i64 t45.1.f1, .int .i64 t45.1.f2, .int .i64 t45.1.f3, .bool t45.1.f4, .bool t45.1.f5]) ?_
            rintro _ u49 a ⟨rfl, hb47, hS, hz⟩ hE
            refine plc hE (.r 11 1 .nil) (fun a hE => ?_)
            refine pld ?_
            refine hK39 _ _ ?_
            refine wp_seq_k fun K50 hK50 => ?_
            refine pl0 ?_
            have hb22 := hS.blk_at (i := 1) rfl
            refine plc hE (.r 0 1 <| .b 1 1 hb22 <| .r 2 1 <| .b 3 1 hb47 <| .r 4 1 <| .nil) (fun a hE => ?_)
            refine pld ?_
            refine hK50 _ _ ?_
            by_cases c51 : t20.1.f1 = t45.1.f1
            · rw [if_pos c51] at H
              replace hE := hE.kt 46 c51
              refine ct hE ?_
              refine wp_seq_k fun K52 hK52 => ?_
              refine pl0 ?_
              refine plc hE (.r 0 1 .nil) (fun a hE => ?_)
              refine pld ?_
              refine hK52 _ _ ?_
              refine wp_ret (block_ret (then_ret (then_ret (block_ret (block_ret (then_ret (then_ret (block_ret (then_ret ?_)))))))))
              replace hS := hS.tail
              replace hS := hS.tail
              obtain rfl := Option.some.inj H
              exact rt1 hE ⟨_, rfl, _, rfl, hS⟩
            · rw [if_neg c51] at H
              replace hE := hE.kf 46 c51
              refine cf hE ?_
              refine wp_skip ?_
              refine block_n ?_
              refine hK38 _ _ ?_
              refine pl0 ?_
              refine plc hE (.r 0 3 .nil) (fun a hE => ?_)
              refine pld ?_
              replace hS := hS.tail
              exact then_n ⟨k33, by omega, _, (w64 (x30 + 1)), by omega, hE, .of, hS, H⟩
          · rw [if_neg c37] at H
            replace hE := hE.kf 30 c37
            refine cf hE ?_
            refine wp_exit ?_
            refine hK12 _ _ ?_
            refine pl0 ?_
            refine plc hE (.r 0 3 .nil) (fun a hE => ?_)
            refine pld ?_
            replace hS := hS.tail
            exact then_n ⟨k33, by omega, _, (w64 (x4 + 1)), by omega, hE, .of, hS, H⟩
      · rw [if_neg c27] at H
        replace hE := hE.bfn 27 c27
        refine ct hE ?_
        refine wp_seq_k fun K28 hK28 => ?_
        refine pl0 ?_
        refine plc hE (.r 0 1 .nil) (fun a hE => ?_)
        refine pld ?_
        refine hK28 _ _ ?_
        refine wp_ret (then_ret (block_ret (then_ret (then_ret (block_ret (then_ret ?_))))))
        replace hS := hS.tail
        obtain rfl := Option.some.inj H
        exact rt1 hE ⟨_, rfl, _, rfl, hS⟩
    · rw [if_neg c11] at H
      replace hE := hE.kf 14 c11
      refine cf hE ?_
      refine wp_exit ?_
      refine hK2 _ _ ?_
      refine wp_seq_k fun K53 hK53 => ?_
      refine pl0 ?_
      refine plc hE (.r 0 1 .nil) (fun a hE => ?_)
      refine pld ?_
      refine hK53 _ _ ?_
      refine wp_ret ?_
      obtain rfl := Option.some.inj H
      exact rt1 hE ⟨_, rfl, _, rfl, hS⟩

end Go.Proofs.YtpohepinmjmbkaaGreat.MN
