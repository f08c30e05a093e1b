/- Functions of the program, what each computes (written by wip/s/sl.py). -/
import Derived.Test.YtpohepinmjmbkaaGreatMS5
namespace Go.Proofs.YtpohepinmjmbkaaGreat.MS
open Go Go.RowKit Go.Proofs.YtpohepinmjmbkaaGreat.Sl
set_option linter.unusedVariables false
set_option linter.unusedSimpArgs false
set_option maxHeartbeats 4000000
set_option maxRecDepth 100000
/-! ### windrose/maps.Apply: function 26 -/
def maps_Apply.j21 : Nat → T_api_Map → T_api_Delta → Bool → Option (T_api_Map × Int)
  | 0, _, _, _ => none
  | k + 1, x0_, x1_, y20 => if y20 = true then ((maps_own.f k x0_).bind fun t29 => (some (t29, 1))) else (if x0_.f0 = 2147483647 then ((maps_own.f k x0_).bind fun t53 => (some (t53, 6))) else ((maps_own.f k x0_).bind fun t77 => ((maps_turned.f k t77 x1_).bind fun t95 => (if t95.2 = 0 then ((maps_follow.f k x0_ t95.1).bind fun t149 => (some ((⟨(w64 (t95.1.f0 + 1)), t95.1.f1, t95.1.f2, t95.1.f3, t95.1.f4, t95.1.f5, t149⟩ : T_api_Map), 0))) else ((maps_own.f k x0_).bind fun t125 => (some (t125, t95.2)))))))
theorem maps_Apply.j21_s (k : Nat) (x0_ : T_api_Map) (x1_ : T_api_Delta) (y20 : Bool) : maps_Apply.j21 (k + 1) x0_ x1_ y20 = (if y20 = true then ((maps_own.f k x0_).bind fun t29 => (some (t29, 1))) else (if x0_.f0 = 2147483647 then ((maps_own.f k x0_).bind fun t53 => (some (t53, 6))) else ((maps_own.f k x0_).bind fun t77 => ((maps_turned.f k t77 x1_).bind fun t95 => (if t95.2 = 0 then ((maps_follow.f k x0_ t95.1).bind fun t149 => (some ((⟨(w64 (t95.1.f0 + 1)), t95.1.f1, t95.1.f2, t95.1.f3, t95.1.f4, t95.1.f5, t149⟩ : T_api_Map), 0))) else ((maps_own.f k x0_).bind fun t125 => (some (t125, t95.2)))))))) := by kernel_rfl
def maps_Apply.f (k : Nat) (x0_ : T_api_Map) (x1_ : T_api_Delta) : Option (T_api_Map × Int) := (maps_Check.f k x0_).bind fun t11 => (if t11 = 0 then (if x1_.f0 < 1 then (maps_Apply.j21 k x0_ x1_ true) else (if x1_.f0 ≥ 11 then (maps_Apply.j21 k x0_ x1_ true) else ((maps_bare.f x1_).bind fun t18 => (maps_Apply.j21 k x0_ x1_ (!t18))))) else (some ((⟨0, 0, 0, 0, [], [], []⟩ : T_api_Map), 1)))
def maps_Apply.Post (W F : World) (r : T_api_Map × Int) (v : Value) (w' : World) : Prop := ∃ (F' : World) (RA0_4 : Option Addr) (rc0_4 : Nat) (RA0_5 : Option Addr) (rc0_5 : Nat) (RA0_6 : Option Addr) (rc0_6 : Nat), v = .tuple #[.agg #[.int .i64 r.1.f0, .int .i64 r.1.f1, .int .i64 r.1.f2, .int .i64 r.1.f3, .slice RA0_4 r.1.f4.length rc0_4, .slice RA0_5 r.1.f5.length rc0_5, .slice RA0_6 r.1.f6.length rc0_6], .int .i64 r.2] ∧ St W (mine W []) F w' F' [row T_api_Trail.k 49 (.slice RA0_6 r.1.f6.length rc0_6) r.1.f6] ∧ Rd T_api_Node.k F' RA0_4 rc0_4 r.1.f4 ∧ Rd T_api_Temp.k F' RA0_5 rc0_5 r.1.f5
theorem maps_Apply.calls (k : Nat) (x0_ : T_api_Map) (x1_ : T_api_Delta) (A0_4 : Option Addr) (c0_4 : Nat) (A0_5 : Option Addr) (c0_5 : Nat) (A0_6 : Option Addr) (c0_6 : Nat) (A1_6 : Option Addr) (c1_6 : Nat) (r : T_api_Map × Int) (W F : World) (hown : Sub F W) (g0_4 : Rd T_api_Node.k F A0_4 c0_4 x0_.f4) (g0_5 : Rd T_api_Temp.k F A0_5 c0_5 x0_.f5) (g0_6 : Rd T_api_Trail.k F A0_6 c0_6 x0_.f6) (g1_6 : Rd (Kn.int .i64) F A1_6 c1_6 x1_.f6) (H : maps_Apply.f k x0_ x1_ = some r) :
    Calls Tryz.prog 26 #[.agg #[.int .i64 x0_.f0, .int .i64 x0_.f1, .int .i64 x0_.f2, .int .i64 x0_.f3, .slice A0_4 x0_.f4.length c0_4, .slice A0_5 x0_.f5.length c0_5, .slice A0_6 x0_.f6.length c0_6], .agg #[.int .i64 x1_.f0, .int .i64 x1_.f1, .int .i64 x1_.f2, .int .i64 x1_.f3, .int .i64 x1_.f4, .int .i64 x1_.f5, .slice A1_6 x1_.f6.length c1_6]] W fun e w' => ∃ v, e = .returned v ∧ maps_Apply.Post W F r v w' := by
 have hS := St.start (Own.nil hown)
 unfold maps_Apply.f at H
 refine enter (n := 56) rfl rfl rfl (Nat.le_of_ble_eq_true rfl) (fun a hE => ?_)
 refine wp_seq_k fun K1 hK1 => pl0 (ple hE (.bx (t := 26) hS [.int .i64 x0_.f0, .int .i64 x0_.f1, .int .i64 x0_.f2, .int .i64 x0_.f3, .slice A0_4 x0_.f4.length c0_4, .slice A0_5 x0_.f5.length c0_5, .slice A0_6 x0_.f6.length c0_6]) ?_)
 rintro _ u3 a ⟨b2, rfl, hb2, hS, hg⟩ hE
 refine ple hE (.bx (t := 40) hS [.int .i64 x1_.f0, .int .i64 x1_.f1, .int .i64 x1_.f2, .int .i64 x1_.f3, .int .i64 x1_.f4, .int .i64 x1_.f5, .slice A1_6 x1_.f6.length c1_6]) ?_
 rintro _ u5 a ⟨b4, rfl, hb4, hS, hg⟩ hE
 refine ple hE (.al (t := 26) hS [.int .i64 0, .int .i64 0, .int .i64 0, .int .i64 0, .slice none 0 0, .slice none 0 0, .slice none 0 0]) ?_
 rintro _ u7 a ⟨b6, rfl, hb6, hS, hg⟩ hE
 refine plc hE (.r 3 1 .nil) (fun a hE => pld (hK1 _ _ (wp_seq_k fun K8 hK8 => wp_block (wp_seq_k fun K9 hK9 => pl0 ?_))))
 have hb2 := hS.blk_at (i := 2) rfl
 refine plc hE (.bn 0 0 7 hb2 .nil) (fun a hE => ?_)
 obtain ⟨t11, h12, H⟩ := bd H
 refine ple hE (.cl en32 (maps_Check.calls k x0_ _ _ _ _ _ _ _ _ _ hS.own.sub g0_4 g0_5 g0_6 h12)) ?_
 rintro _ u10 a ⟨_, rfl, hC⟩ hE
 replace hS := hS.lent hC
 refine plc hE (.r 2 2 .nil) (fun a hE => pld (hK9 _ _ ?_))
 rcases sp H with ⟨c13, H⟩ | ⟨c13, H⟩
 ·
  replace hE := hE.ktn 8 c13
  refine cf hE (wp_seq_k fun K14 hK14 => ?_)
  have J24 : ∀ kq22, kq22 ≤ k → ∀ (G : Nat → Value) (y20 : Bool) (a : Act) (w' : World), Env 56 G a → At G [(2, .pointer (some ⟨b2, 0, none⟩)), (3, .pointer (some ⟨b4, 0, none⟩)), (4, .pointer (some ⟨b6, 0, none⟩)), (13, .bool y20)] → St W (mine W []) F w' F [box b6 #[.int .i64 0, .int .i64 0, .int .i64 0, .int .i64 0, .slice none 0 0, .slice none 0 0, .slice none 0 0] 26, box b4 #[.int .i64 x1_.f0, .int .i64 x1_.f1, .int .i64 x1_.f2, .int .i64 x1_.f3, .int .i64 x1_.f4, .int .i64 x1_.f5, .slice A1_6 x1_.f6.length c1_6] 40, box b2 #[.int .i64 x0_.f0, .int .i64 x0_.f1, .int .i64 x0_.f2, .int .i64 x0_.f3, .slice A0_4 x0_.f4.length c0_4, .slice A0_5 x0_.f5.length c0_5, .slice A0_6 x0_.f6.length c0_6] 26] → maps_Apply.j21 kq22 x0_ x1_ y20 = some r → K14 a w' := by
   intro kq22 hkq G y20 a u25 hE hA hS H
   cases kq22 with
   | zero => cases (show none = some r from H)
   | succ k23 =>
    rw [maps_Apply.j21_s] at H
    obtain ⟨J, hE⟩ := hE.at hA
    refine hK14 _ _ ?_
    rcases sp H with ⟨c26, H⟩ | ⟨c26, H⟩
    ·
     replace hE := hE.bt 13 c26
     refine ct hE (wp_seq_k fun K27 hK27 => pl0 ?_)
     have hb2 := hS.blk_at (i := 2) rfl
     refine plc hE (.bn 0 0 7 hb2 .nil) (fun a hE => ?_)
     obtain ⟨t29, h30, H⟩ := bd H
     refine ple hE (.cl en77 (maps_own.calls k23 x0_ _ _ _ _ _ _ _ _ _ hS.own.sub g0_4 g0_5 g0_6 h30)) ?_
     rintro _ u28 a ⟨F31, A32, c33, A36, c37, A40, c41, rfl, hC⟩ hE
     have hs := hC.sub
     replace hS := hS.called (X := []) hC
     replace g0_4 := g0_4.mono hs
     replace g0_5 := g0_5.mono hs
     replace g0_6 := g0_6.mono hs
     replace g1_6 := g1_6.mono hs
     replace hS := hS.front 3 rfl
     refine ple hE (.sto hS [.int .i64 t29.f0, .int .i64 t29.f1, .int .i64 t29.f2, .int .i64 t29.f3, .slice A32 t29.f4.length c33, .slice A36 t29.f5.length c37, .slice A40 t29.f6.length c41]) ?_
     rintro _ u44 a ⟨rfl, hb6, hS, hz⟩ hE
     refine plc hE (.r 3 1 .nil) (fun a hE => pld (hK27 _ _ (wp_ret (block_ret (then_ret ?_)))))
     replace hS := hS.front 1 rfl
     obtain ⟨F45, hs, g46, hS⟩ := hS.give
     replace g0_4 := g0_4.mono hs
     replace g0_5 := g0_5.mono hs
     replace g0_6 := g0_6.mono hs
     replace g1_6 := g1_6.mono hs
     replace hS := hS.front 1 rfl
     obtain ⟨F47, hs, g48, hS⟩ := hS.give
     replace g0_4 := g0_4.mono hs
     replace g0_5 := g0_5.mono hs
     replace g0_6 := g0_6.mono hs
     replace g46 := g46.mono hs
     replace g1_6 := g1_6.mono hs
     replace hS := hS.tail
     replace hS := hS.front 1 rfl
     replace hS := hS.tail
     replace hS := hS.front 1 rfl
     replace hS := hS.tail
     obtain rfl := si H
     exact retN hE rfl (of_decide_eq_true rfl) (.cell (by kernel_rfl) (res_blk [.int .i64 t29.f0, .int .i64 t29.f1, .int .i64 t29.f2, .int .i64 t29.f3, .slice A32 t29.f4.length c33, .slice A36 t29.f5.length c37, .slice A40 t29.f6.length c41] ag26 sz26 hb6 rfl) (.tmp (by kernel_rfl) .nil)) ⟨_, rfl, _, _, _, _, _, _, _, rfl, hS, g46, g48⟩
    ·
     replace hE := hE.bf 13 c26
     refine cf hE (wp_seq_k fun K49 hK49 => pl0 ?_)
     have hb2 := hS.blk_at (i := 2) rfl
     refine plc hE (.r 0 1 <| .b 1 0 hb2 <| .r 2 2 <| .nil) (fun a hE => pld (hK49 _ _ ?_))
     rcases sp H with ⟨c50, H⟩ | ⟨c50, H⟩
     ·
      replace hE := hE.kt 29 c50
      refine ct hE (wp_seq_k fun K51 hK51 => pl0 (plc hE (.bn 0 0 7 hb2 .nil) (fun a hE => ?_)))
      obtain ⟨t53, h54, H⟩ := bd H
      refine ple hE (.cl en77 (maps_own.calls k23 x0_ _ _ _ _ _ _ _ _ _ hS.own.sub g0_4 g0_5 g0_6 h54)) ?_
      rintro _ u52 a ⟨F55, A56, c57, A60, c61, A64, c65, rfl, hC⟩ hE
      have hs := hC.sub
      replace hS := hS.called (X := []) hC
      replace g0_4 := g0_4.mono hs
      replace g0_5 := g0_5.mono hs
      replace g0_6 := g0_6.mono hs
      replace g1_6 := g1_6.mono hs
      replace hS := hS.front 3 rfl
      refine ple hE (.sto hS [.int .i64 t53.f0, .int .i64 t53.f1, .int .i64 t53.f2, .int .i64 t53.f3, .slice A56 t53.f4.length c57, .slice A60 t53.f5.length c61, .slice A64 t53.f6.length c65]) ?_
      rintro _ u68 a ⟨rfl, hb6, hS, hz⟩ hE
      refine plc hE (.r 3 1 .nil) (fun a hE => pld (hK51 _ _ (wp_ret (block_ret (then_ret ?_)))))
      replace hS := hS.front 1 rfl
      obtain ⟨F69, hs, g70, hS⟩ := hS.give
      replace g0_4 := g0_4.mono hs
      replace g0_5 := g0_5.mono hs
      replace g0_6 := g0_6.mono hs
      replace g1_6 := g1_6.mono hs
      replace hS := hS.front 1 rfl
      obtain ⟨F71, hs, g72, hS⟩ := hS.give
      replace g0_4 := g0_4.mono hs
      replace g0_5 := g0_5.mono hs
      replace g0_6 := g0_6.mono hs
      replace g70 := g70.mono hs
      replace g1_6 := g1_6.mono hs
      replace hS := hS.tail
      replace hS := hS.front 1 rfl
      replace hS := hS.tail
      replace hS := hS.front 1 rfl
      replace hS := hS.tail
      obtain rfl := si H
      exact retN hE rfl (of_decide_eq_true rfl) (.cell (by kernel_rfl) (res_blk [.int .i64 t53.f0, .int .i64 t53.f1, .int .i64 t53.f2, .int .i64 t53.f3, .slice A56 t53.f4.length c57, .slice A60 t53.f5.length c61, .slice A64 t53.f6.length c65] ag26 sz26 hb6 rfl) (.tmp (by kernel_rfl) .nil)) ⟨_, rfl, _, _, _, _, _, _, _, rfl, hS, g70, g72⟩
     ·
      replace hE := hE.kf 29 c50
      refine cf hE (wp_skip ?_)
      refine block_n ?_
      refine hK8 _ _ (wp_seq_k fun K76 hK76 => ?_)
      refine drawn 10 ⟨[3, 8], [], fun q => False⟩ mixed rfl (by kernel_rfl) (fun hst => ?_)
      replace hS := hS.drew
      have hb2 := hS.blk_at (i := 2) rfl
      have hb4 := hS.blk_at (i := 1) rfl
      refine mny 8 hst hE (.bn 0 0 7 hb2 <| .bn 2 0 7 hb4 <| .nil) (fun a hE => ?_)
      obtain ⟨t77, h78, H⟩ := bd H
      obtain ⟨t95, h96, H⟩ := bd H
      refine meet2 (fun a w' => ∃ (G : Nat → Value) (b93 : Nat) (A103 : Option Addr) (c104 : Nat) (A107 : Option Addr) (c108 : Nat) (A110 : Option Addr) (c111 : Nat) (F117 : World), Env 56 G a ∧ At G [(2, .pointer (some ⟨b2, 0, none⟩)), (4, .pointer (some ⟨b6, 0, none⟩)), (6, .pointer (some ⟨b93, 0, none⟩)), (40, .agg #[.int .i64 t95.1.f0, .int .i64 t95.1.f1, .int .i64 t95.1.f2, .int .i64 t95.1.f3, .slice A103 t95.1.f4.length c104, .slice A107 t95.1.f5.length c108, .slice A110 t95.1.f6.length c111]), (41, .int .i64 t95.2)] ∧ St W (mine W []) F w' F117 [box b93 #[.int .i64 0, .int .i64 0, .int .i64 0, .int .i64 0, .slice none 0 0, .slice none 0 0, .slice none 0 0] 26, box b6 #[.int .i64 0, .int .i64 0, .int .i64 0, .int .i64 0, .slice none 0 0, .slice none 0 0, .slice none 0 0] 26, box b4 #[.int .i64 x1_.f0, .int .i64 x1_.f1, .int .i64 x1_.f2, .int .i64 x1_.f3, .int .i64 x1_.f4, .int .i64 x1_.f5, .slice A1_6 x1_.f6.length c1_6] 40, box b2 #[.int .i64 x0_.f0, .int .i64 x0_.f1, .int .i64 x0_.f2, .int .i64 x0_.f3, .slice A0_4 x0_.f4.length c0_4, .slice A0_5 x0_.f5.length c0_5, .slice A0_6 x0_.f6.length c0_6] 26, row T_api_Node.k 104 (.slice A103 t95.1.f4.length c104) t95.1.f4] ∧ Rd T_api_Temp.k F117 A107 c108 t95.1.f5 ∧ Rd T_api_Trail.k F117 A110 c111 t95.1.f6 ∧ Rd (Kn.int .i64) F117 A1_6 c1_6 x1_.f6 ∧ Rd T_api_Node.k F117 A0_4 c0_4 x0_.f4 ∧ Rd T_api_Temp.k F117 A0_5 c0_5 x0_.f5 ∧ Rd T_api_Trail.k F117 A0_6 c0_6 x0_.f6) 2 255 ?_ (fun hJb => ?_)
      ·
       rintro a u118 ⟨G, b93, A103, c104, A107, c108, A110, c111, F117, hE, hA, hS, g109, g112, g1_6, g0_4, g0_5, g0_6⟩
       obtain ⟨J, hE⟩ := hE.at hA
       refine on1 8 hE (.sto hS [.int .i64 t95.1.f0, .int .i64 t95.1.f1, .int .i64 t95.1.f2, .int .i64 t95.1.f3, .slice A103 t95.1.f4.length c104, .slice A107 t95.1.f5.length c108, .slice A110 t95.1.f6.length c111]) ?_
       rintro _ u119 a ⟨rfl, hb93, hS, hz⟩ hE
       refine ⟨.d, ?_⟩
       refine mny 0 hst hE (.r 9 1 .nil) (fun a hE => ?_)
       refine dn ?_
       refine hK76 _ _ (wp_seq_k fun K120 hK120 => wp_seq_k fun K121 hK121 => pl0 (plc hE (.r 0 2 .nil) (fun a hE => pld (hK121 _ _ ?_))))
       rcases sp H with ⟨c122, H⟩ | ⟨c122, H⟩
       ·
        replace hE := hE.ktn 43 c122
        refine cf hE (wp_skip (hK120 _ _ (wp_seq_k fun K145 hK145 => pl0 ?_)))
        have hb2 := hS.blk_at (i := 3) rfl
        refine plc hE (.bn 0 0 7 hb2 <| .bn 1 0 7 hb93 <| .nil) (fun a hE => ?_)
        replace hS := hS.front 4 rfl
        obtain ⟨F146, hs, g147, hS⟩ := hS.give
        replace g109 := g109.mono hs
        replace g112 := g112.mono hs
        replace g0_4 := g0_4.mono hs
        replace g0_5 := g0_5.mono hs
        replace g0_6 := g0_6.mono hs
        replace g1_6 := g1_6.mono hs
        obtain ⟨t149, h150, H⟩ := bd H
        refine ple hE (.cl en79 (maps_follow.calls k23 x0_ t95.1 _ _ _ _ _ _ _ _ _ _ _ _ _ _ _ hS.own.sub g0_4 g0_5 g0_6 g147 g109 g112 h150)) ?_
        rintro _ u148 a ⟨F151, A152, c153, rfl, hC⟩ hE
        have hs := hC.sub
        replace hS := hS.called (X := []) hC
        replace g147 := g147.mono hs
        replace g109 := g109.mono hs
        replace g112 := g112.mono hs
        replace g0_4 := g0_4.mono hs
        replace g0_5 := g0_5.mono hs
        replace g0_6 := g0_6.mono hs
        replace g1_6 := g1_6.mono hs
        refine plc hE (.r 3 1 .nil) (fun a hE => ?_)
        replace hS := hS.front 1 rfl
        refine ple hE (.sto hS [.int .i64 t95.1.f0, .int .i64 t95.1.f1, .int .i64 t95.1.f2, .int .i64 t95.1.f3, .slice A103 t95.1.f4.length c104, .slice A107 t95.1.f5.length c108, .slice A152 t149.length c153]) ?_
        rintro _ u156 a ⟨rfl, hb93, hS, hz⟩ hE
        refine pld (hK145 _ _ (wp_seq_k fun K157 hK157 => pl0 (plc hE (.r 0 1 <| .b 1 0 hb93 <| .r 2 2 <| .nil) (fun a hE => ple hE (.sto hS [.int .i64 (w64 (t95.1.f0 + 1)), .int .i64 t95.1.f1, .int .i64 t95.1.f2, .int .i64 t95.1.f3, .slice A103 t95.1.f4.length c104, .slice A107 t95.1.f5.length c108, .slice A152 t149.length c153]) ?_))))
        rintro _ u158 a ⟨rfl, hb93, hS, hz⟩ hE
        refine pld (hK157 _ _ (wp_seq_k fun K159 hK159 => pl0 (plc hE (.bn 0 0 7 hb93 .nil) (fun a hE => ?_))))
        replace hS := hS.front 2 rfl
        refine ple hE (.sto hS [.int .i64 (w64 (t95.1.f0 + 1)), .int .i64 t95.1.f1, .int .i64 t95.1.f2, .int .i64 t95.1.f3, .slice A103 t95.1.f4.length c104, .slice A107 t95.1.f5.length c108, .slice A152 t149.length c153]) ?_
        rintro _ u160 a ⟨rfl, hb6, hS, hz⟩ hE
        refine plc hE (.r 2 1 .nil) (fun a hE => pld (hK159 _ _ (wp_ret ?_)))
        replace hS := hS.tail
        replace hS := hS.tail
        replace hS := hS.front 1 rfl
        replace hS := hS.tail
        replace hS := hS.front 1 rfl
        replace hS := hS.tail
        obtain rfl := si H
        exact retN hE rfl (of_decide_eq_true rfl) (.cell (by kernel_rfl) (res_blk [.int .i64 (w64 (t95.1.f0 + 1)), .int .i64 t95.1.f1, .int .i64 t95.1.f2, .int .i64 t95.1.f3, .slice A103 t95.1.f4.length c104, .slice A107 t95.1.f5.length c108, .slice A152 t149.length c153] ag26 sz26 hb6 rfl) (.tmp (by kernel_rfl) .nil)) ⟨_, rfl, _, _, _, _, _, _, _, rfl, hS, g147, g109⟩
       ·
        replace hE := hE.kfn 43 c122
        refine ct hE (wp_seq_k fun K123 hK123 => pl0 ?_)
        have hb2 := hS.blk_at (i := 3) rfl
        refine plc hE (.bn 0 0 7 hb2 .nil) (fun a hE => ?_)
        obtain ⟨t125, h126, H⟩ := bd H
        refine ple hE (.cl en77 (maps_own.calls k23 x0_ _ _ _ _ _ _ _ _ _ hS.own.sub g0_4 g0_5 g0_6 h126)) ?_
        rintro _ u124 a ⟨F127, A128, c129, A132, c133, A136, c137, rfl, hC⟩ hE
        have hs := hC.sub
        replace hS := hS.called (X := []) hC
        replace g109 := g109.mono hs
        replace g112 := g112.mono hs
        replace g0_4 := g0_4.mono hs
        replace g0_5 := g0_5.mono hs
        replace g0_6 := g0_6.mono hs
        replace g1_6 := g1_6.mono hs
        refine plc hE (.r 2 1 .nil) (fun a hE => ?_)
        replace hS := hS.front 4 rfl
        refine ple hE (.sto hS [.int .i64 t125.f0, .int .i64 t125.f1, .int .i64 t125.f2, .int .i64 t125.f3, .slice A128 t125.f4.length c129, .slice A132 t125.f5.length c133, .slice A136 t125.f6.length c137]) ?_
        rintro _ u140 a ⟨rfl, hb6, hS, hz⟩ hE
        refine plc hE (.r 4 1 .nil) (fun a hE => pld (hK123 _ _ (wp_ret (then_ret ?_))))
        replace hS := hS.front 1 rfl
        obtain ⟨F141, hs, g142, hS⟩ := hS.give
        replace g109 := g109.mono hs
        replace g112 := g112.mono hs
        replace g0_4 := g0_4.mono hs
        replace g0_5 := g0_5.mono hs
        replace g0_6 := g0_6.mono hs
        replace g1_6 := g1_6.mono hs
        replace hS := hS.front 1 rfl
        obtain ⟨F143, hs, g144, hS⟩ := hS.give
        replace g109 := g109.mono hs
        replace g112 := g112.mono hs
        replace g0_4 := g0_4.mono hs
        replace g0_5 := g0_5.mono hs
        replace g0_6 := g0_6.mono hs
        replace g142 := g142.mono hs
        replace g1_6 := g1_6.mono hs
        replace hS := hS.tail
        replace hS := hS.front 1 rfl
        replace hS := hS.tail
        replace hS := hS.front 1 rfl
        replace hS := hS.tail
        replace hS := hS.front 1 rfl
        replace hS := hS.tail
        replace hS := hS.front 1 rfl
        replace hS := hS.tail
        obtain rfl := si H
        exact retN hE rfl (of_decide_eq_true rfl) (.cell (by kernel_rfl) (res_blk [.int .i64 t125.f0, .int .i64 t125.f1, .int .i64 t125.f2, .int .i64 t125.f3, .slice A128 t125.f4.length c129, .slice A132 t125.f5.length c133, .slice A136 t125.f6.length c137] ag26 sz26 hb6 rfl) (.tmp (by kernel_rfl) .nil)) ⟨_, rfl, _, _, _, _, _, _, _, rfl, hS, g142, g144⟩
      ·
       refine meet2 (fun a w' => ∃ (G : Nat → Value) (b93 : Nat) (A81 : Option Addr) (c82 : Nat) (A85 : Option Addr) (c86 : Nat) (A89 : Option Addr) (c90 : Nat) (F114 : World), Env 56 G a ∧ At G [(2, .pointer (some ⟨b2, 0, none⟩)), (4, .pointer (some ⟨b6, 0, none⟩)), (6, .pointer (some ⟨b93, 0, none⟩)), (37, .agg #[.int .i64 t77.f0, .int .i64 t77.f1, .int .i64 t77.f2, .int .i64 t77.f3, .slice A81 t77.f4.length c82, .slice A85 t77.f5.length c86, .slice A89 t77.f6.length c90]), (38, .agg #[.int .i64 x1_.f0, .int .i64 x1_.f1, .int .i64 x1_.f2, .int .i64 x1_.f3, .int .i64 x1_.f4, .int .i64 x1_.f5, .slice A1_6 x1_.f6.length c1_6])] ∧ St W (mine W []) F w' F114 [box b93 #[.int .i64 0, .int .i64 0, .int .i64 0, .int .i64 0, .slice none 0 0, .slice none 0 0, .slice none 0 0] 26, box b6 #[.int .i64 0, .int .i64 0, .int .i64 0, .int .i64 0, .slice none 0 0, .slice none 0 0, .slice none 0 0] 26, box b4 #[.int .i64 x1_.f0, .int .i64 x1_.f1, .int .i64 x1_.f2, .int .i64 x1_.f3, .int .i64 x1_.f4, .int .i64 x1_.f5, .slice A1_6 x1_.f6.length c1_6] 40, box b2 #[.int .i64 x0_.f0, .int .i64 x0_.f1, .int .i64 x0_.f2, .int .i64 x0_.f3, .slice A0_4 x0_.f4.length c0_4, .slice A0_5 x0_.f5.length c0_5, .slice A0_6 x0_.f6.length c0_6] 26, row T_api_Node.k 104 (.slice A81 t77.f4.length c82) t77.f4, row T_api_Temp.k 97 (.slice A85 t77.f5.length c86) t77.f5, row T_api_Trail.k 49 (.slice A89 t77.f6.length c90) t77.f6] ∧ Rd (Kn.int .i64) F114 A1_6 c1_6 x1_.f6 ∧ Rd T_api_Node.k F114 A0_4 c0_4 x0_.f4 ∧ Rd T_api_Temp.k F114 A0_5 c0_5 x0_.f5 ∧ Rd T_api_Trail.k F114 A0_6 c0_6 x0_.f6) 6 135 ?_ (fun hJ => ?_)
       ·
        rintro a u115 ⟨G, b93, A81, c82, A85, c86, A89, c90, F114, hE, hA, hS, g1_6, g0_4, g0_5, g0_6⟩
        obtain ⟨J, hE⟩ := hE.at hA
        replace hS := hS.front 5 rfl
        obtain ⟨F97, hs, g98, hS⟩ := hS.give
        replace g1_6 := g1_6.mono hs
        replace g0_4 := g0_4.mono hs
        replace g0_5 := g0_5.mono hs
        replace g0_6 := g0_6.mono hs
        replace hS := hS.front 5 rfl
        obtain ⟨F99, hs, g100, hS⟩ := hS.give
        replace g98 := g98.mono hs
        replace g1_6 := g1_6.mono hs
        replace g0_4 := g0_4.mono hs
        replace g0_5 := g0_5.mono hs
        replace g0_6 := g0_6.mono hs
        replace hS := hS.front 4 rfl
        refine on1 3 hE (.cl en78 (maps_turned.calls k23 t77 x1_ _ _ _ _ _ _ _ _ _ _ _ (Own.left (X := [row T_api_Node.k 104 (.slice A81 t77.f4.length c82) t77.f4]) hS.own) g98 g100 g1_6 h96)) ?_
        rintro _ u101 a ⟨F102, A103, c104, A107, c108, A110, c111, rfl, hC, g109, g112⟩ hE
        refine ⟨.d, ?_⟩
        have hs := hC.sub
        replace hS := hS.called (X := [row T_api_Node.k 104 (.slice A81 t77.f4.length c82) t77.f4]) hC
        replace g98 := g98.mono hs
        replace g100 := g100.mono hs
        replace g1_6 := g1_6.mono hs
        replace g0_4 := g0_4.mono hs
        replace g0_5 := g0_5.mono hs
        replace g0_6 := g0_6.mono hs
        refine mny 2 hst hE (.r 4 3 .nil) (fun a hE => ?_)
        replace hS := hS.front 4 rfl
        replace hS := hS.front 4 rfl
        replace hS := hS.front 4 rfl
        replace hS := hS.front 4 rfl
        exact hJb _ _ ⟨_, b93, A103, c104, A107, c108, A110, c111, F102, hE, .of, hS, g109, g112, g1_6, g0_4, g0_5, g0_6⟩
       ·
        refine pk2 1 7 ?_ ?_
        ·
         refine pk1 1 hE (.cl en77 (maps_own.calls k23 x0_ _ _ _ _ _ _ _ _ _ hS.own.sub g0_4 g0_5 g0_6 h78)) ?_
         rintro _ u79 a ⟨F80, A81, c82, A85, c86, A89, c90, rfl, hC⟩ hE
         refine ⟨.of hC.agr, ?_⟩
         have hs := hC.sub
         replace hS := hS.called (X := []) hC
         replace g0_4 := g0_4.mono hs
         replace g0_5 := g0_5.mono hs
         replace g0_6 := g0_6.mono hs
         replace g1_6 := g1_6.mono hs
         refine pk2 7 3 ?_ ?_
         ·
          refine pk1 7 hE (.al (t := 26) hS [.int .i64 0, .int .i64 0, .int .i64 0, .int .i64 0, .slice none 0 0, .slice none 0 0, .slice none 0 0]) ?_
          rintro _ u94 a ⟨b93, rfl, hb93, hS, hg⟩ hE
          refine ⟨.of hg, ?_⟩
          replace hS := hS.front 3 rfl
          replace hS := hS.front 3 rfl
          replace hS := hS.front 3 rfl
          replace hS := hS.front 6 rfl
          replace hS := hS.front 6 rfl
          replace hS := hS.front 6 rfl
          replace hS := hS.front 6 rfl
          exact hJ _ _ ⟨_, b93, A81, c82, A85, c86, A89, c90, F80, hE, .of, hS, g1_6, g0_4, g0_5, g0_6⟩
         ·
          replace hS := hS.front 1 rfl
          obtain ⟨F97, hs, g98, hS⟩ := hS.give
          replace g0_4 := g0_4.mono hs
          replace g0_5 := g0_5.mono hs
          replace g0_6 := g0_6.mono hs
          replace g1_6 := g1_6.mono hs
          replace hS := hS.front 1 rfl
          obtain ⟨F99, hs, g100, hS⟩ := hS.give
          replace g0_4 := g0_4.mono hs
          replace g0_5 := g0_5.mono hs
          replace g0_6 := g0_6.mono hs
          replace g98 := g98.mono hs
          replace g1_6 := g1_6.mono hs
          refine pk1 3 hE (.cl en78 (maps_turned.calls k23 t77 x1_ _ _ _ _ _ _ _ _ _ _ _ (Own.left (X := [row T_api_Node.k 104 (.slice A81 t77.f4.length c82) t77.f4]) hS.own) g98 g100 g1_6 h96)) ?_
          rintro _ u101 a ⟨F102, A103, c104, A107, c108, A110, c111, rfl, hC, g109, g112⟩ hE
          refine ⟨.d, ?_⟩
          have hs := hC.sub
          replace hS := hS.called (X := [row T_api_Node.k 104 (.slice A81 t77.f4.length c82) t77.f4]) hC
          replace g0_4 := g0_4.mono hs
          replace g0_5 := g0_5.mono hs
          replace g0_6 := g0_6.mono hs
          replace g98 := g98.mono hs
          replace g100 := g100.mono hs
          replace g1_6 := g1_6.mono hs
          refine mny 3 hst hE (.r 4 3 .nil) (fun a hE => ?_)
          refine on1 7 hE (.al (t := 26) hS [.int .i64 0, .int .i64 0, .int .i64 0, .int .i64 0, .slice none 0 0, .slice none 0 0, .slice none 0 0]) ?_
          rintro _ u94 a ⟨b93, rfl, hb93, hS, hg⟩ hE
          refine ⟨.of hg, ?_⟩
          replace hS := hS.front 1 rfl
          replace hS := hS.front 4 rfl
          replace hS := hS.front 4 rfl
          replace hS := hS.front 4 rfl
          replace hS := hS.front 4 rfl
          exact hJb _ _ ⟨_, b93, A103, c104, A107, c108, A110, c111, F102, hE, .of, hS, g109, g112, g1_6, g0_4, g0_5, g0_6⟩
        ·
         refine pk1 7 hE (.al (t := 26) hS [.int .i64 0, .int .i64 0, .int .i64 0, .int .i64 0, .slice none 0 0, .slice none 0 0, .slice none 0 0]) ?_
         rintro _ u94 a ⟨b93, rfl, hb93, hS, hg⟩ hE
         refine ⟨.of hg, ?_⟩
         refine on1 1 hE (.cl en77 (maps_own.calls k23 x0_ _ _ _ _ _ _ _ _ _ hS.own.sub g0_4 g0_5 g0_6 h78)) ?_
         rintro _ u79 a ⟨F80, A81, c82, A85, c86, A89, c90, rfl, hC⟩ hE
         refine ⟨.of hC.agr, ?_⟩
         have hs := hC.sub
         replace hS := hS.called (X := []) hC
         replace g0_4 := g0_4.mono hs
         replace g0_5 := g0_5.mono hs
         replace g0_6 := g0_6.mono hs
         replace g1_6 := g1_6.mono hs
         replace hS := hS.front 2 rfl
         replace hS := hS.front 2 rfl
         replace hS := hS.front 2 rfl
         replace hS := hS.front 6 rfl
         replace hS := hS.front 6 rfl
         replace hS := hS.front 6 rfl
         replace hS := hS.front 6 rfl
         exact hJ _ _ ⟨_, b93, A81, c82, A85, c86, A89, c90, F80, hE, .of, hS, g1_6, g0_4, g0_5, g0_6⟩
  refine pl0 ?_
  have hb4 := hS.blk_at (i := 1) rfl
  refine plc hE (.r 0 1 <| .b 1 0 hb4 <| .r 2 2 <| .nil) (fun a hE => ?_)
  rcases sp H with ⟨c15, H⟩ | ⟨c15, H⟩
  ·
   replace hE := hE.kt 17 c15
   refine plc hE (.r 4 10 .nil) (fun a hE => pld ?_)
   exact J24 _ (by omega) _ true _ _ hE .of hS H
  ·
   replace hE := hE.kf 17 c15
   refine plc hE (.r 4 1 <| .b 5 0 hb4 <| .r 6 3 <| .nil) (fun a hE => ?_)
   rcases sp H with ⟨c16, H⟩ | ⟨c16, H⟩
   ·
    replace hE := hE.kt 22 c16
    refine plc hE (.r 9 5 .nil) (fun a hE => pld ?_)
    exact J24 _ (by omega) _ true _ _ hE .of hS H
   ·
    replace hE := hE.kf 22 c16
    refine plc hE (.bn 9 0 7 hb4 .nil) (fun a hE => ?_)
    obtain ⟨t18, h19, H⟩ := bd H
    refine ple hE (.cl en76 (maps_bare.calls x1_ _ _ _ _ _ hS.own.sub g1_6 h19)) ?_
    rintro _ u17 a ⟨_, rfl, hC⟩ hE
    replace hS := hS.lent hC
    refine plc hE (.r 11 3 .nil) (fun a hE => pld ?_)
    exact J24 _ (by omega) _ (!t18) _ _ hE .of hS H
 ·
  replace hE := hE.kfn 8 c13
  refine ct hE (wp_seq_k fun K73 hK73 => pl0 (plc hE (.r 0 1 .nil) (fun a hE => ple hE (.sto hS [.int .i64 0, .int .i64 0, .int .i64 0, .int .i64 0, .slice none 0 0, .slice none 0 0, .slice none 0 0]) ?_)))
  rintro _ u74 a ⟨rfl, hb6, hS, hz⟩ hE
  refine plc hE (.r 2 1 .nil) (fun a hE => pld (hK73 _ _ (wp_ret (block_ret (then_ret ?_)))))
  replace hS := hS.nilrow T_api_Trail.k 49
  replace hS := hS.front 1 rfl
  replace hS := hS.tail
  replace hS := hS.front 1 rfl
  replace hS := hS.tail
  replace hS := hS.front 1 rfl
  replace hS := hS.tail
  obtain rfl := si H
  exact retN hE rfl (of_decide_eq_true rfl) (.cell (by kernel_rfl) (res_blk [.int .i64 0, .int .i64 0, .int .i64 0, .int .i64 0, .slice none 0 0, .slice none 0 0, .slice none 0 0] ag26 sz26 hb6 rfl) (.tmp (by kernel_rfl) .nil)) ⟨_, rfl, _, _, _, _, _, _, _, rfl, hS, (Rd.nil _ _), (Rd.nil _ _)⟩

/-! ### windrose/maps.Raw: function 22 -/
def maps_Raw.j14 : Nat → T_api_Map → Int → Bool → Option (List Int)
  | 0, _, _, _ => none
  | k + 1, x0_, x1_, y13 => if y13 = true then (some []) else ((maps_raw.f k x0_ x1_).bind fun t24 => (some t24))
theorem maps_Raw.j14_s (k : Nat) (x0_ : T_api_Map) (x1_ : Int) (y13 : Bool) : maps_Raw.j14 (k + 1) x0_ x1_ y13 = (if y13 = true then (some []) else ((maps_raw.f k x0_ x1_).bind fun t24 => (some t24))) := by kernel_rfl
def maps_Raw.f (k : Nat) (x0_ : T_api_Map) (x1_ : Int) : Option (List Int) := (maps_Check.f k x0_).bind fun t7 => (if t7 = 0 then ((maps_in.f x1_ 0 (w64 (x0_.f3 - 1))).bind fun t11 => (maps_Raw.j14 k x0_ x1_ (!t11))) else (maps_Raw.j14 k x0_ x1_ true))
def maps_Raw.Post (W F : World) (r : List Int) (v : Value) (w' : World) : Prop := ∃ (F' : World) (RA0_0 : Option Addr) (rc0_0 : Nat), v = .slice RA0_0 r.length rc0_0 ∧ St W (mine W []) F w' F' [row (Kn.int .i64) 3 (.slice RA0_0 r.length rc0_0) r]
theorem maps_Raw.calls (k : Nat) (x0_ : T_api_Map) (x1_ : Int) (A0_4 : Option Addr) (c0_4 : Nat) (A0_5 : Option Addr) (c0_5 : Nat) (A0_6 : Option Addr) (c0_6 : Nat) (r : List Int) (W F : World) (hown : Sub F W) (g0_4 : Rd T_api_Node.k F A0_4 c0_4 x0_.f4) (g0_5 : Rd T_api_Temp.k F A0_5 c0_5 x0_.f5) (g0_6 : Rd T_api_Trail.k F A0_6 c0_6 x0_.f6) (H : maps_Raw.f k x0_ x1_ = some r) :
    Calls Tryz.prog 22 #[.agg #[.int .i64 x0_.f0, .int .i64 x0_.f1, .int .i64 x0_.f2, .int .i64 x0_.f3, .slice A0_4 x0_.f4.length c0_4, .slice A0_5 x0_.f5.length c0_5, .slice A0_6 x0_.f6.length c0_6], .int .i64 x1_] W fun e w' => ∃ v, e = .returned v ∧ maps_Raw.Post W F r v w' := by
 have hS := St.start (Own.nil hown)
 unfold maps_Raw.f at H
 refine enter (n := 19) rfl rfl rfl (Nat.le_of_ble_eq_true rfl) (fun a hE => ?_)
 refine wp_seq_k fun K1 hK1 => pl0 (ple hE (.bx (t := 26) hS [.int .i64 x0_.f0, .int .i64 x0_.f1, .int .i64 x0_.f2, .int .i64 x0_.f3, .slice A0_4 x0_.f4.length c0_4, .slice A0_5 x0_.f5.length c0_5, .slice A0_6 x0_.f6.length c0_6]) ?_)
 rintro _ u3 a ⟨b2, rfl, hb2, hS, hg⟩ hE
 refine plc hE (.r 1 1 .nil) (fun a hE => pld (hK1 _ _ (wp_seq_k fun K4 hK4 => wp_seq_k fun K5 hK5 => ?_)))
 have J17 : ∀ kq15, kq15 ≤ k → ∀ (G : Nat → Value) (y13 : Bool) (a : Act) (w' : World), Env 19 G a → At G [(1, .int .i64 x1_), (2, .pointer (some ⟨b2, 0, none⟩)), (15, .bool y13)] → St W (mine W []) F w' F [box b2 #[.int .i64 x0_.f0, .int .i64 x0_.f1, .int .i64 x0_.f2, .int .i64 x0_.f3, .slice A0_4 x0_.f4.length c0_4, .slice A0_5 x0_.f5.length c0_5, .slice A0_6 x0_.f6.length c0_6] 26] → maps_Raw.j14 kq15 x0_ x1_ y13 = some r → K5 a w' := by
  intro kq15 hkq G y13 a u18 hE hA hS H
  cases kq15 with
  | zero => cases (show none = some r from H)
  | succ k16 =>
   rw [maps_Raw.j14_s] at H
   obtain ⟨J, hE⟩ := hE.at hA
   refine hK5 _ _ ?_
   rcases sp H with ⟨c19, H⟩ | ⟨c19, H⟩
   ·
    replace hE := hE.bt 15 c19
    refine ct hE (wp_seq_k fun K20 hK20 => pl0 (plc hE (.r 0 1 .nil) (fun a hE => pld (hK20 _ _ (wp_ret (then_ret ?_))))))
    replace hS := hS.nilrow (Kn.int .i64) 3
    replace hS := hS.front 1 rfl
    replace hS := hS.tail
    obtain rfl := si H
    exact rt1 hE ⟨_, rfl, _, _, _, rfl, hS⟩
   ·
    replace hE := hE.bf 15 c19
    refine cf hE (wp_skip (hK4 _ _ (wp_seq_k fun K22 hK22 => pl0 ?_)))
    have hb2 := hS.blk_at (i := 0) rfl
    refine plc hE (.bn 0 0 7 hb2 <| .r 1 1 <| .nil) (fun a hE => ?_)
    obtain ⟨t24, h25, H⟩ := bd H
    refine ple hE (.cl en71 (maps_raw.calls k16 x0_ x1_ _ _ _ _ _ _ _ _ _ hS.own.sub g0_4 g0_5 g0_6 h25)) ?_
    rintro _ u23 a ⟨F26, A27, c28, rfl, hC⟩ hE
    have hs := hC.sub
    replace hS := hS.called (X := []) hC
    replace g0_4 := g0_4.mono hs
    replace g0_5 := g0_5.mono hs
    replace g0_6 := g0_6.mono hs
    refine plc hE (.r 3 1 .nil) (fun a hE => pld (hK22 _ _ (wp_ret ?_)))
    replace hS := hS.front 1 rfl
    replace hS := hS.tail
    obtain rfl := si H
    exact rt1 hE ⟨_, rfl, _, _, _, rfl, hS⟩
 refine pl0 (plc hE (.bn 0 0 7 hb2 .nil) (fun a hE => ?_))
 obtain ⟨t7, h8, H⟩ := bd H
 refine ple hE (.cl en32 (maps_Check.calls k x0_ _ _ _ _ _ _ _ _ _ hS.own.sub g0_4 g0_5 g0_6 h8)) ?_
 rintro _ u6 a ⟨_, rfl, hC⟩ hE
 replace hS := hS.lent hC
 refine plc hE (.r 2 2 .nil) (fun a hE => ?_)
 rcases sp H with ⟨c9, H⟩ | ⟨c9, H⟩
 ·
  replace hE := hE.ktn 8 c9
  have hb2 := hS.blk_at (i := 0) rfl
  refine plc hE (.r 4 2 <| .b 6 3 hb2 <| .r 7 1 <| .nil) (fun a hE => ?_)
  obtain ⟨t11, h12, H⟩ := bd H
  refine ple hE (.cl en70 (maps_in.calls x1_ 0 (w64 (x0_.f3 - 1)) _ _ _ hS.own.sub h12)) ?_
  rintro _ u10 a ⟨_, rfl, hC⟩ hE
  replace hS := hS.lent hC
  refine plc hE (.r 9 2 .nil) (fun a hE => pld ?_)
  exact J17 _ (by omega) _ (!t11) _ _ hE .of hS H
 ·
  replace hE := hE.kfn 8 c9
  refine plc hE (.r 4 7 .nil) (fun a hE => pld ?_)
  exact J17 _ (by omega) _ true _ _ hE .of hS H

/-! ### windrose/windroseref02.Ints: function 21 -/
def windroseref02_Ints.l9 : Nat → List Int → List Int → Int → Option Bool
  | 0, _, _, _ => none
  | k + 1, x0_, x1_, x8 => if x8 < (x0_.length : Int) then (if 0 ≤ x8 ∧ x8 < (x0_.length : Int) then (if 0 ≤ x8 ∧ x8 < (x1_.length : Int) then (if (nth 0 x0_ x8) = (nth 0 x1_ x8) then (windroseref02_Ints.l9 k x0_ x1_ (w64 (x8 + 1))) else (some false)) else (none)) else (none)) else (some true)
theorem windroseref02_Ints.l9_s (k : Nat) (x0_ : List Int) (x1_ : List Int) (x8 : Int) : windroseref02_Ints.l9 (k + 1) x0_ x1_ x8 = (if x8 < (x0_.length : Int) then (if 0 ≤ x8 ∧ x8 < (x0_.length : Int) then (if 0 ≤ x8 ∧ x8 < (x1_.length : Int) then (if (nth 0 x0_ x8) = (nth 0 x1_ x8) then (windroseref02_Ints.l9 k x0_ x1_ (w64 (x8 + 1))) else (some false)) else (none)) else (none)) else (some true)) := by kernel_rfl
def windroseref02_Ints.f (k : Nat) (x0_ : List Int) (x1_ : List Int) : Option Bool := if (x0_.length : Int) = (x1_.length : Int) then (windroseref02_Ints.l9 k x0_ x1_ 0) else (some false)
def windroseref02_Ints.Post (W F : World) (r : Bool) (v : Value) (w' : World) : Prop := ∃ (F' : World), v = .bool r ∧ St W (mine W []) F w' F' []
theorem windroseref02_Ints.calls (k : Nat) (x0_ : List Int) (x1_ : List Int) (A0_0 : Option Addr) (c0_0 : Nat) (A1_0 : Option Addr) (c1_0 : Nat) (r : Bool) (W F : World) (hown : Sub F W) (g0_0 : Rd (Kn.int .i64) F A0_0 c0_0 x0_) (g1_0 : Rd (Kn.int .i64) F A1_0 c1_0 x1_) (H : windroseref02_Ints.f k x0_ x1_ = some r) :
    Calls Tryz.prog 21 #[.slice A0_0 x0_.length c0_0, .slice A1_0 x1_.length c1_0] W fun e w' => ∃ v, e = .returned v ∧ windroseref02_Ints.Post W F r v w' := by
 have hS := St.start (Own.nil hown)
 unfold windroseref02_Ints.f at H
 refine enter (n := 26) rfl rfl rfl (Nat.le_of_ble_eq_true rfl) (fun a hE => ?_)
 refine wp_seq_k fun K1 hK1 => pl0 (plc hE (.r 0 1 .nil) (fun a hE => pld (hK1 _ _ (wp_seq_k fun K2 hK2 => wp_seq_k fun K3 hK3 => pl0 (plc hE (.r 0 5 .nil) (fun a hE => pld (hK3 _ _ ?_)))))))
 rcases sp H with ⟨c4, H⟩ | ⟨c4, H⟩
 ·
  replace hE := hE.ktn 10 c4
  refine cf hE (wp_skip (hK2 _ _ (wp_seq_k fun K6 hK6 => wp_seq_k fun K7 hK7 => pl0 (plc hE (.r 0 1 .nil) (fun a hE => pld (hK7 _ _ (wp_block ?_)))))))
  refine wp_loop_ghost (fun kq10 a w' => ∃ (G : Nat → Value) (x8 : Int), kq10 ≤ k ∧ Env 26 G a ∧ At G [(0, .slice A0_0 x0_.length c0_0), (1, .slice A1_0 x1_.length c1_0), (5, .int .i64 x8)] ∧ St W (mine W []) F w' F [] ∧  windroseref02_Ints.l9 kq10 x0_ x1_ x8 = some r) k ⟨_, 0, Nat.le_refl _, hE, .of, hS, H⟩ ?_
  rintro kq10 a u12 ⟨G, x8, hkq, hE, hA, hS, H⟩
  cases kq10 with
  | zero => cases (show none = some r from H)
  | succ k11 =>
   rw [windroseref02_Ints.l9_s] at H
   obtain ⟨J, hE⟩ := hE.at hA
   refine wp_seq_k fun K13 hK13 => wp_seq_k fun K14 hK14 => pl0 (plc hE (.r 0 4 .nil) (fun a hE => pld (hK14 _ _ ?_)))
   rcases sp H with ⟨c15, H⟩ | ⟨c15, H⟩
   ·
    replace hE := hE.kt 14 c15
    refine ct hE (wp_skip (hK13 _ _ (wp_seq_k fun K16 hK16 => wp_block (wp_seq_k fun K17 hK17 => ?_))))
    refine drawn 9 ⟨[], [], fun q => False⟩ mixed rfl (by kernel_rfl) (fun hst => ?_)
    replace hS := hS.drew
    obtain ⟨c18, H⟩ := gd H
    have hE_ := hE
    obtain ⟨ad19, rfl⟩ := g0_0.addr c18.1 c18.2
    replace hE := hE_
    obtain ⟨cs21, rfl, hc22⟩ := g0_0.el 0 x8 c18.1 c18.2
    obtain ⟨c23, H⟩ := gd H
    have hE_ := hE
    obtain ⟨ad24, rfl⟩ := g1_0.addr c23.1 c23.2
    replace hE := hE_
    obtain ⟨cs26, rfl, hc27⟩ := g1_0.el 0 x8 c23.1 c23.2
    refine mny 0 hst hE (.r 0 2 <| .x 2 c18 <| .c 3 (hS.fc hc22 0) <| .r 4 2 <| .x 6 c23 <| .c 7 (hS.fc hc27 0) <| .r 8 1 <| .nil) (fun a hE => ?_)
    refine dn ?_
    refine hK17 _ _ ?_
    rcases sp H with ⟨c28, H⟩ | ⟨c28, H⟩
    ·
     replace hE := hE.ktn 25 c28
     refine cf hE (wp_skip ?_)
     refine block_n ?_
     refine hK16 _ _ (pl0 (plc hE (.r 0 3 .nil) (fun a hE => pld ?_)))
     exact then_n ⟨k11, by omega, _, (w64 (x8 + 1)), by omega, hE, .of, hS, H⟩
    ·
     replace hE := hE.kfn 25 c28
     refine ct hE (wp_seq_k fun K29 hK29 => pl0 (plc hE (.r 0 1 .nil) (fun a hE => pld (hK29 _ _ (wp_ret (block_ret (then_ret (then_ret (block_ret (then_ret ?_))))))))))
     obtain rfl := si H
     exact rt1 hE ⟨_, rfl, _, rfl, hS⟩
   ·
    replace hE := hE.kf 14 c15
    refine cf hE ?_
    refine wp_exit ?_
    refine hK6 _ _ (wp_seq_k fun K30 hK30 => pl0 (plc hE (.r 0 1 .nil) (fun a hE => pld (hK30 _ _ (wp_ret ?_)))))
    obtain rfl := si H
    exact rt1 hE ⟨_, rfl, _, rfl, hS⟩
 ·
  replace hE := hE.kfn 10 c4
  refine ct hE (wp_seq_k fun K5 hK5 => pl0 (plc hE (.r 0 1 .nil) (fun a hE => pld (hK5 _ _ (wp_ret (then_ret ?_))))))
  obtain rfl := si H
  exact rt1 hE ⟨_, rfl, _, rfl, hS⟩

/-! ### windrose/maps.Acting: function 24 -/
def maps_Acting.f (k : Nat) (x0_ : T_api_Map) (x1_ : Int) : Option (List Int) := (maps_Raw.f k x0_ x1_).bind fun t6 => ((maps_up.f k x0_ t6).bind fun t14 => (some t14))
def maps_Acting.Post (W F : World) (r : List Int) (v : Value) (w' : World) : Prop := ∃ (F' : World) (RA0_0 : Option Addr) (rc0_0 : Nat), v = .slice RA0_0 r.length rc0_0 ∧ St W (mine W []) F w' F' [row (Kn.int .i64) 3 (.slice RA0_0 r.length rc0_0) r]
theorem maps_Acting.calls (k : Nat) (x0_ : T_api_Map) (x1_ : Int) (A0_4 : Option Addr) (c0_4 : Nat) (A0_5 : Option Addr) (c0_5 : Nat) (A0_6 : Option Addr) (c0_6 : Nat) (r : List Int) (W F : World) (hown : Sub F W) (g0_4 : Rd T_api_Node.k F A0_4 c0_4 x0_.f4) (g0_5 : Rd T_api_Temp.k F A0_5 c0_5 x0_.f5) (g0_6 : Rd T_api_Trail.k F A0_6 c0_6 x0_.f6) (H : maps_Acting.f k x0_ x1_ = some r) :
    Calls Tryz.prog 24 #[.agg #[.int .i64 x0_.f0, .int .i64 x0_.f1, .int .i64 x0_.f2, .int .i64 x0_.f3, .slice A0_4 x0_.f4.length c0_4, .slice A0_5 x0_.f5.length c0_5, .slice A0_6 x0_.f6.length c0_6], .int .i64 x1_] W fun e w' => ∃ v, e = .returned v ∧ maps_Acting.Post W F r v w' := by
 have hS := St.start (Own.nil hown)
 unfold maps_Acting.f at H
 refine enter (n := 10) rfl rfl rfl (Nat.le_of_ble_eq_true rfl) (fun a hE => ?_)
 refine wp_seq_k fun K1 hK1 => pl0 (ple hE (.bx (t := 26) hS [.int .i64 x0_.f0, .int .i64 x0_.f1, .int .i64 x0_.f2, .int .i64 x0_.f3, .slice A0_4 x0_.f4.length c0_4, .slice A0_5 x0_.f5.length c0_5, .slice A0_6 x0_.f6.length c0_6]) ?_)
 rintro _ u3 a ⟨b2, rfl, hb2, hS, hg⟩ hE
 refine plc hE (.r 1 1 .nil) (fun a hE => pld (hK1 _ _ (wp_seq_k fun K4 hK4 => ?_)))
 refine drawn 6 ⟨[4], [], fun q => False⟩ mixed rfl (by kernel_rfl) (fun hst => ?_)
 replace hS := hS.drew
 have hb2 := hS.blk_at (i := 0) rfl
 refine mny 3 hst hE (.bn 0 0 7 hb2 <| .bn 1 0 7 hb2 <| .r 2 1 <| .nil) (fun a hE => ?_)
 obtain ⟨t6, h7, H⟩ := bd H
 refine on1 3 hE (.cl en22 (maps_Raw.calls k x0_ x1_ _ _ _ _ _ _ _ _ _ hS.own.sub g0_4 g0_5 g0_6 h7)) ?_
 rintro _ u5 a ⟨F8, A9, c10, rfl, hC⟩ hE
 refine ⟨.of hC.agr, ?_⟩
 have hs := hC.sub
 replace hS := hS.called (X := []) hC
 replace g0_4 := g0_4.mono hs
 replace g0_5 := g0_5.mono hs
 replace g0_6 := g0_6.mono hs
 obtain ⟨t14, h15, H⟩ := bd H
 refine on1 4 hE (.cl en74 (maps_up.calls k x0_ t6 _ _ _ _ _ _ _ _ _ _ _ (Own.left (X := [row (Kn.int .i64) 3 (.slice A9 t6.length c10) t6]) hS.own) g0_4 g0_5 g0_6 h15)) ?_
 rintro _ u13 a ⟨F16, A17, c18, rfl, hC⟩ hE
 refine ⟨.d, ?_⟩
 have hs := hC.sub
 replace hS := hS.called (X := [row (Kn.int .i64) 3 (.slice A9 t6.length c10) t6]) hC
 replace g0_4 := g0_4.mono hs
 replace g0_5 := g0_5.mono hs
 replace g0_6 := g0_6.mono hs
 refine mny 0 hst hE (.r 5 1 .nil) (fun a hE => ?_)
 refine dn ?_
 refine hK4 _ _ (wp_ret ?_)
 replace hS := hS.front 1 rfl
 replace hS := hS.tail
 obtain rfl := si H
 exact rt1 hE ⟨_, rfl, _, _, _, rfl, hS⟩

/-! ### windrose/windroselaw08.awake: function 17 -/
def windroselaw08_awake.f (k : Nat) : Option Bool := (maps_New.f k 3 2 4).bind fun t4 => ((maps_Apply.f k t4.1 (⟨1, 5, 1, 1, 3, 0, []⟩ : T_api_Delta)).bind fun t24 => ((maps_Apply.f k t24.1 (⟨3, 5, 0, 0, 0, 0, []⟩ : T_api_Delta)).bind fun t42 => (if t4.2 = 0 then (if t24.2 = 0 then (if t42.2 = 0 then (if t42.1.f0 = 2 then ((maps_Raw.f k t24.1 0).bind fun t64 => ((windroseref02_Ints.f k t64 [5]).bind fun t76 => (if t76 = true then ((maps_Acting.f k t24.1 0).bind fun t80 => (if (t80.length : Int) = 0 then ((maps_Acting.f k t42.1 0).bind fun t91 => ((windroseref02_Ints.f k t91 [5]).bind fun t103 => (some t103))) else (some false))) else (some false)))) else (some false)) else (some false)) else (some false)) else (some false))))
def windroselaw08_awake.Post (W F : World) (r : Bool) (v : Value) (w' : World) : Prop := ∃ (F' : World), v = .bool r ∧ St W (mine W []) F w' F' []
theorem windroselaw08_awake.calls (k : Nat) (r : Bool) (W F : World) (hown : Sub F W) (H : windroselaw08_awake.f k = some r) :
    Calls Tryz.prog 17 #[] W fun e w' => ∃ v, e = .returned v ∧ windroselaw08_awake.Post W F r v w' := by
 have hS := St.start (Own.nil hown)
 unfold windroselaw08_awake.f at H
 refine enter (n := 55) rfl rfl rfl (Nat.le_of_ble_eq_true rfl) (fun a hE => ?_)
 refine wp_seq_k fun K1 hK1 => pl0 (plc hE (.r 0 1 .nil) (fun a hE => pld (hK1 _ _ (wp_seq_k fun K2 hK2 => pl0 ?_))))
 obtain ⟨t4, h5, H⟩ := bd H
 refine ple hE (.cl en15 (maps_New.calls k 3 2 4 _ _ _ hS.own.sub h5)) ?_
 rintro _ u3 a ⟨F6, A7, c8, A10, c11, A13, c14, rfl, hC, g9, g12⟩ hE
 have hs := hC.sub
 replace hS := hS.called (X := []) hC
 refine plc hE (.r 1 3 .nil) (fun a hE => ple hE (.al (t := 26) hS [.int .i64 0, .int .i64 0, .int .i64 0, .int .i64 0, .slice none 0 0, .slice none 0 0, .slice none 0 0]) ?_)
 rintro _ u18 a ⟨b17, rfl, hb17, hS, hg⟩ hE
 refine ple hE (.sto hS [.int .i64 t4.1.f0, .int .i64 t4.1.f1, .int .i64 t4.1.f2, .int .i64 t4.1.f3, .slice A7 t4.1.f4.length c8, .slice A10 t4.1.f5.length c11, .slice A13 t4.1.f6.length c14]) ?_
 rintro _ u19 a ⟨rfl, hb17, hS, hz⟩ hE
 refine plc hE (.r 6 1 .nil) (fun a hE => pld (hK2 _ _ (wp_seq_k fun K20 hK20 => pl0 (plc hE (.bn 0 0 7 hb17 <| .r 1 1 <| .nil) (fun a hE => ?_)))))
 replace hS := hS.front 1 rfl
 obtain ⟨F21, hs, g22, hS⟩ := hS.give
 replace g9 := g9.mono hs
 replace g12 := g12.mono hs
 obtain ⟨t24, h25, H⟩ := bd H
 refine ple hE (.cl en26 (maps_Apply.calls k t4.1 (⟨1, 5, 1, 1, 3, 0, []⟩ : T_api_Delta) _ _ _ _ _ _ _ _ _ _ _ hS.own.sub g9 g12 g22 (Rd.nil _ _) h25)) ?_
 rintro _ u23 a ⟨F26, A27, c28, A30, c31, A33, c34, rfl, hC, g29, g32⟩ hE
 have hs := hC.sub
 replace hS := hS.called (X := []) hC
 replace g9 := g9.mono hs
 replace g12 := g12.mono hs
 replace g22 := g22.mono hs
 refine plc hE (.r 3 3 .nil) (fun a hE => ?_)
 replace hS := hS.front 1 rfl
 refine ple hE (.sto hS [.int .i64 t24.1.f0, .int .i64 t24.1.f1, .int .i64 t24.1.f2, .int .i64 t24.1.f3, .slice A27 t24.1.f4.length c28, .slice A30 t24.1.f5.length c31, .slice A33 t24.1.f6.length c34]) ?_
 rintro _ u37 a ⟨rfl, hb17, hS, hz⟩ hE
 refine plc hE (.r 7 1 .nil) (fun a hE => pld (hK20 _ _ (wp_seq_k fun K38 hK38 => pl0 (plc hE (.bn 0 0 7 hb17 <| .r 1 1 <| .nil) (fun a hE => ?_)))))
 replace hS := hS.front 1 rfl
 obtain ⟨F39, hs, g40, hS⟩ := hS.give
 replace g9 := g9.mono hs
 replace g12 := g12.mono hs
 replace g22 := g22.mono hs
 replace g29 := g29.mono hs
 replace g32 := g32.mono hs
 obtain ⟨t42, h43, H⟩ := bd H
 refine ple hE (.cl en26 (maps_Apply.calls k t24.1 (⟨3, 5, 0, 0, 0, 0, []⟩ : T_api_Delta) _ _ _ _ _ _ _ _ _ _ _ hS.own.sub g29 g32 g40 (Rd.nil _ _) h43)) ?_
 rintro _ u41 a ⟨F44, A45, c46, A48, c49, A51, c52, rfl, hC, g47, g50⟩ hE
 have hs := hC.sub
 replace hS := hS.called (X := []) hC
 replace g9 := g9.mono hs
 replace g12 := g12.mono hs
 replace g22 := g22.mono hs
 replace g29 := g29.mono hs
 replace g32 := g32.mono hs
 replace g40 := g40.mono hs
 refine plc hE (.r 3 3 .nil) (fun a hE => ple hE (.al (t := 26) hS [.int .i64 0, .int .i64 0, .int .i64 0, .int .i64 0, .slice none 0 0, .slice none 0 0, .slice none 0 0]) ?_)
 rintro _ u56 a ⟨b55, rfl, hb55, hS, hg⟩ hE
 refine ple hE (.sto hS [.int .i64 t42.1.f0, .int .i64 t42.1.f1, .int .i64 t42.1.f2, .int .i64 t42.1.f3, .slice A45 t42.1.f4.length c46, .slice A48 t42.1.f5.length c49, .slice A51 t42.1.f6.length c52]) ?_
 rintro _ u57 a ⟨rfl, hb55, hS, hz⟩ hE
 refine plc hE (.r 8 1 .nil) (fun a hE => pld (hK38 _ _ (wp_seq_k fun K58 hK58 => pl0 (plc hE (.r 0 3 .nil) (fun a hE => ?_)))))
 rcases sp H with ⟨c59, H⟩ | ⟨c59, H⟩
 ·
  replace hE := hE.kt 24 c59
  refine plc hE (.r 3 4 .nil) (fun a hE => ?_)
  rcases sp H with ⟨c60, H⟩ | ⟨c60, H⟩
  ·
   replace hE := hE.kt 28 c60
   refine plc hE (.r 7 4 .nil) (fun a hE => ?_)
   rcases sp H with ⟨c61, H⟩ | ⟨c61, H⟩
   ·
    replace hE := hE.kt 32 c61
    refine plc hE (.r 11 1 <| .b 12 0 hb55 <| .r 13 3 <| .nil) (fun a hE => ?_)
    rcases sp H with ⟨c62, H⟩ | ⟨c62, H⟩
    ·
     replace hE := hE.kt 37 c62
     have hb17 := hS.blk_at (i := 2) rfl
     refine plc hE (.bn 16 0 7 hb17 .nil) (fun a hE => ?_)
     obtain ⟨t64, h65, H⟩ := bd H
     refine ple hE (.cl en22 (maps_Raw.calls k t24.1 0 _ _ _ _ _ _ _ _ _ hS.own.sub g29 g32 g40 h65)) ?_
     rintro _ u63 a ⟨F66, A67, c68, rfl, hC⟩ hE
     have hs := hC.sub
     replace hS := hS.called (X := []) hC
     replace g9 := g9.mono hs
     replace g12 := g12.mono hs
     replace g22 := g22.mono hs
     replace g29 := g29.mono hs
     replace g32 := g32.mono hs
     replace g40 := g40.mono hs
     replace g47 := g47.mono hs
     replace g50 := g50.mono hs
     refine ple hE (.lit (d := (Kn.int .i64)) (e := 3) hS [5] (.cons rfl .nil)) ?_
     rintro _ u71 a ⟨A72, c73, rfl, hS, hg⟩ hE
     obtain ⟨t76, h77, H⟩ := bd H
     refine ple hE (.cl en21 (windroseref02_Ints.calls k t64 [5] _ _ _ _ _ _ _ (Sub.refl _) (hS.rd_at (i := 1) rfl) (hS.rd_at (i := 0) rfl) h77)) ?_
     rintro _ u75 a ⟨_, rfl, hC⟩ hE
     replace hS := hS.lent hC
     refine plc hE (.r 20 2 .nil) (fun a hE => ?_)
     rcases sp H with ⟨c78, H⟩ | ⟨c78, H⟩
     ·
      replace hE := hE.bt 43 c78
      have hb17 := hS.blk_at (i := 4) rfl
      refine plc hE (.bn 22 0 7 hb17 .nil) (fun a hE => ?_)
      obtain ⟨t80, h81, H⟩ := bd H
      refine ple hE (.cl en24 (maps_Acting.calls k t24.1 0 _ _ _ _ _ _ _ _ _ hS.own.sub g29 g32 g40 h81)) ?_
      rintro _ u79 a ⟨F82, A83, c84, rfl, hC⟩ hE
      have hs := hC.sub
      replace hS := hS.called (X := []) hC
      replace g9 := g9.mono hs
      replace g12 := g12.mono hs
      replace g22 := g22.mono hs
      replace g29 := g29.mono hs
      replace g32 := g32.mono hs
      replace g40 := g40.mono hs
      replace g47 := g47.mono hs
      replace g50 := g50.mono hs
      refine plc hE (.r 24 4 .nil) (fun a hE => ?_)
      rcases sp H with ⟨c87, H⟩ | ⟨c87, H⟩
      ·
       replace hE := hE.kt 49 c87
       have hb55 := hS.blk_at (i := 3) rfl
       refine plc hE (.bn 28 0 7 hb55 .nil) (fun a hE => ?_)
       replace hS := hS.front 4 rfl
       obtain ⟨F88, hs, g89, hS⟩ := hS.give
       replace g9 := g9.mono hs
       replace g12 := g12.mono hs
       replace g22 := g22.mono hs
       replace g29 := g29.mono hs
       replace g32 := g32.mono hs
       replace g40 := g40.mono hs
       replace g47 := g47.mono hs
       replace g50 := g50.mono hs
       obtain ⟨t91, h92, H⟩ := bd H
       refine ple hE (.cl en24 (maps_Acting.calls k t42.1 0 _ _ _ _ _ _ _ _ _ hS.own.sub g47 g50 g89 h92)) ?_
       rintro _ u90 a ⟨F93, A94, c95, rfl, hC⟩ hE
       have hs := hC.sub
       replace hS := hS.called (X := []) hC
       replace g9 := g9.mono hs
       replace g12 := g12.mono hs
       replace g22 := g22.mono hs
       replace g29 := g29.mono hs
       replace g32 := g32.mono hs
       replace g40 := g40.mono hs
       replace g47 := g47.mono hs
       replace g50 := g50.mono hs
       replace g89 := g89.mono hs
       refine ple hE (.lit (d := (Kn.int .i64)) (e := 3) hS [5] (.cons rfl .nil)) ?_
       rintro _ u98 a ⟨A99, c100, rfl, hS, hg⟩ hE
       obtain ⟨t103, h104, H⟩ := bd H
       refine ple hE (.cl en21 (windroseref02_Ints.calls k t91 [5] _ _ _ _ _ _ _ (Sub.refl _) (hS.rd_at (i := 1) rfl) (hS.rd_at (i := 0) rfl) h104)) ?_
       rintro _ u102 a ⟨_, rfl, hC⟩ hE
       replace hS := hS.lent hC
       refine plc hE (.r 32 2 .nil) (fun a hE => pld (hK58 _ _ (wp_ret ?_)))
       replace hS := hS.tail
       replace hS := hS.tail
       replace hS := hS.tail
       replace hS := hS.tail
       replace hS := hS.tail
       replace hS := hS.tail
       replace hS := hS.tail
       obtain rfl := si H
       exact rt1 hE ⟨_, rfl, _, rfl, hS⟩
      ·
       replace hE := hE.kf 49 c87
       refine plc hE (.r 28 6 .nil) (fun a hE => pld (hK58 _ _ (wp_ret ?_)))
       replace hS := hS.tail
       replace hS := hS.tail
       replace hS := hS.tail
       replace hS := hS.tail
       replace hS := hS.tail
       replace hS := hS.tail
       obtain rfl := si H
       exact rt1 hE ⟨_, rfl, _, rfl, hS⟩
     ·
      replace hE := hE.bf 43 c78
      refine plc hE (.r 22 12 .nil) (fun a hE => pld (hK58 _ _ (wp_ret ?_)))
      replace hS := hS.tail
      replace hS := hS.tail
      replace hS := hS.tail
      replace hS := hS.tail
      replace hS := hS.tail
      obtain rfl := si H
      exact rt1 hE ⟨_, rfl, _, rfl, hS⟩
    ·
     replace hE := hE.kf 37 c62
     refine plc hE (.r 16 18 .nil) (fun a hE => pld (hK58 _ _ (wp_ret ?_)))
     replace hS := hS.tail
     replace hS := hS.tail
     replace hS := hS.tail
     obtain rfl := si H
     exact rt1 hE ⟨_, rfl, _, rfl, hS⟩
   ·
    replace hE := hE.kf 32 c61
    refine plc hE (.r 11 23 .nil) (fun a hE => pld (hK58 _ _ (wp_ret ?_)))
    replace hS := hS.tail
    replace hS := hS.tail
    replace hS := hS.tail
    obtain rfl := si H
    exact rt1 hE ⟨_, rfl, _, rfl, hS⟩
  ·
   replace hE := hE.kf 28 c60
   refine plc hE (.r 7 27 .nil) (fun a hE => pld (hK58 _ _ (wp_ret ?_)))
   replace hS := hS.tail
   replace hS := hS.tail
   replace hS := hS.tail
   obtain rfl := si H
   exact rt1 hE ⟨_, rfl, _, rfl, hS⟩
 ·
  replace hE := hE.kf 24 c59
  refine plc hE (.r 3 31 .nil) (fun a hE => pld (hK58 _ _ (wp_ret ?_)))
  replace hS := hS.tail
  replace hS := hS.tail
  replace hS := hS.tail
  obtain rfl := si H
  exact rt1 hE ⟨_, rfl, _, rfl, hS⟩

/-! ### windrose/windroseref06.May: function 67 -/
mutual
def windroseref06_May.l5 : Nat → List T_api_Node → Int → Option Bool
  | 0, _, _ => none
  | k + 1, x0_, x4 => if x4 < (x0_.length : Int) then (if 0 ≤ x4 ∧ x4 < (x0_.length : Int) then (if (nth T_api_Node.z x0_ x4).f0 < 1 then (windroseref06_May.j37 k x0_ x4 true) else (if (nth T_api_Node.z x0_ x4).f0 > 999 then (windroseref06_May.j37 k x0_ x4 true) else (if (nth T_api_Node.z x0_ x4).f1 < 1 then (windroseref06_May.j37 k x0_ x4 true) else (if (nth T_api_Node.z x0_ x4).f1 > 9 then (windroseref06_May.j37 k x0_ x4 true) else (if (nth T_api_Node.z x0_ x4).f2 < 1 then (windroseref06_May.j37 k x0_ x4 true) else (if (nth T_api_Node.z x0_ x4).f2 > 9 then (windroseref06_May.j37 k x0_ x4 true) else (if (nth T_api_Node.z x0_ x4).f3 < 0 then (windroseref06_May.j37 k x0_ x4 true) else (if (nth T_api_Node.z x0_ x4).f3 > 65536 then (windroseref06_May.j37 k x0_ x4 true) else (if x4 > 0 then (if 0 ≤ (w64 (x4 - 1)) ∧ (w64 (x4 - 1)) < (x0_.length : Int) then (windroseref06_May.j37 k x0_ x4 (decide ((nth T_api_Node.z x0_ (w64 (x4 - 1))).f0 ≥ (nth T_api_Node.z x0_ x4).f0))) else (none)) else (windroseref06_May.j37 k x0_ x4 false)))))))))) else (none)) else (some (decide ((x0_.length : Int) ≤ 12)))
def windroseref06_May.j37 : Nat → List T_api_Node → Int → Bool → Option Bool
  | 0, _, _, _ => none
  | k + 1, x0_, x4, y36 => if y36 = true then (some false) else (windroseref06_May.l5 k x0_ (w64 (x4 + 1)))
end
theorem windroseref06_May.l5_s (k : Nat) (x0_ : List T_api_Node) (x4 : Int) : windroseref06_May.l5 (k + 1) x0_ x4 = (if x4 < (x0_.length : Int) then (if 0 ≤ x4 ∧ x4 < (x0_.length : Int) then (if (nth T_api_Node.z x0_ x4).f0 < 1 then (windroseref06_May.j37 k x0_ x4 true) else (if (nth T_api_Node.z x0_ x4).f0 > 999 then (windroseref06_May.j37 k x0_ x4 true) else (if (nth T_api_Node.z x0_ x4).f1 < 1 then (windroseref06_May.j37 k x0_ x4 true) else (if (nth T_api_Node.z x0_ x4).f1 > 9 then (windroseref06_May.j37 k x0_ x4 true) else (if (nth T_api_Node.z x0_ x4).f2 < 1 then (windroseref06_May.j37 k x0_ x4 true) else (if (nth T_api_Node.z x0_ x4).f2 > 9 then (windroseref06_May.j37 k x0_ x4 true) else (if (nth T_api_Node.z x0_ x4).f3 < 0 then (windroseref06_May.j37 k x0_ x4 true) else (if (nth T_api_Node.z x0_ x4).f3 > 65536 then (windroseref06_May.j37 k x0_ x4 true) else (if x4 > 0 then (if 0 ≤ (w64 (x4 - 1)) ∧ (w64 (x4 - 1)) < (x0_.length : Int) then (windroseref06_May.j37 k x0_ x4 (decide ((nth T_api_Node.z x0_ (w64 (x4 - 1))).f0 ≥ (nth T_api_Node.z x0_ x4).f0))) else (none)) else (windroseref06_May.j37 k x0_ x4 false)))))))))) else (none)) else (some (decide ((x0_.length : Int) ≤ 12)))) := by kernel_rfl
theorem windroseref06_May.j37_s (k : Nat) (x0_ : List T_api_Node) (x4 : Int) (y36 : Bool) : windroseref06_May.j37 (k + 1) x0_ x4 y36 = (if y36 = true then (some false) else (windroseref06_May.l5 k x0_ (w64 (x4 + 1)))) := by kernel_rfl
def windroseref06_May.f (k : Nat) (x0_ : List T_api_Node) : Option Bool := windroseref06_May.l5 k x0_ 0
def windroseref06_May.Post (W F : World) (r : Bool) (v : Value) (w' : World) : Prop := ∃ (F' : World), v = .bool r ∧ St W (mine W []) F w' F' []
theorem windroseref06_May.calls (k : Nat) (x0_ : List T_api_Node) (A0_0 : Option Addr) (c0_0 : Nat) (r : Bool) (W F : World) (hown : Sub F W) (g0_0 : Rd T_api_Node.k F A0_0 c0_0 x0_) (H : windroseref06_May.f k x0_ = some r) :
    Calls Tryz.prog 67 #[.slice A0_0 x0_.length c0_0] W fun e w' => ∃ v, e = .returned v ∧ windroseref06_May.Post W F r v w' := by
 have hS := St.start (Own.nil hown)
 unfold windroseref06_May.f at H
 refine enter (n := 71) rfl rfl rfl (Nat.le_of_ble_eq_true rfl) (fun a hE => ?_)
 refine wp_seq_k fun K1 hK1 => pl0 (plc hE (.r 0 1 .nil) (fun a hE => pld (hK1 _ _ (wp_seq_k fun K2 hK2 => wp_seq_k fun K3 hK3 => pl0 (plc hE (.r 0 1 .nil) (fun a hE => pld (hK3 _ _ (wp_block ?_))))))))
 refine wp_loop_ghost (fun kq6 a w' => ∃ (G : Nat → Value) (x4 : Int), kq6 ≤ k ∧ Env 71 G a ∧ At G [(0, .slice A0_0 x0_.length c0_0), (3, .int .i64 x4)] ∧ St W (mine W []) F w' F [] ∧  windroseref06_May.l5 kq6 x0_ x4 = some r) k ⟨_, 0, Nat.le_refl _, hE, .of, hS, H⟩ ?_
 rintro kq6 a u8 ⟨G, x4, hkq, hE, hA, hS, H⟩
 cases kq6 with
 | zero => cases (show none = some r from H)
 | succ k7 =>
  rw [windroseref06_May.l5_s] at H
  obtain ⟨J, hE⟩ := hE.at hA
  refine wp_seq_k fun K9 hK9 => wp_seq_k fun K10 hK10 => pl0 (plc hE (.r 0 4 .nil) (fun a hE => pld (hK10 _ _ ?_)))
  rcases sp H with ⟨c11, H⟩ | ⟨c11, H⟩
  ·
   replace hE := hE.kt 8 c11
   refine ct hE (wp_skip (hK9 _ _ (wp_seq_k fun K12 hK12 => wp_block (wp_seq_k fun K13 hK13 => pl0 ?_))))
   obtain ⟨c14, H⟩ := gd H
   have hE_ := hE
   obtain ⟨ad15, rfl⟩ := g0_0.addr c14.1 c14.2
   replace hE := hE_
   obtain ⟨cs17, rfl, hc18⟩ := g0_0.el T_api_Node.z x4 c14.1 c14.2
   refine plc hE (.r 0 2 <| .x 2 c14 <| .cs 3 (hS.fcs hc18) <| .nil) (fun a hE => ple hE (.al (t := 104) hS [.int .i64 0, .int .i64 0, .int .i64 0, .int .i64 0, .bool false, .bool false]) ?_)
   rintro _ u20 a ⟨b19, rfl, hb19, hS, hg⟩ hE
   refine ple hE (.sto hS [.int .i64 ((nth T_api_Node.z x0_ x4).f0), .int .i64 ((nth T_api_Node.z x0_ x4).f1), .int .i64 ((nth T_api_Node.z x0_ x4).f2), .int .i64 ((nth T_api_Node.z x0_ x4).f3), .bool ((nth T_api_Node.z x0_ x4).f4), .bool ((nth T_api_Node.z x0_ x4).f5)]) ?_
   rintro _ u21 a ⟨rfl, hb19, hS, hz⟩ hE
   refine pld (hK13 _ _ (wp_seq_k fun K22 hK22 => ?_))
   have J40 : ∀ kq38, kq38 ≤ k7 → ∀ (G : Nat → Value) (y36 : Bool) (a : Act) (w' : World), Env 71 G a → At G [(0, .slice (some ad15) x0_.length c0_0), (3, .int .i64 x4), (67, .bool y36)] → St W (mine W []) F w' F [box b19 #[.int .i64 ((nth T_api_Node.z x0_ x4).f0), .int .i64 ((nth T_api_Node.z x0_ x4).f1), .int .i64 ((nth T_api_Node.z x0_ x4).f2), .int .i64 ((nth T_api_Node.z x0_ x4).f3), .bool ((nth T_api_Node.z x0_ x4).f4), .bool ((nth T_api_Node.z x0_ x4).f5)] 104] → windroseref06_May.j37 kq38 x0_ x4 y36 = some r → K22 a w' := by
    intro kq38 hkq G y36 a u41 hE hA hS H
    cases kq38 with
    | zero => cases (show none = some r from H)
    | succ k39 =>
     rw [windroseref06_May.j37_s] at H
     obtain ⟨J, hE⟩ := hE.at hA
     refine hK22 _ _ ?_
     rcases sp H with ⟨c42, H⟩ | ⟨c42, H⟩
     ·
      replace hE := hE.bt 67 c42
      refine ct hE (wp_seq_k fun K43 hK43 => pl0 (plc hE (.r 0 1 .nil) (fun a hE => pld (hK43 _ _ (wp_ret (block_ret (then_ret (then_ret (block_ret (then_ret ?_))))))))))
      replace hS := hS.tail
      obtain rfl := si H
      exact rt1 hE ⟨_, rfl, _, rfl, hS⟩
     ·
      replace hE := hE.bf 67 c42
      refine cf hE (wp_skip ?_)
      refine block_n ?_
      refine hK12 _ _ (pl0 (plc hE (.r 0 3 .nil) (fun a hE => pld ?_)))
      replace hS := hS.tail
      exact then_n ⟨k39, by omega, _, (w64 (x4 + 1)), by omega, hE, .of, hS, H⟩
   refine drawn 53 ⟨[], [], fun q => False⟩ mixed rfl (by kernel_rfl) (fun hst => ?_)
   replace hS := hS.drew
   have hb19 := hS.blk_at (i := 0) rfl
   refine mny 49 hst hE (.r 0 1 <| .b 1 0 hb19 <| .r 2 2 <| .nil) (fun a hE => ?_)
   rcases sp H with ⟨c23, H⟩ | ⟨c23, H⟩
   ·
    replace hE := hE.kt 18 c23
    refine mny 0 hst hE (.r 4 49 .nil) (fun a hE => ?_)
    refine dn ?_
    exact J40 _ (by omega) _ true _ _ hE .of hS H
   ·
    replace hE := hE.kf 18 c23
    refine mny 44 hst hE (.r 4 1 <| .b 5 0 hb19 <| .r 6 3 <| .nil) (fun a hE => ?_)
    rcases sp H with ⟨c24, H⟩ | ⟨c24, H⟩
    ·
     replace hE := hE.kt 23 c24
     refine mny 0 hst hE (.r 9 44 .nil) (fun a hE => ?_)
     refine dn ?_
     exact J40 _ (by omega) _ true _ _ hE .of hS H
    ·
     replace hE := hE.kf 23 c24
     refine mny 39 hst hE (.r 9 1 <| .b 10 1 hb19 <| .r 11 3 <| .nil) (fun a hE => ?_)
     rcases sp H with ⟨c25, H⟩ | ⟨c25, H⟩
     ·
      replace hE := hE.kt 28 c25
      refine mny 0 hst hE (.r 14 39 .nil) (fun a hE => ?_)
      refine dn ?_
      exact J40 _ (by omega) _ true _ _ hE .of hS H
     ·
      replace hE := hE.kf 28 c25
      refine mny 34 hst hE (.r 14 1 <| .b 15 1 hb19 <| .r 16 3 <| .nil) (fun a hE => ?_)
      rcases sp H with ⟨c26, H⟩ | ⟨c26, H⟩
      ·
       replace hE := hE.kt 33 c26
       refine mny 0 hst hE (.r 19 34 .nil) (fun a hE => ?_)
       refine dn ?_
       exact J40 _ (by omega) _ true _ _ hE .of hS H
      ·
       replace hE := hE.kf 33 c26
       refine mny 29 hst hE (.r 19 1 <| .b 20 2 hb19 <| .r 21 3 <| .nil) (fun a hE => ?_)
       rcases sp H with ⟨c27, H⟩ | ⟨c27, H⟩
       ·
        replace hE := hE.kt 38 c27
        refine mny 0 hst hE (.r 24 29 .nil) (fun a hE => ?_)
        refine dn ?_
        exact J40 _ (by omega) _ true _ _ hE .of hS H
       ·
        replace hE := hE.kf 38 c27
        refine mny 24 hst hE (.r 24 1 <| .b 25 2 hb19 <| .r 26 3 <| .nil) (fun a hE => ?_)
        rcases sp H with ⟨c28, H⟩ | ⟨c28, H⟩
        ·
         replace hE := hE.kt 43 c28
         refine mny 0 hst hE (.r 29 24 .nil) (fun a hE => ?_)
         refine dn ?_
         exact J40 _ (by omega) _ true _ _ hE .of hS H
        ·
         replace hE := hE.kf 43 c28
         refine mny 19 hst hE (.r 29 1 <| .b 30 3 hb19 <| .r 31 3 <| .nil) (fun a hE => ?_)
         rcases sp H with ⟨c29, H⟩ | ⟨c29, H⟩
         ·
          replace hE := hE.kt 48 c29
          refine mny 0 hst hE (.r 34 19 .nil) (fun a hE => ?_)
          refine dn ?_
          exact J40 _ (by omega) _ true _ _ hE .of hS H
         ·
          replace hE := hE.kf 48 c29
          refine mny 14 hst hE (.r 34 1 <| .b 35 3 hb19 <| .r 36 3 <| .nil) (fun a hE => ?_)
          rcases sp H with ⟨c30, H⟩ | ⟨c30, H⟩
          ·
           replace hE := hE.kt 53 c30
           refine mny 0 hst hE (.r 39 14 .nil) (fun a hE => ?_)
           refine dn ?_
           exact J40 _ (by omega) _ true _ _ hE .of hS H
          ·
           replace hE := hE.kf 53 c30
           refine mny 11 hst hE (.r 39 3 .nil) (fun a hE => ?_)
           rcases sp H with ⟨c31, H⟩ | ⟨c31, H⟩
           ·
            replace hE := hE.kt 56 c31
            obtain ⟨c32, H⟩ := gd H
            obtain ⟨cs34, rfl, hc35⟩ := g0_0.el T_api_Node.z (w64 (x4 - 1)) c32.1 c32.2
            refine mny 0 hst hE (.r 42 3 <| .x 45 c32 <| .r 46 1 <| .c 47 (hS.fc hc35 0) <| .r 48 1 <| .b 49 0 hb19 <| .r 50 3 <| .nil) (fun a hE => ?_)
            refine dn ?_
            exact J40 _ (by omega) _ (decide ((nth T_api_Node.z x0_ (w64 (x4 - 1))).f0 ≥ (nth T_api_Node.z x0_ x4).f0)) _ _ hE .of hS H
           ·
            replace hE := hE.kf 56 c31
            refine mny 0 hst hE (.r 42 11 .nil) (fun a hE => ?_)
            refine dn ?_
            exact J40 _ (by omega) _ false _ _ hE .of hS H
  ·
   replace hE := hE.kf 8 c11
   refine cf hE ?_
   refine wp_exit ?_
   refine hK2 _ _ (wp_seq_k fun K44 hK44 => pl0 (plc hE (.r 0 4 .nil) (fun a hE => pld (hK44 _ _ (wp_ret ?_)))))
   obtain rfl := si H
   exact rt1 hE ⟨_, rfl, _, rfl, hS⟩

/-! ### windrose/windroseref06.Find: function 75 -/
def windroseref06_Find.l7 : Nat → List T_api_Node → Int → Int → Option (T_api_Node × Bool)
  | 0, _, _, _ => none
  | k + 1, x0_, x1_, x6 => if x6 < (x0_.length : Int) then (if 0 ≤ x6 ∧ x6 < (x0_.length : Int) then (if (nth T_api_Node.z x0_ x6).f0 = x1_ then (some ((⟨(nth T_api_Node.z x0_ x6).f0, (nth T_api_Node.z x0_ x6).f1, (nth T_api_Node.z x0_ x6).f2, (nth T_api_Node.z x0_ x6).f3, (nth T_api_Node.z x0_ x6).f4, (nth T_api_Node.z x0_ x6).f5⟩ : T_api_Node), true)) else (windroseref06_Find.l7 k x0_ x1_ (w64 (x6 + 1)))) else (none)) else (some ((⟨0, 0, 0, 0, false, false⟩ : T_api_Node), false))
theorem windroseref06_Find.l7_s (k : Nat) (x0_ : List T_api_Node) (x1_ : Int) (x6 : Int) : windroseref06_Find.l7 (k + 1) x0_ x1_ x6 = (if x6 < (x0_.length : Int) then (if 0 ≤ x6 ∧ x6 < (x0_.length : Int) then (if (nth T_api_Node.z x0_ x6).f0 = x1_ then (some ((⟨(nth T_api_Node.z x0_ x6).f0, (nth T_api_Node.z x0_ x6).f1, (nth T_api_Node.z x0_ x6).f2, (nth T_api_Node.z x0_ x6).f3, (nth T_api_Node.z x0_ x6).f4, (nth T_api_Node.z x0_ x6).f5⟩ : T_api_Node), true)) else (windroseref06_Find.l7 k x0_ x1_ (w64 (x6 + 1)))) else (none)) else (some ((⟨0, 0, 0, 0, false, false⟩ : T_api_Node), false))) := by kernel_rfl
def windroseref06_Find.f (k : Nat) (x0_ : List T_api_Node) (x1_ : Int) : Option (T_api_Node × Bool) := windroseref06_Find.l7 k x0_ x1_ 0
def windroseref06_Find.Post (W F : World) (r : T_api_Node × Bool) (v : Value) (w' : World) : Prop := ∃ (F' : World), v = .tuple #[.agg #[.int .i64 r.1.f0, .int .i64 r.1.f1, .int .i64 r.1.f2, .int .i64 r.1.f3, .bool r.1.f4, .bool r.1.f5], .bool r.2] ∧ St W (mine W []) F w' F' []
theorem windroseref06_Find.calls (k : Nat) (x0_ : List T_api_Node) (x1_ : Int) (A0_0 : Option Addr) (c0_0 : Nat) (r : T_api_Node × Bool) (W F : World) (hown : Sub F W) (g0_0 : Rd T_api_Node.k F A0_0 c0_0 x0_) (H : windroseref06_Find.f k x0_ x1_ = some r) :
    Calls Tryz.prog 75 #[.slice A0_0 x0_.length c0_0, .int .i64 x1_] W fun e w' => ∃ v, e = .returned v ∧ windroseref06_Find.Post W F r v w' := by
 have hS := St.start (Own.nil hown)
 unfold windroseref06_Find.f at H
 refine enter (n := 25) rfl rfl rfl (Nat.le_of_ble_eq_true rfl) (fun a hE => ?_)
 refine wp_seq_k fun K1 hK1 => pl0 (ple hE (.al (t := 104) hS [.int .i64 0, .int .i64 0, .int .i64 0, .int .i64 0, .bool false, .bool false]) ?_)
 rintro _ u3 a ⟨b2, rfl, hb2, hS, hg⟩ hE
 refine plc hE (.r 1 1 .nil) (fun a hE => pld (hK1 _ _ (wp_seq_k fun K4 hK4 => wp_seq_k fun K5 hK5 => pl0 (plc hE (.r 0 1 .nil) (fun a hE => pld (hK5 _ _ (wp_block ?_)))))))
 refine wp_loop_ghost (fun kq8 a w' => ∃ (G : Nat → Value) (x6 : Int), kq8 ≤ k ∧ Env 25 G a ∧ At G [(0, .slice A0_0 x0_.length c0_0), (1, .int .i64 x1_), (4, .pointer (some ⟨b2, 0, none⟩)), (6, .int .i64 x6)] ∧ St W (mine W []) F w' F [box b2 #[.int .i64 0, .int .i64 0, .int .i64 0, .int .i64 0, .bool false, .bool false] 104] ∧  windroseref06_Find.l7 kq8 x0_ x1_ x6 = some r) k ⟨_, 0, Nat.le_refl _, hE, .of, hS, H⟩ ?_
 rintro kq8 a u10 ⟨G, x6, hkq, hE, hA, hS, H⟩
 cases kq8 with
 | zero => cases (show none = some r from H)
 | succ k9 =>
  rw [windroseref06_Find.l7_s] at H
  obtain ⟨J, hE⟩ := hE.at hA
  refine wp_seq_k fun K11 hK11 => wp_seq_k fun K12 hK12 => pl0 (plc hE (.r 0 4 .nil) (fun a hE => pld (hK12 _ _ ?_)))
  rcases sp H with ⟨c13, H⟩ | ⟨c13, H⟩
  ·
   replace hE := hE.kt 10 c13
   refine ct hE (wp_skip (hK11 _ _ (wp_seq_k fun K14 hK14 => wp_block (wp_seq_k fun K15 hK15 => pl0 ?_))))
   obtain ⟨c16, H⟩ := gd H
   have hE_ := hE
   obtain ⟨ad17, rfl⟩ := g0_0.addr c16.1 c16.2
   replace hE := hE_
   obtain ⟨cs19, rfl, hc20⟩ := g0_0.el T_api_Node.z x6 c16.1 c16.2
   refine plc hE (.r 0 2 <| .x 2 c16 <| .r 3 1 <| .c 4 (hS.fc hc20 0) <| .r 5 2 <| .nil) (fun a hE => pld (hK15 _ _ ?_))
   rcases sp H with ⟨c21, H⟩ | ⟨c21, H⟩
   ·
    replace hE := hE.kt 19 c21
    refine ct hE (wp_seq_k fun K22 hK22 => pl0 (plc hE (.r 0 2 <| .x 2 c16 <| .cs 3 (hS.fcs hc20) <| .nil) (fun a hE => ple hE (.sto hS [.int .i64 ((nth T_api_Node.z x0_ x6).f0), .int .i64 ((nth T_api_Node.z x0_ x6).f1), .int .i64 ((nth T_api_Node.z x0_ x6).f2), .int .i64 ((nth T_api_Node.z x0_ x6).f3), .bool ((nth T_api_Node.z x0_ x6).f4), .bool ((nth T_api_Node.z x0_ x6).f5)]) ?_)))
    rintro _ u26 a ⟨rfl, hb2, hS, hz⟩ hE
    refine plc hE (.r 5 1 .nil) (fun a hE => pld (hK22 _ _ (wp_ret (block_ret (then_ret (then_ret (block_ret (then_ret ?_))))))))
    replace hS := hS.tail
    obtain rfl := si H
    exact retN hE rfl (of_decide_eq_true rfl) (.cell (by kernel_rfl) (res_blk [.int .i64 ((nth T_api_Node.z x0_ x6).f0), .int .i64 ((nth T_api_Node.z x0_ x6).f1), .int .i64 ((nth T_api_Node.z x0_ x6).f2), .int .i64 ((nth T_api_Node.z x0_ x6).f3), .bool ((nth T_api_Node.z x0_ x6).f4), .bool ((nth T_api_Node.z x0_ x6).f5)] ag104 sz104 hb2 rfl) (.tmp (by kernel_rfl) .nil)) ⟨_, rfl, _, rfl, hS⟩
   ·
    replace hE := hE.kf 19 c21
    refine cf hE (wp_skip ?_)
    refine block_n ?_
    refine hK14 _ _ (pl0 (plc hE (.r 0 3 .nil) (fun a hE => pld ?_)))
    exact then_n ⟨k9, by omega, _, (w64 (x6 + 1)), by omega, hE, .of, hS, H⟩
  ·
   replace hE := hE.kf 10 c13
   refine cf hE ?_
   refine wp_exit ?_
   refine hK4 _ _ (wp_seq_k fun K27 hK27 => pl0 (plc hE (.r 0 1 .nil) (fun a hE => ple hE (.sto hS [.int .i64 0, .int .i64 0, .int .i64 0, .int .i64 0, .bool false, .bool false]) ?_)))
   rintro _ u28 a ⟨rfl, hb2, hS, hz⟩ hE
   refine plc hE (.r 2 1 .nil) (fun a hE => pld (hK27 _ _ (wp_ret ?_)))
   replace hS := hS.tail
   obtain rfl := si H
   exact retN hE rfl (of_decide_eq_true rfl) (.cell (by kernel_rfl) (res_blk [.int .i64 0, .int .i64 0, .int .i64 0, .int .i64 0, .bool false, .bool false] ag104 sz104 hb2 rfl) (.tmp (by kernel_rfl) .nil)) ⟨_, rfl, _, rfl, hS⟩

/-! ### windrose/windroseref06.Apart: function 68 -/
mutual
def windroseref06_Apart.l5 : Nat → List T_api_Node → List Int → Int → Option Bool
  | 0, _, _, _ => none
  | k + 1, x0_, x1_, x4 => if x4 < (x1_.length : Int) then (if 0 ≤ x4 ∧ x4 < (x1_.length : Int) then ((windroseref06_Find.f k x0_ (nth 0 x1_ x4)).bind fun t20 => (if t20.2 = true then (windroseref06_Apart.l31 k x0_ x1_ x4 t20 0) else (some false))) else (none)) else (some true)
def windroseref06_Apart.l31 : Nat → List T_api_Node → List Int → Int → T_api_Node × Bool → Int → Option Bool
  | 0, _, _, _, _, _ => none
  | k + 1, x0_, x1_, x4, t20, x30 => if x30 < x4 then (if 0 ≤ x30 ∧ x30 < (x1_.length : Int) then ((windroseref06_Find.f k x0_ (nth 0 x1_ x30)).bind fun t45 => (if t20.1.f1 = t45.1.f1 then (some false) else (windroseref06_Apart.l31 k x0_ x1_ x4 t20 (w64 (x30 + 1))))) else (none)) else (windroseref06_Apart.l5 k x0_ x1_ (w64 (x4 + 1)))
end
theorem windroseref06_Apart.l5_s (k : Nat) (x0_ : List T_api_Node) (x1_ : List Int) (x4 : Int) : windroseref06_Apart.l5 (k + 1) x0_ x1_ x4 = (if x4 < (x1_.length : Int) then (if 0 ≤ x4 ∧ x4 < (x1_.length : Int) then ((windroseref06_Find.f k x0_ (nth 0 x1_ x4)).bind fun t20 => (if t20.2 = true then (windroseref06_Apart.l31 k x0_ x1_ x4 t20 0) else (some false))) else (none)) else (some true)) := by kernel_rfl
theorem windroseref06_Apart.l31_s (k : Nat) (x0_ : List T_api_Node) (x1_ : List Int) (x4 : Int) (t20 : T_api_Node × Bool) (x30 : Int) : windroseref06_Apart.l31 (k + 1) x0_ x1_ x4 t20 x30 = (if x30 < x4 then (if 0 ≤ x30 ∧ x30 < (x1_.length : Int) then ((windroseref06_Find.f k x0_ (nth 0 x1_ x30)).bind fun t45 => (if t20.1.f1 = t45.1.f1 then (some false) else (windroseref06_Apart.l31 k x0_ x1_ x4 t20 (w64 (x30 + 1))))) else (none)) else (windroseref06_Apart.l5 k x0_ x1_ (w64 (x4 + 1)))) := by kernel_rfl
def windroseref06_Apart.f (k : Nat) (x0_ : List T_api_Node) (x1_ : List Int) : Option Bool := windroseref06_Apart.l5 k x0_ x1_ 0
def windroseref06_Apart.Post (W F : World) (r : Bool) (v : Value) (w' : World) : Prop := ∃ (F' : World), v = .bool r ∧ St W (mine W []) F w' F' []
theorem windroseref06_Apart.calls (k : Nat) (x0_ : List T_api_Node) (x1_ : List Int) (A0_0 : Option Addr) (c0_0 : Nat) (A1_0 : Option Addr) (c1_0 : Nat) (r : Bool) (W F : World) (hown : Sub F W) (g0_0 : Rd T_api_Node.k F A0_0 c0_0 x0_) (g1_0 : Rd (Kn.int .i64) F A1_0 c1_0 x1_) (H : windroseref06_Apart.f k x0_ x1_ = some r) :
    Calls Tryz.prog 68 #[.slice A0_0 x0_.length c0_0, .slice A1_0 x1_.length c1_0] W fun e w' => ∃ v, e = .returned v ∧ windroseref06_Apart.Post W F r v w' := by
 have hS := St.start (Own.nil hown)
 unfold windroseref06_Apart.f at H
 refine enter (n := 47) rfl rfl rfl (Nat.le_of_ble_eq_true rfl) (fun a hE => ?_)
 refine wp_seq_k fun K1 hK1 => pl0 (plc hE (.r 0 1 .nil) (fun a hE => pld (hK1 _ _ (wp_seq_k fun K2 hK2 => wp_seq_k fun K3 hK3 => pl0 (plc hE (.r 0 1 .nil) (fun a hE => pld (hK3 _ _ (wp_block ?_))))))))
 refine wp_loop_ghost (fun kq6 a w' => ∃ (G : Nat → Value) (x4 : Int), kq6 ≤ k ∧ Env 47 G a ∧ At G [(0, .slice A0_0 x0_.length c0_0), (1, .slice A1_0 x1_.length c1_0), (5, .int .i64 x4)] ∧ St W (mine W []) F w' F [] ∧  windroseref06_Apart.l5 kq6 x0_ x1_ x4 = some r) k ⟨_, 0, Nat.le_refl _, hE, .of, hS, H⟩ ?_
 rintro kq6 a u8 ⟨G, x4, hkq, hE, hA, hS, H⟩
 cases kq6 with
 | zero => cases (show none = some r from H)
 | succ k7 =>
  rw [windroseref06_Apart.l5_s] at H
  obtain ⟨J, hE⟩ := hE.at hA
  refine wp_seq_k fun K9 hK9 => wp_seq_k fun K10 hK10 => pl0 (plc hE (.r 0 4 .nil) (fun a hE => pld (hK10 _ _ ?_)))
  rcases sp H with ⟨c11, H⟩ | ⟨c11, H⟩
  ·
   replace hE := hE.kt 14 c11
   refine ct hE (wp_skip (hK9 _ _ (wp_seq_k fun K12 hK12 => wp_block (wp_seq_k fun K13 hK13 => pl0 ?_))))
   obtain ⟨c14, H⟩ := gd H
   have hE_ := hE
   obtain ⟨ad15, rfl⟩ := g1_0.addr c14.1 c14.2
   replace hE := hE_
   obtain ⟨cs17, rfl, hc18⟩ := g1_0.el 0 x4 c14.1 c14.2
   refine plc hE (.r 0 3 <| .x 3 c14 <| .c 4 (hS.fc hc18 0) <| .nil) (fun a hE => ?_)
   obtain ⟨t20, h21, H⟩ := bd H
   refine ple hE (.cl en75 (windroseref06_Find.calls k7 x0_ (nth 0 x1_ x4) _ _ _ _ _ hS.own.sub g0_0 h21)) ?_
   rintro _ u19 a ⟨_, rfl, hC⟩ hE
   replace hS := hS.lent hC
   refine plc hE (.r 6 3 .nil) (fun a hE => ple hE (.al (t := 104) hS [.int .i64 0, .int .i64 0, .int .i64 0, .int .i64 0, .bool false, .bool false]) ?_)
   rintro _ u23 a ⟨b22, rfl, hb22, hS, hg⟩ hE
   refine ple hE (.sto hS [.int .i64 t20.1.f0, .int .i64 t20.1.f1, .int .i64 t20.1.f2, .int .i64 t20.1.f3, .bool t20.1.f4, .bool t20.1.f5]) ?_
   rintro _ u24 a ⟨rfl, hb22, hS, hz⟩ hE
   refine plc hE (.r 11 1 .nil) (fun a hE => pld (hK13 _ _ (wp_seq_k fun K25 hK25 => wp_seq_k fun K26 hK26 => pl0 (plc hE (.r 0 2 .nil) (fun a hE => pld (hK26 _ _ ?_))))))
   rcases sp H with ⟨c27, H⟩ | ⟨c27, H⟩
   ·
    replace hE := hE.btn 27 c27
    refine cf hE (wp_skip (hK25 _ _ (wp_seq_k fun K29 hK29 => pl0 (plc hE (.r 0 1 .nil) (fun a hE => pld (hK29 _ _ (wp_block ?_)))))))
    refine wp_loop_ghost (fun kq32 a w' => ∃ (G : Nat → Value) (x30 : Int), kq32 ≤ k7 ∧ Env 47 G a ∧ At G [(0, .slice A0_0 x0_.length c0_0), (1, .slice (some ad15) x1_.length c1_0), (5, .int .i64 x4), (6, .pointer (some ⟨b22, 0, none⟩)), (8, .int .i64 x30)] ∧ St W (mine W []) F w' F [box b22 #[.int .i64 t20.1.f0, .int .i64 t20.1.f1, .int .i64 t20.1.f2, .int .i64 t20.1.f3, .bool t20.1.f4, .bool t20.1.f5] 104] ∧  windroseref06_Apart.l31 kq32 x0_ x1_ x4 t20 x30 = some r) k7 ⟨_, 0, Nat.le_refl _, hE, .of, hS, H⟩ ?_
    rintro kq32 a u34 ⟨G, x30, hkq, hE, hA, hS, H⟩
    cases kq32 with
    | zero => cases (show none = some r from H)
    | succ k33 =>
     rw [windroseref06_Apart.l31_s] at H
     obtain ⟨J, hE⟩ := hE.at hA
     refine wp_seq_k fun K35 hK35 => wp_seq_k fun K36 hK36 => pl0 (plc hE (.r 0 3 .nil) (fun a hE => pld (hK36 _ _ ?_)))
     rcases sp H with ⟨c37, H⟩ | ⟨c37, H⟩
     ·
      replace hE := hE.kt 30 c37
      refine ct hE (wp_skip (hK35 _ _ (wp_seq_k fun K38 hK38 => wp_block (wp_seq_k fun K39 hK39 => pl0 ?_))))
      obtain ⟨c40, H⟩ := gd H
      obtain ⟨cs42, rfl, hc43⟩ := g1_0.el 0 x30 c40.1 c40.2
      refine plc hE (.r 0 3 <| .x 3 c40 <| .c 4 (hS.fc hc43 0) <| .nil) (fun a hE => ?_)
      obtain ⟨t45, h46, H⟩ := bd H
      refine ple hE (.cl en75 (windroseref06_Find.calls k33 x0_ (nth 0 x1_ x30) _ _ _ _ _ hS.own.sub g0_0 h46)) ?_
      rintro _ u44 a ⟨_, rfl, hC⟩ hE
      replace hS := hS.lent hC
      refine plc hE (.r 6 3 .nil) (fun a hE => ple hE (.al (t := 104) hS [.int .i64 0, .int .i64 0, .int .i64 0, .int .i64 0, .bool false, .bool false]) ?_)
      rintro _ u48 a ⟨b47, rfl, hb47, hS, hg⟩ hE
      refine ple hE (.sto hS [.int .i64 t45.1.f0, .int .i64 t45.1.f1, .int .i64 t45.1.f2, .int .i64 t45.1.f3, .bool t45.1.f4, .bool t45.1.f5]) ?_
      rintro _ u49 a ⟨rfl, hb47, hS, hz⟩ hE
      refine plc hE (.r 11 1 .nil) (fun a hE => pld (hK39 _ _ (wp_seq_k fun K50 hK50 => pl0 ?_)))
      have hb22 := hS.blk_at (i := 1) rfl
      refine plc hE (.r 0 1 <| .b 1 1 hb22 <| .r 2 1 <| .b 3 1 hb47 <| .r 4 1 <| .nil) (fun a hE => pld (hK50 _ _ ?_))
      rcases sp H with ⟨c51, H⟩ | ⟨c51, H⟩
      ·
       replace hE := hE.kt 46 c51
       refine ct hE (wp_seq_k fun K52 hK52 => pl0 (plc hE (.r 0 1 .nil) (fun a hE => pld (hK52 _ _ (wp_ret (block_ret (then_ret (then_ret (block_ret (block_ret (then_ret (then_ret (block_ret (then_ret ?_))))))))))))))
       replace hS := hS.tail
       replace hS := hS.tail
       obtain rfl := si H
       exact rt1 hE ⟨_, rfl, _, rfl, hS⟩
      ·
       replace hE := hE.kf 46 c51
       refine cf hE (wp_skip ?_)
       refine block_n ?_
       refine hK38 _ _ (pl0 (plc hE (.r 0 3 .nil) (fun a hE => pld ?_)))
       replace hS := hS.tail
       exact then_n ⟨k33, by omega, _, (w64 (x30 + 1)), by omega, hE, .of, hS, H⟩
     ·
      replace hE := hE.kf 30 c37
      refine cf hE ?_
      refine wp_exit ?_
      refine hK12 _ _ (pl0 (plc hE (.r 0 3 .nil) (fun a hE => pld ?_)))
      replace hS := hS.tail
      exact then_n ⟨k33, by omega, _, (w64 (x4 + 1)), by omega, hE, .of, hS, H⟩
   ·
    replace hE := hE.bfn 27 c27
    refine ct hE (wp_seq_k fun K28 hK28 => pl0 (plc hE (.r 0 1 .nil) (fun a hE => pld (hK28 _ _ (wp_ret (then_ret (block_ret (then_ret (then_ret (block_ret (then_ret ?_)))))))))))
    replace hS := hS.tail
    obtain rfl := si H
    exact rt1 hE ⟨_, rfl, _, rfl, hS⟩
  ·
   replace hE := hE.kf 14 c11
   refine cf hE ?_
   refine wp_exit ?_
   refine hK2 _ _ (wp_seq_k fun K53 hK53 => pl0 (plc hE (.r 0 1 .nil) (fun a hE => pld (hK53 _ _ (wp_ret ?_)))))
   obtain rfl := si H
   exact rt1 hE ⟨_, rfl, _, rfl, hS⟩

/-! ### windrose/windroseref08.pasts: function 69 -/
mutual
def windroseref08_pasts.l7 : Nat → T_api_Map → Int → Option Bool
  | 0, _, _ => none
  | k + 1, x0_, x6 => if x6 < (x0_.f6.length : Int) then (if 0 ≤ x6 ∧ x6 < (x0_.f6.length : Int) then (if (nth T_api_Trail.z x0_.f6 x6).f0 < 0 then (windroseref08_pasts.j31 k x0_ x6 true) else (windroseref08_pasts.j31 k x0_ x6 (decide ((nth T_api_Trail.z x0_.f6 x6).f0 > x0_.f0)))) else (none)) else (some ((x0_.f6.length : Int) == x0_.f3))
def windroseref08_pasts.j31 : Nat → T_api_Map → Int → Bool → Option Bool
  | 0, _, _, _ => none
  | k + 1, x0_, x6, y30 => if y30 = true then (some false) else (windroseref08_pasts.l40 k x0_ x6 0)
def windroseref08_pasts.l40 : Nat → T_api_Map → Int → Int → Option Bool
  | 0, _, _, _ => none
  | k + 1, x0_, x6, x39 => if x39 < (((nth T_api_Trail.z x0_.f6 x6).f1).length : Int) then (if 0 ≤ x39 ∧ x39 < (((nth T_api_Trail.z x0_.f6 x6).f1).length : Int) then (if (nth T_api_Span.z ((nth T_api_Trail.z x0_.f6 x6).f1) x39).f0 < 0 then (windroseref08_pasts.j66 k x0_ x6 x39 true) else (if (nth T_api_Span.z ((nth T_api_Trail.z x0_.f6 x6).f1) x39).f0 ≥ (nth T_api_Trail.z x0_.f6 x6).f0 then (windroseref08_pasts.j66 k x0_ x6 x39 true) else (if (((nth T_api_Span.z ((nth T_api_Trail.z x0_.f6 x6).f1) x39).f1).length : Int) < x0_.f2 then (windroseref08_pasts.j66 k x0_ x6 x39 true) else (windroseref08_pasts.j66 k x0_ x6 x39 (decide ((((nth T_api_Span.z ((nth T_api_Trail.z x0_.f6 x6).f1) x39).f1).length : Int) > x0_.f1)))))) else (none)) else (windroseref08_pasts.l7 k x0_ (w64 (x6 + 1)))
def windroseref08_pasts.j66 : Nat → T_api_Map → Int → Int → Bool → Option Bool
  | 0, _, _, _, _ => none
  | k + 1, x0_, x6, x39, y65 => if y65 = true then (some false) else (windroseref08_pasts.l76 k x0_ x6 x39 0)
def windroseref08_pasts.l76 : Nat → T_api_Map → Int → Int → Int → Option Bool
  | 0, _, _, _, _ => none
  | k + 1, x0_, x6, x39, x75 => if x75 < (((nth T_api_Span.z ((nth T_api_Trail.z x0_.f6 x6).f1) x39).f1).length : Int) then (if 0 ≤ x75 ∧ x75 < (((nth T_api_Span.z ((nth T_api_Trail.z x0_.f6 x6).f1) x39).f1).length : Int) then (if (nth 0 ((nth T_api_Span.z ((nth T_api_Trail.z x0_.f6 x6).f1) x39).f1) x75) < 1 then (windroseref08_pasts.j104 k x0_ x6 x39 x75 true) else (if (nth 0 ((nth T_api_Span.z ((nth T_api_Trail.z x0_.f6 x6).f1) x39).f1) x75) > 999 then (windroseref08_pasts.j104 k x0_ x6 x39 x75 true) else (if x75 > 0 then (if 0 ≤ (w64 (x75 - 1)) ∧ (w64 (x75 - 1)) < (((nth T_api_Span.z ((nth T_api_Trail.z x0_.f6 x6).f1) x39).f1).length : Int) then (windroseref08_pasts.j104 k x0_ x6 x39 x75 (decide ((nth 0 ((nth T_api_Span.z ((nth T_api_Trail.z x0_.f6 x6).f1) x39).f1) (w64 (x75 - 1))) ≥ (nth 0 ((nth T_api_Span.z ((nth T_api_Trail.z x0_.f6 x6).f1) x39).f1) x75)))) else (none)) else (windroseref08_pasts.j104 k x0_ x6 x39 x75 false)))) else (none)) else (windroseref08_pasts.l113 k x0_ x6 x39 0)
def windroseref08_pasts.j104 : Nat → T_api_Map → Int → Int → Int → Bool → Option Bool
  | 0, _, _, _, _, _ => none
  | k + 1, x0_, x6, x39, x75, y103 => if y103 = true then (some false) else (windroseref08_pasts.l76 k x0_ x6 x39 (w64 (x75 + 1)))
def windroseref08_pasts.l113 : Nat → T_api_Map → Int → Int → Int → Option Bool
  | 0, _, _, _, _ => none
  | k + 1, x0_, x6, x39, x112 => if x112 < x39 then (if 0 ≤ x112 ∧ x112 < (((nth T_api_Trail.z x0_.f6 x6).f1).length : Int) then (if (nth T_api_Span.z ((nth T_api_Trail.z x0_.f6 x6).f1) x112).f0 ≥ (nth T_api_Span.z ((nth T_api_Trail.z x0_.f6 x6).f1) x39).f0 then (windroseref08_pasts.j137 k x0_ x6 x39 x112 true) else ((windroseref02_Ints.f k ((nth T_api_Span.z ((nth T_api_Trail.z x0_.f6 x6).f1) x112).f1) ((nth T_api_Span.z ((nth T_api_Trail.z x0_.f6 x6).f1) x39).f1)).bind fun t134 => (windroseref08_pasts.j137 k x0_ x6 x39 x112 t134))) else (none)) else (windroseref08_pasts.l40 k x0_ x6 (w64 (x39 + 1)))
def windroseref08_pasts.j137 : Nat → T_api_Map → Int → Int → Int → Bool → Option Bool
  | 0, _, _, _, _, _ => none
  | k + 1, x0_, x6, x39, x112, y136 => if y136 = true then (some false) else (windroseref08_pasts.l113 k x0_ x6 x39 (w64 (x112 + 1)))
end
theorem windroseref08_pasts.l7_s (k : Nat) (x0_ : T_api_Map) (x6 : Int) : windroseref08_pasts.l7 (k + 1) x0_ x6 = (if x6 < (x0_.f6.length : Int) then (if 0 ≤ x6 ∧ x6 < (x0_.f6.length : Int) then (if (nth T_api_Trail.z x0_.f6 x6).f0 < 0 then (windroseref08_pasts.j31 k x0_ x6 true) else (windroseref08_pasts.j31 k x0_ x6 (decide ((nth T_api_Trail.z x0_.f6 x6).f0 > x0_.f0)))) else (none)) else (some ((x0_.f6.length : Int) == x0_.f3))) := by kernel_rfl
theorem windroseref08_pasts.j31_s (k : Nat) (x0_ : T_api_Map) (x6 : Int) (y30 : Bool) : windroseref08_pasts.j31 (k + 1) x0_ x6 y30 = (if y30 = true then (some false) else (windroseref08_pasts.l40 k x0_ x6 0)) := by kernel_rfl
theorem windroseref08_pasts.l40_s (k : Nat) (x0_ : T_api_Map) (x6 : Int) (x39 : Int) : windroseref08_pasts.l40 (k + 1) x0_ x6 x39 = (if x39 < (((nth T_api_Trail.z x0_.f6 x6).f1).length : Int) then (if 0 ≤ x39 ∧ x39 < (((nth T_api_Trail.z x0_.f6 x6).f1).length : Int) then (if (nth T_api_Span.z ((nth T_api_Trail.z x0_.f6 x6).f1) x39).f0 < 0 then (windroseref08_pasts.j66 k x0_ x6 x39 true) else (if (nth T_api_Span.z ((nth T_api_Trail.z x0_.f6 x6).f1) x39).f0 ≥ (nth T_api_Trail.z x0_.f6 x6).f0 then (windroseref08_pasts.j66 k x0_ x6 x39 true) else (if (((nth T_api_Span.z ((nth T_api_Trail.z x0_.f6 x6).f1) x39).f1).length : Int) < x0_.f2 then (windroseref08_pasts.j66 k x0_ x6 x39 true) else (windroseref08_pasts.j66 k x0_ x6 x39 (decide ((((nth T_api_Span.z ((nth T_api_Trail.z x0_.f6 x6).f1) x39).f1).length : Int) > x0_.f1)))))) else (none)) else (windroseref08_pasts.l7 k x0_ (w64 (x6 + 1)))) := by kernel_rfl
theorem windroseref08_pasts.j66_s (k : Nat) (x0_ : T_api_Map) (x6 : Int) (x39 : Int) (y65 : Bool) : windroseref08_pasts.j66 (k + 1) x0_ x6 x39 y65 = (if y65 = true then (some false) else (windroseref08_pasts.l76 k x0_ x6 x39 0)) := by kernel_rfl
theorem windroseref08_pasts.l76_s (k : Nat) (x0_ : T_api_Map) (x6 : Int) (x39 : Int) (x75 : Int) : windroseref08_pasts.l76 (k + 1) x0_ x6 x39 x75 = (if x75 < (((nth T_api_Span.z ((nth T_api_Trail.z x0_.f6 x6).f1) x39).f1).length : Int) then (if 0 ≤ x75 ∧ x75 < (((nth T_api_Span.z ((nth T_api_Trail.z x0_.f6 x6).f1) x39).f1).length : Int) then (if (nth 0 ((nth T_api_Span.z ((nth T_api_Trail.z x0_.f6 x6).f1) x39).f1) x75) < 1 then (windroseref08_pasts.j104 k x0_ x6 x39 x75 true) else (if (nth 0 ((nth T_api_Span.z ((nth T_api_Trail.z x0_.f6 x6).f1) x39).f1) x75) > 999 then (windroseref08_pasts.j104 k x0_ x6 x39 x75 true) else (if x75 > 0 then (if 0 ≤ (w64 (x75 - 1)) ∧ (w64 (x75 - 1)) < (((nth T_api_Span.z ((nth T_api_Trail.z x0_.f6 x6).f1) x39).f1).length : Int) then (windroseref08_pasts.j104 k x0_ x6 x39 x75 (decide ((nth 0 ((nth T_api_Span.z ((nth T_api_Trail.z x0_.f6 x6).f1) x39).f1) (w64 (x75 - 1))) ≥ (nth 0 ((nth T_api_Span.z ((nth T_api_Trail.z x0_.f6 x6).f1) x39).f1) x75)))) else (none)) else (windroseref08_pasts.j104 k x0_ x6 x39 x75 false)))) else (none)) else (windroseref08_pasts.l113 k x0_ x6 x39 0)) := by kernel_rfl
theorem windroseref08_pasts.j104_s (k : Nat) (x0_ : T_api_Map) (x6 : Int) (x39 : Int) (x75 : Int) (y103 : Bool) : windroseref08_pasts.j104 (k + 1) x0_ x6 x39 x75 y103 = (if y103 = true then (some false) else (windroseref08_pasts.l76 k x0_ x6 x39 (w64 (x75 + 1)))) := by kernel_rfl
theorem windroseref08_pasts.l113_s (k : Nat) (x0_ : T_api_Map) (x6 : Int) (x39 : Int) (x112 : Int) : windroseref08_pasts.l113 (k + 1) x0_ x6 x39 x112 = (if x112 < x39 then (if 0 ≤ x112 ∧ x112 < (((nth T_api_Trail.z x0_.f6 x6).f1).length : Int) then (if (nth T_api_Span.z ((nth T_api_Trail.z x0_.f6 x6).f1) x112).f0 ≥ (nth T_api_Span.z ((nth T_api_Trail.z x0_.f6 x6).f1) x39).f0 then (windroseref08_pasts.j137 k x0_ x6 x39 x112 true) else ((windroseref02_Ints.f k ((nth T_api_Span.z ((nth T_api_Trail.z x0_.f6 x6).f1) x112).f1) ((nth T_api_Span.z ((nth T_api_Trail.z x0_.f6 x6).f1) x39).f1)).bind fun t134 => (windroseref08_pasts.j137 k x0_ x6 x39 x112 t134))) else (none)) else (windroseref08_pasts.l40 k x0_ x6 (w64 (x39 + 1)))) := by kernel_rfl
theorem windroseref08_pasts.j137_s (k : Nat) (x0_ : T_api_Map) (x6 : Int) (x39 : Int) (x112 : Int) (y136 : Bool) : windroseref08_pasts.j137 (k + 1) x0_ x6 x39 x112 y136 = (if y136 = true then (some false) else (windroseref08_pasts.l113 k x0_ x6 x39 (w64 (x112 + 1)))) := by kernel_rfl
def windroseref08_pasts.f (k : Nat) (x0_ : T_api_Map) : Option Bool := windroseref08_pasts.l7 k x0_ 0
def windroseref08_pasts.Post (W F : World) (r : Bool) (v : Value) (w' : World) : Prop := ∃ (F' : World), v = .bool r ∧ St W (mine W []) F w' F' []
theorem windroseref08_pasts.calls (k : Nat) (x0_ : T_api_Map) (A0_4 : Option Addr) (c0_4 : Nat) (A0_5 : Option Addr) (c0_5 : Nat) (A0_6 : Option Addr) (c0_6 : Nat) (r : Bool) (W F : World) (hown : Sub F W) (g0_4 : Rd T_api_Node.k F A0_4 c0_4 x0_.f4) (g0_5 : Rd T_api_Temp.k F A0_5 c0_5 x0_.f5) (g0_6 : Rd T_api_Trail.k F A0_6 c0_6 x0_.f6) (H : windroseref08_pasts.f k x0_ = some r) :
    Calls Tryz.prog 69 #[.agg #[.int .i64 x0_.f0, .int .i64 x0_.f1, .int .i64 x0_.f2, .int .i64 x0_.f3, .slice A0_4 x0_.f4.length c0_4, .slice A0_5 x0_.f5.length c0_5, .slice A0_6 x0_.f6.length c0_6]] W fun e w' => ∃ v, e = .returned v ∧ windroseref08_pasts.Post W F r v w' := by
 have hS := St.start (Own.nil hown)
 unfold windroseref08_pasts.f at H
 refine enter (n := 139) rfl rfl rfl (Nat.le_of_ble_eq_true rfl) (fun a hE => ?_)
 refine wp_seq_k fun K1 hK1 => pl0 (ple hE (.bx (t := 26) hS [.int .i64 x0_.f0, .int .i64 x0_.f1, .int .i64 x0_.f2, .int .i64 x0_.f3, .slice A0_4 x0_.f4.length c0_4, .slice A0_5 x0_.f5.length c0_5, .slice A0_6 x0_.f6.length c0_6]) ?_)
 rintro _ u3 a ⟨b2, rfl, hb2, hS, hg⟩ hE
 refine plc hE (.r 1 1 .nil) (fun a hE => pld (hK1 _ _ (wp_seq_k fun K4 hK4 => wp_seq_k fun K5 hK5 => pl0 (plc hE (.r 0 1 .nil) (fun a hE => pld (hK5 _ _ (wp_block ?_)))))))
 refine wp_loop_ghost (fun kq8 a w' => ∃ (G : Nat → Value) (x6 : Int), kq8 ≤ k ∧ Env 139 G a ∧ At G [(1, .pointer (some ⟨b2, 0, none⟩)), (3, .int .i64 x6)] ∧ St W (mine W []) F w' F [box b2 #[.int .i64 x0_.f0, .int .i64 x0_.f1, .int .i64 x0_.f2, .int .i64 x0_.f3, .slice A0_4 x0_.f4.length c0_4, .slice A0_5 x0_.f5.length c0_5, .slice A0_6 x0_.f6.length c0_6] 26] ∧  windroseref08_pasts.l7 kq8 x0_ x6 = some r) k ⟨_, 0, Nat.le_refl _, hE, .of, hS, H⟩ ?_
 rintro kq8 a u10 ⟨G, x6, hkq, hE, hA, hS, H⟩
 cases kq8 with
 | zero => cases (show none = some r from H)
 | succ k9 =>
  rw [windroseref08_pasts.l7_s] at H
  obtain ⟨J, hE⟩ := hE.at hA
  refine wp_seq_k fun K11 hK11 => wp_seq_k fun K12 hK12 => pl0 ?_
  have hb2 := hS.blk_at (i := 0) rfl
  refine plc hE (.r 0 2 <| .b 2 6 hb2 <| .r 3 2 <| .nil) (fun a hE => pld (hK12 _ _ ?_))
  rcases sp H with ⟨c13, H⟩ | ⟨c13, H⟩
  ·
   replace hE := hE.kt 13 c13
   refine ct hE (wp_skip (hK11 _ _ (wp_seq_k fun K14 hK14 => wp_block (wp_seq_k fun K15 hK15 => pl0 ?_))))
   obtain ⟨c16, H⟩ := gd H
   have hE_ := hE
   obtain ⟨ad17, rfl⟩ := g0_6.addr c16.1 c16.2
   replace hE := hE_
   obtain ⟨cs19, ⟨A21, c22, rfl, g23⟩, hc20⟩ := g0_6.el T_api_Trail.z x6 c16.1 c16.2
   refine plc hE (.r 0 1 <| .b 1 6 hb2 <| .r 2 1 <| .x 3 c16 <| .cs 4 (hS.fcs hc20) <| .nil) (fun a hE => ple hE (.al (t := 49) hS [.int .i64 0, .slice none 0 0]) ?_)
   rintro _ u25 a ⟨b24, rfl, hb24, hS, hg⟩ hE
   refine ple hE (.sto hS [.int .i64 ((nth T_api_Trail.z x0_.f6 x6).f0), .slice A21 (((nth T_api_Trail.z x0_.f6 x6).f1).length) c22]) ?_
   rintro _ u26 a ⟨rfl, hb24, hS, hz⟩ hE
   refine pld (hK15 _ _ (wp_seq_k fun K27 hK27 => wp_seq_k fun K28 hK28 => ?_))
   have J34 : ∀ kq32, kq32 ≤ k9 → ∀ (G : Nat → Value) (y30 : Bool) (a : Act) (w' : World), Env 139 G a → At G [(1, .pointer (some ⟨b2, 0, none⟩)), (3, .int .i64 x6), (4, .pointer (some ⟨b24, 0, none⟩)), (30, .bool y30)] → St W (mine W []) F w' F [box b24 #[.int .i64 ((nth T_api_Trail.z x0_.f6 x6).f0), .slice A21 (((nth T_api_Trail.z x0_.f6 x6).f1).length) c22] 49, box b2 #[.int .i64 x0_.f0, .int .i64 x0_.f1, .int .i64 x0_.f2, .int .i64 x0_.f3, .slice A0_4 x0_.f4.length c0_4, .slice A0_5 x0_.f5.length c0_5, .slice (some ad17) x0_.f6.length c0_6] 26] → windroseref08_pasts.j31 kq32 x0_ x6 y30 = some r → K28 a w' := by
    intro kq32 hkq G y30 a u35 hE hA hS H
    cases kq32 with
    | zero => cases (show none = some r from H)
    | succ k33 =>
     rw [windroseref08_pasts.j31_s] at H
     obtain ⟨J, hE⟩ := hE.at hA
     refine hK28 _ _ ?_
     rcases sp H with ⟨c36, H⟩ | ⟨c36, H⟩
     ·
      replace hE := hE.bt 30 c36
      refine ct hE (wp_seq_k fun K37 hK37 => pl0 (plc hE (.r 0 1 .nil) (fun a hE => pld (hK37 _ _ (wp_ret (then_ret (block_ret (then_ret (then_ret (block_ret (then_ret ?_)))))))))))
      replace hS := hS.tail
      replace hS := hS.tail
      obtain rfl := si H
      exact rt1 hE ⟨_, rfl, _, rfl, hS⟩
     ·
      replace hE := hE.bf 30 c36
      refine cf hE (wp_skip (hK27 _ _ (wp_seq_k fun K38 hK38 => pl0 (plc hE (.r 0 1 .nil) (fun a hE => pld (hK38 _ _ (wp_block ?_)))))))
      refine wp_loop_ghost (fun kq41 a w' => ∃ (G : Nat → Value) (x39 : Int), kq41 ≤ k33 ∧ Env 139 G a ∧ At G [(1, .pointer (some ⟨b2, 0, none⟩)), (3, .int .i64 x6), (4, .pointer (some ⟨b24, 0, none⟩)), (5, .int .i64 x39)] ∧ St W (mine W []) F w' F [box b24 #[.int .i64 ((nth T_api_Trail.z x0_.f6 x6).f0), .slice A21 (((nth T_api_Trail.z x0_.f6 x6).f1).length) c22] 49, box b2 #[.int .i64 x0_.f0, .int .i64 x0_.f1, .int .i64 x0_.f2, .int .i64 x0_.f3, .slice A0_4 x0_.f4.length c0_4, .slice A0_5 x0_.f5.length c0_5, .slice (some ad17) x0_.f6.length c0_6] 26] ∧  windroseref08_pasts.l40 kq41 x0_ x6 x39 = some r) k33 ⟨_, 0, Nat.le_refl _, hE, .of, hS, H⟩ ?_
      rintro kq41 a u43 ⟨G, x39, hkq, hE, hA, hS, H⟩
      cases kq41 with
      | zero => cases (show none = some r from H)
      | succ k42 =>
       rw [windroseref08_pasts.l40_s] at H
       obtain ⟨J, hE⟩ := hE.at hA
       refine wp_seq_k fun K44 hK44 => wp_seq_k fun K45 hK45 => pl0 ?_
       have hb24 := hS.blk_at (i := 0) rfl
       refine plc hE (.r 0 2 <| .b 2 1 hb24 <| .r 3 2 <| .nil) (fun a hE => pld (hK45 _ _ ?_))
       rcases sp H with ⟨c46, H⟩ | ⟨c46, H⟩
       ·
        replace hE := hE.kt 35 c46
        refine ct hE (wp_skip (hK44 _ _ (wp_seq_k fun K47 hK47 => wp_block (wp_seq_k fun K48 hK48 => pl0 ?_))))
        obtain ⟨c49, H⟩ := gd H
        have hE_ := hE
        obtain ⟨ad50, rfl⟩ := g23.addr c49.1 c49.2
        replace hE := hE_
        obtain ⟨cs52, ⟨A54, c55, rfl, g56⟩, hc53⟩ := g23.el T_api_Span.z x39 c49.1 c49.2
        refine plc hE (.r 0 1 <| .b 1 1 hb24 <| .r 2 1 <| .x 3 c49 <| .cs 4 (hS.fcs hc53) <| .nil) (fun a hE => ple hE (.al (t := 51) hS [.int .i64 0, .slice none 0 0]) ?_)
        rintro _ u58 a ⟨b57, rfl, hb57, hS, hg⟩ hE
        refine ple hE (.sto hS [.int .i64 ((nth T_api_Span.z ((nth T_api_Trail.z x0_.f6 x6).f1) x39).f0), .slice A54 (((nth T_api_Span.z ((nth T_api_Trail.z x0_.f6 x6).f1) x39).f1).length) c55]) ?_
        rintro _ u59 a ⟨rfl, hb57, hS, hz⟩ hE
        refine pld (hK48 _ _ (wp_seq_k fun K60 hK60 => wp_seq_k fun K61 hK61 => ?_))
        have J69 : ∀ kq67, kq67 ≤ k42 → ∀ (G : Nat → Value) (y65 : Bool) (a : Act) (w' : World), Env 139 G a → At G [(1, .pointer (some ⟨b2, 0, none⟩)), (3, .int .i64 x6), (4, .pointer (some ⟨b24, 0, none⟩)), (5, .int .i64 x39), (6, .pointer (some ⟨b57, 0, none⟩)), (68, .bool y65)] → St W (mine W []) F w' F [box b57 #[.int .i64 ((nth T_api_Span.z ((nth T_api_Trail.z x0_.f6 x6).f1) x39).f0), .slice A54 (((nth T_api_Span.z ((nth T_api_Trail.z x0_.f6 x6).f1) x39).f1).length) c55] 51, box b24 #[.int .i64 ((nth T_api_Trail.z x0_.f6 x6).f0), .slice (some ad50) (((nth T_api_Trail.z x0_.f6 x6).f1).length) c22] 49, box b2 #[.int .i64 x0_.f0, .int .i64 x0_.f1, .int .i64 x0_.f2, .int .i64 x0_.f3, .slice A0_4 x0_.f4.length c0_4, .slice A0_5 x0_.f5.length c0_5, .slice (some ad17) x0_.f6.length c0_6] 26] → windroseref08_pasts.j66 kq67 x0_ x6 x39 y65 = some r → K61 a w' := by
         intro kq67 hkq G y65 a u70 hE hA hS H
         cases kq67 with
         | zero => cases (show none = some r from H)
         | succ k68 =>
          rw [windroseref08_pasts.j66_s] at H
          obtain ⟨J, hE⟩ := hE.at hA
          refine hK61 _ _ ?_
          rcases sp H with ⟨c71, H⟩ | ⟨c71, H⟩
          ·
           replace hE := hE.bt 68 c71
           refine ct hE (wp_seq_k fun K72 hK72 => pl0 (plc hE (.r 0 1 .nil) (fun a hE => pld (hK72 _ _ (wp_ret (then_ret (block_ret (then_ret (then_ret (block_ret (block_ret (then_ret (then_ret (block_ret (then_ret ?_)))))))))))))))
           replace hS := hS.tail
           replace hS := hS.tail
           replace hS := hS.tail
           obtain rfl := si H
           exact rt1 hE ⟨_, rfl, _, rfl, hS⟩
          ·
           replace hE := hE.bf 68 c71
           refine cf hE (wp_skip (hK60 _ _ (wp_seq_k fun K73 hK73 => wp_seq_k fun K74 hK74 => pl0 (plc hE (.r 0 1 .nil) (fun a hE => pld (hK74 _ _ (wp_block ?_)))))))
           refine wp_loop_ghost (fun kq77 a w' => ∃ (G : Nat → Value) (x75 : Int), kq77 ≤ k68 ∧ Env 139 G a ∧ At G [(1, .pointer (some ⟨b2, 0, none⟩)), (3, .int .i64 x6), (4, .pointer (some ⟨b24, 0, none⟩)), (5, .int .i64 x39), (6, .pointer (some ⟨b57, 0, none⟩)), (7, .int .i64 x75)] ∧ St W (mine W []) F w' F [box b57 #[.int .i64 ((nth T_api_Span.z ((nth T_api_Trail.z x0_.f6 x6).f1) x39).f0), .slice A54 (((nth T_api_Span.z ((nth T_api_Trail.z x0_.f6 x6).f1) x39).f1).length) c55] 51, box b24 #[.int .i64 ((nth T_api_Trail.z x0_.f6 x6).f0), .slice (some ad50) (((nth T_api_Trail.z x0_.f6 x6).f1).length) c22] 49, box b2 #[.int .i64 x0_.f0, .int .i64 x0_.f1, .int .i64 x0_.f2, .int .i64 x0_.f3, .slice A0_4 x0_.f4.length c0_4, .slice A0_5 x0_.f5.length c0_5, .slice (some ad17) x0_.f6.length c0_6] 26] ∧  windroseref08_pasts.l76 kq77 x0_ x6 x39 x75 = some r) k68 ⟨_, 0, Nat.le_refl _, hE, .of, hS, H⟩ ?_
           rintro kq77 a u79 ⟨G, x75, hkq, hE, hA, hS, H⟩
           cases kq77 with
           | zero => cases (show none = some r from H)
           | succ k78 =>
            rw [windroseref08_pasts.l76_s] at H
            obtain ⟨J, hE⟩ := hE.at hA
            refine wp_seq_k fun K80 hK80 => wp_seq_k fun K81 hK81 => pl0 ?_
            have hb57 := hS.blk_at (i := 0) rfl
            refine plc hE (.r 0 2 <| .b 2 1 hb57 <| .r 3 2 <| .nil) (fun a hE => pld (hK81 _ _ ?_))
            rcases sp H with ⟨c82, H⟩ | ⟨c82, H⟩
            ·
             replace hE := hE.kt 73 c82
             refine ct hE (wp_skip (hK80 _ _ (wp_seq_k fun K83 hK83 => wp_block (wp_seq_k fun K84 hK84 => ?_))))
             have J107 : ∀ kq105, kq105 ≤ k78 → ∀ (G : Nat → Value) (y103 : Bool) (a : Act) (w' : World), Env 139 G a → At G [(1, .pointer (some ⟨b2, 0, none⟩)), (3, .int .i64 x6), (4, .pointer (some ⟨b24, 0, none⟩)), (5, .int .i64 x39), (6, .pointer (some ⟨b57, 0, none⟩)), (7, .int .i64 x75), (107, .bool y103)] → St W (mine W []) F w' F [box b57 #[.int .i64 ((nth T_api_Span.z ((nth T_api_Trail.z x0_.f6 x6).f1) x39).f0), .slice A54 (((nth T_api_Span.z ((nth T_api_Trail.z x0_.f6 x6).f1) x39).f1).length) c55] 51, box b24 #[.int .i64 ((nth T_api_Trail.z x0_.f6 x6).f0), .slice (some ad50) (((nth T_api_Trail.z x0_.f6 x6).f1).length) c22] 49, box b2 #[.int .i64 x0_.f0, .int .i64 x0_.f1, .int .i64 x0_.f2, .int .i64 x0_.f3, .slice A0_4 x0_.f4.length c0_4, .slice A0_5 x0_.f5.length c0_5, .slice (some ad17) x0_.f6.length c0_6] 26] → windroseref08_pasts.j104 kq105 x0_ x6 x39 x75 y103 = some r → K84 a w' := by
              intro kq105 hkq G y103 a u108 hE hA hS H
              cases kq105 with
              | zero => cases (show none = some r from H)
              | succ k106 =>
               rw [windroseref08_pasts.j104_s] at H
               obtain ⟨J, hE⟩ := hE.at hA
               refine hK84 _ _ ?_
               rcases sp H with ⟨c109, H⟩ | ⟨c109, H⟩
               ·
                replace hE := hE.bt 107 c109
                refine ct hE (wp_seq_k fun K110 hK110 => pl0 (plc hE (.r 0 1 .nil) (fun a hE => pld (hK110 _ _ (wp_ret (block_ret (then_ret (then_ret (block_ret (then_ret (block_ret (then_ret (then_ret (block_ret (block_ret (then_ret (then_ret (block_ret (then_ret ?_)))))))))))))))))))
                replace hS := hS.tail
                replace hS := hS.tail
                replace hS := hS.tail
                obtain rfl := si H
                exact rt1 hE ⟨_, rfl, _, rfl, hS⟩
               ·
                replace hE := hE.bf 107 c109
                refine cf hE (wp_skip ?_)
                refine block_n ?_
                refine hK83 _ _ (pl0 (plc hE (.r 0 3 .nil) (fun a hE => pld ?_)))
                exact then_n ⟨k106, by omega, _, (w64 (x75 + 1)), by omega, hE, .of, hS, H⟩
             refine drawn 32 ⟨[], [], fun q => False⟩ mixed rfl (by kernel_rfl) (fun hst => ?_)
             replace hS := hS.drew
             have hb57 := hS.blk_at (i := 0) rfl
             obtain ⟨c85, H⟩ := gd H
             have hE_ := hE
             obtain ⟨ad86, rfl⟩ := g56.addr c85.1 c85.2
             replace hE := hE_
             obtain ⟨cs88, rfl, hc89⟩ := g56.el 0 x75 c85.1 c85.2
             refine mny 25 hst hE (.r 0 1 <| .b 1 1 hb57 <| .r 2 1 <| .x 3 c85 <| .c 4 (hS.fc hc89 0) <| .r 5 2 <| .nil) (fun a hE => ?_)
             rcases sp H with ⟨c90, H⟩ | ⟨c90, H⟩
             ·
              replace hE := hE.kt 82 c90
              refine mny 0 hst hE (.r 7 25 .nil) (fun a hE => ?_)
              refine dn ?_
              exact J107 _ (by omega) _ true _ _ hE .of hS H
             ·
              replace hE := hE.kf 82 c90
              refine mny 17 hst hE (.r 7 1 <| .b 8 1 hb57 <| .r 9 1 <| .x 10 c85 <| .c 11 (hS.fc hc89 0) <| .r 12 3 <| .nil) (fun a hE => ?_)
              rcases sp H with ⟨c94, H⟩ | ⟨c94, H⟩
              ·
               replace hE := hE.kt 90 c94
               refine mny 0 hst hE (.r 15 17 .nil) (fun a hE => ?_)
               refine dn ?_
               exact J107 _ (by omega) _ true _ _ hE .of hS H
              ·
               replace hE := hE.kf 90 c94
               refine mny 14 hst hE (.r 15 3 .nil) (fun a hE => ?_)
               rcases sp H with ⟨c95, H⟩ | ⟨c95, H⟩
               ·
                replace hE := hE.kt 93 c95
                obtain ⟨c96, H⟩ := gd H
                obtain ⟨cs98, rfl, hc99⟩ := g56.el 0 (w64 (x75 - 1)) c96.1 c96.2
                refine mny 0 hst hE (.r 18 1 <| .b 19 1 hb57 <| .r 20 2 <| .x 22 c96 <| .c 23 (hS.fc hc99 0) <| .r 24 1 <| .b 25 1 hb57 <| .r 26 1 <| .x 27 c85 <| .c 28 (hS.fc hc89 0) <| .r 29 3 <| .nil) (fun a hE => ?_)
                refine dn ?_
                exact J107 _ (by omega) _ (decide ((nth 0 ((nth T_api_Span.z ((nth T_api_Trail.z x0_.f6 x6).f1) x39).f1) (w64 (x75 - 1))) ≥ (nth 0 ((nth T_api_Span.z ((nth T_api_Trail.z x0_.f6 x6).f1) x39).f1) x75))) _ _ hE .of hS H
               ·
                replace hE := hE.kf 93 c95
                refine mny 0 hst hE (.r 18 14 .nil) (fun a hE => ?_)
                refine dn ?_
                exact J107 _ (by omega) _ false _ _ hE .of hS H
            ·
             replace hE := hE.kf 73 c82
             refine cf hE ?_
             refine wp_exit ?_
             refine hK73 _ _ (wp_seq_k fun K111 hK111 => pl0 (plc hE (.r 0 1 .nil) (fun a hE => pld (hK111 _ _ (wp_block ?_)))))
             refine wp_loop_ghost (fun kq114 a w' => ∃ (G : Nat → Value) (x112 : Int), kq114 ≤ k78 ∧ Env 139 G a ∧ At G [(1, .pointer (some ⟨b2, 0, none⟩)), (3, .int .i64 x6), (4, .pointer (some ⟨b24, 0, none⟩)), (5, .int .i64 x39), (6, .pointer (some ⟨b57, 0, none⟩)), (8, .int .i64 x112)] ∧ St W (mine W []) F w' F [box b57 #[.int .i64 ((nth T_api_Span.z ((nth T_api_Trail.z x0_.f6 x6).f1) x39).f0), .slice A54 (((nth T_api_Span.z ((nth T_api_Trail.z x0_.f6 x6).f1) x39).f1).length) c55] 51, box b24 #[.int .i64 ((nth T_api_Trail.z x0_.f6 x6).f0), .slice (some ad50) (((nth T_api_Trail.z x0_.f6 x6).f1).length) c22] 49, box b2 #[.int .i64 x0_.f0, .int .i64 x0_.f1, .int .i64 x0_.f2, .int .i64 x0_.f3, .slice A0_4 x0_.f4.length c0_4, .slice A0_5 x0_.f5.length c0_5, .slice (some ad17) x0_.f6.length c0_6] 26] ∧  windroseref08_pasts.l113 kq114 x0_ x6 x39 x112 = some r) k78 ⟨_, 0, Nat.le_refl _, hE, .of, hS, H⟩ ?_
             rintro kq114 a u116 ⟨G, x112, hkq, hE, hA, hS, H⟩
             cases kq114 with
             | zero => cases (show none = some r from H)
             | succ k115 =>
              rw [windroseref08_pasts.l113_s] at H
              obtain ⟨J, hE⟩ := hE.at hA
              refine wp_seq_k fun K117 hK117 => wp_seq_k fun K118 hK118 => pl0 (plc hE (.r 0 3 .nil) (fun a hE => pld (hK118 _ _ ?_)))
              rcases sp H with ⟨c119, H⟩ | ⟨c119, H⟩
              ·
               replace hE := hE.kt 110 c119
               refine ct hE (wp_skip (hK117 _ _ (wp_seq_k fun K120 hK120 => wp_block (wp_seq_k fun K121 hK121 => ?_))))
               have J140 : ∀ kq138, kq138 ≤ k115 → ∀ (G : Nat → Value) (y136 : Bool) (a : Act) (w' : World), Env 139 G a → At G [(1, .pointer (some ⟨b2, 0, none⟩)), (3, .int .i64 x6), (4, .pointer (some ⟨b24, 0, none⟩)), (5, .int .i64 x39), (6, .pointer (some ⟨b57, 0, none⟩)), (8, .int .i64 x112), (132, .bool y136)] → St W (mine W []) F w' F [box b57 #[.int .i64 ((nth T_api_Span.z ((nth T_api_Trail.z x0_.f6 x6).f1) x39).f0), .slice A54 (((nth T_api_Span.z ((nth T_api_Trail.z x0_.f6 x6).f1) x39).f1).length) c55] 51, box b24 #[.int .i64 ((nth T_api_Trail.z x0_.f6 x6).f0), .slice (some ad50) (((nth T_api_Trail.z x0_.f6 x6).f1).length) c22] 49, box b2 #[.int .i64 x0_.f0, .int .i64 x0_.f1, .int .i64 x0_.f2, .int .i64 x0_.f3, .slice A0_4 x0_.f4.length c0_4, .slice A0_5 x0_.f5.length c0_5, .slice (some ad17) x0_.f6.length c0_6] 26] → windroseref08_pasts.j137 kq138 x0_ x6 x39 x112 y136 = some r → K121 a w' := by
                intro kq138 hkq G y136 a u141 hE hA hS H
                cases kq138 with
                | zero => cases (show none = some r from H)
                | succ k139 =>
                 rw [windroseref08_pasts.j137_s] at H
                 obtain ⟨J, hE⟩ := hE.at hA
                 refine hK121 _ _ ?_
                 rcases sp H with ⟨c142, H⟩ | ⟨c142, H⟩
                 ·
                  replace hE := hE.bt 132 c142
                  refine ct hE (wp_seq_k fun K143 hK143 => pl0 (plc hE (.r 0 1 .nil) (fun a hE => pld (hK143 _ _ (wp_ret (block_ret (then_ret (then_ret (block_ret (block_ret (then_ret (then_ret (block_ret (block_ret (then_ret (then_ret (block_ret (then_ret ?_))))))))))))))))))
                  replace hS := hS.tail
                  replace hS := hS.tail
                  replace hS := hS.tail
                  obtain rfl := si H
                  exact rt1 hE ⟨_, rfl, _, rfl, hS⟩
                 ·
                  replace hE := hE.bf 132 c142
                  refine cf hE (wp_skip ?_)
                  refine block_n ?_
                  refine hK120 _ _ (pl0 (plc hE (.r 0 3 .nil) (fun a hE => pld ?_)))
                  exact then_n ⟨k139, by omega, _, (w64 (x112 + 1)), by omega, hE, .of, hS, H⟩
               refine drawn 20 ⟨[], [], fun q => False⟩ mixed rfl (by kernel_rfl) (fun hst => ?_)
               replace hS := hS.drew
               have hb24 := hS.blk_at (i := 1) rfl
               obtain ⟨c122, H⟩ := gd H
               obtain ⟨cs124, ⟨A126, c127, rfl, g128⟩, hc125⟩ := g23.el T_api_Span.z x112 c122.1 c122.2
               have hb57 := hS.blk_at (i := 0) rfl
               refine mny 10 hst hE (.r 0 1 <| .b 1 1 hb24 <| .r 2 1 <| .x 3 c122 <| .r 4 1 <| .c 5 (hS.fc hc125 0) <| .r 6 1 <| .b 7 0 hb57 <| .r 8 2 <| .nil) (fun a hE => ?_)
               rcases sp H with ⟨c129, H⟩ | ⟨c129, H⟩
               ·
                replace hE := hE.kt 122 c129
                refine mny 0 hst hE (.r 10 10 .nil) (fun a hE => ?_)
                refine dn ?_
                exact J140 _ (by omega) _ true _ _ hE .of hS H
               ·
                replace hE := hE.kf 122 c129
                refine mny 2 hst hE (.r 10 1 <| .b 11 1 hb24 <| .r 12 1 <| .x 13 c122 <| .r 14 1 <| .c 15 (hS.fc hc125 1) <| .r 16 1 <| .b 17 1 hb57 <| .nil) (fun a hE => ?_)
                obtain ⟨t134, h135, H⟩ := bd H
                refine on1 18 hE (.cl en21 (windroseref02_Ints.calls k115 ((nth T_api_Span.z ((nth T_api_Trail.z x0_.f6 x6).f1) x112).f1) ((nth T_api_Span.z ((nth T_api_Trail.z x0_.f6 x6).f1) x39).f1) _ _ _ _ _ _ _ hS.own.sub g128 g56 h135)) ?_
                rintro _ u133 a ⟨_, rfl, hC⟩ hE
                refine ⟨.of hC.agr, ?_⟩
                replace hS := hS.lent hC
                refine mny 0 hst hE (.r 19 1 .nil) (fun a hE => ?_)
                refine dn ?_
                exact J140 _ (by omega) _ t134 _ _ hE .of hS H
              ·
               replace hE := hE.kf 110 c119
               refine cf hE ?_
               refine wp_exit ?_
               refine hK47 _ _ (pl0 (plc hE (.r 0 3 .nil) (fun a hE => pld ?_)))
               replace hS := hS.tail
               exact then_n ⟨k115, by omega, _, (w64 (x39 + 1)), by omega, hE, .of, hS, H⟩
        refine pl0 (plc hE (.r 0 1 <| .b 1 0 hb57 <| .r 2 2 <| .nil) (fun a hE => ?_))
        rcases sp H with ⟨c62, H⟩ | ⟨c62, H⟩
        ·
         replace hE := hE.kt 46 c62
         refine plc hE (.r 4 22 .nil) (fun a hE => pld ?_)
         exact J69 _ (by omega) _ true _ _ hE .of hS H
        ·
         replace hE := hE.kf 46 c62
         have hb24 := hS.blk_at (i := 1) rfl
         refine plc hE (.r 4 1 <| .b 5 0 hb57 <| .r 6 1 <| .b 7 0 hb24 <| .r 8 3 <| .nil) (fun a hE => ?_)
         rcases sp H with ⟨c63, H⟩ | ⟨c63, H⟩
         ·
          replace hE := hE.kt 53 c63
          refine plc hE (.r 11 15 .nil) (fun a hE => pld ?_)
          exact J69 _ (by omega) _ true _ _ hE .of hS H
         ·
          replace hE := hE.kf 53 c63
          have hb2 := hS.blk_at (i := 2) rfl
          refine plc hE (.r 11 1 <| .b 12 1 hb57 <| .r 13 2 <| .b 15 2 hb2 <| .r 16 3 <| .nil) (fun a hE => ?_)
          rcases sp H with ⟨c64, H⟩ | ⟨c64, H⟩
          ·
           replace hE := hE.kt 61 c64
           refine plc hE (.r 19 7 .nil) (fun a hE => pld ?_)
           exact J69 _ (by omega) _ true _ _ hE .of hS H
          ·
           replace hE := hE.kf 61 c64
           refine plc hE (.r 19 1 <| .b 20 1 hb57 <| .r 21 2 <| .b 23 1 hb2 <| .r 24 2 <| .nil) (fun a hE => pld ?_)
           exact J69 _ (by omega) _ (decide ((((nth T_api_Span.z ((nth T_api_Trail.z x0_.f6 x6).f1) x39).f1).length : Int) > x0_.f1)) _ _ hE .of hS H
       ·
        replace hE := hE.kf 35 c46
        refine cf hE ?_
        refine wp_exit ?_
        refine hK14 _ _ (pl0 (plc hE (.r 0 3 .nil) (fun a hE => pld ?_)))
        replace hS := hS.tail
        exact then_n ⟨k42, by omega, _, (w64 (x6 + 1)), by omega, hE, .of, hS, H⟩
   refine pl0 (plc hE (.r 0 1 <| .b 1 0 hb24 <| .r 2 2 <| .nil) (fun a hE => ?_))
   rcases sp H with ⟨c29, H⟩ | ⟨c29, H⟩
   ·
    replace hE := hE.kt 24 c29
    refine plc hE (.r 4 6 .nil) (fun a hE => pld ?_)
    exact J34 _ (by omega) _ true _ _ hE .of hS H
   ·
    replace hE := hE.kf 24 c29
    have hb2 := hS.blk_at (i := 1) rfl
    refine plc hE (.r 4 1 <| .b 5 0 hb24 <| .r 6 1 <| .b 7 0 hb2 <| .r 8 2 <| .nil) (fun a hE => pld ?_)
    exact J34 _ (by omega) _ (decide ((nth T_api_Trail.z x0_.f6 x6).f0 > x0_.f0)) _ _ hE .of hS H
  ·
   replace hE := hE.kf 13 c13
   refine cf hE ?_
   refine wp_exit ?_
   refine hK4 _ _ (wp_seq_k fun K144 hK144 => pl0 (plc hE (.r 0 1 <| .b 1 6 hb2 <| .r 2 2 <| .b 4 3 hb2 <| .r 5 2 <| .nil) (fun a hE => pld (hK144 _ _ (wp_ret ?_)))))
   replace hS := hS.tail
   obtain rfl := si H
   exact rt1 hE ⟨_, rfl, _, rfl, hS⟩

end Go.Proofs.YtpohepinmjmbkaaGreat.MS
