import Derived.Test.YtpohepinmjmbkaaGreatQS5
namespace Go.Proofs.YtpohepinmjmbkaaGreat.QS
open Go Go.RowKit Go.Proofs.YtpohepinmjmbkaaGreat.Sl
set_option linter.unusedVariables false
set_option linter.unusedSimpArgs false
set_option maxHeartbeats 4000000
set_option maxRecDepth 100000
def qBH.j21 : Nat → qJ → qAm → Bool → Option (qJ × Int)
  | 0, _, _, _ => none
  | k + 1, x0_, x1_, y20 => if y20 = true then ((qAo.f k x0_).bind fun t29 => (some (t29, 1))) else (if x0_.f0 = 2147483647 then ((qAo.f k x0_).bind fun t53 => (some (t53, 6))) else ((qAo.f k x0_).bind fun t77 => ((qBk.f k t77 x1_).bind fun t95 => (if t95.2 = 0 then ((qAw.f k x0_ t95.1).bind fun t149 => (some ((⟨(w64 (t95.1.f0 + 1)), t95.1.f1, t95.1.f2, t95.1.f3, t95.1.f4, t95.1.f5, t149⟩ : qJ), 0))) else ((qAo.f k x0_).bind fun t125 => (some (t125, t95.2)))))))
theorem qBH.j21_s (k : Nat) (x0_ : qJ) (x1_ : qAm) (y20 : Bool) : qBH.j21 (k + 1) x0_ x1_ y20 = (if y20 = true then ((qAo.f k x0_).bind fun t29 => (some (t29, 1))) else (if x0_.f0 = 2147483647 then ((qAo.f k x0_).bind fun t53 => (some (t53, 6))) else ((qAo.f k x0_).bind fun t77 => ((qBk.f k t77 x1_).bind fun t95 => (if t95.2 = 0 then ((qAw.f k x0_ t95.1).bind fun t149 => (some ((⟨(w64 (t95.1.f0 + 1)), t95.1.f1, t95.1.f2, t95.1.f3, t95.1.f4, t95.1.f5, t149⟩ : qJ), 0))) else ((qAo.f k x0_).bind fun t125 => (some (t125, t95.2)))))))) := by kernel_rfl
def qBH.f (k : Nat) (x0_ : qJ) (x1_ : qAm) : Option (qJ × Int) := (qx.f k x0_).bind fun t11 => (if t11 = 0 then (if x1_.f0 < 1 then (qBH.j21 k x0_ x1_ true) else (if x1_.f0 ≥ 11 then (qBH.j21 k x0_ x1_ true) else ((qBv.f x1_).bind fun t18 => (qBH.j21 k x0_ x1_ (!t18))))) else (some ((⟨0, 0, 0, 0, [], [], []⟩ : qJ), 1)))
def qBH.Post (W F : World) (r : qJ × Int) (v : Value) (w' : World) : Prop := ∃ (F' : World) (RA0_4 : Option Addr) (rc0_4 : Nat) (RA0_5 : Option Addr) (rc0_5 : Nat) (RA0_6 : Option Addr) (rc0_6 : Nat), v = .tuple #[.agg #[.int .i64 r.1.f0, .int .i64 r.1.f1, .int .i64 r.1.f2, .int .i64 r.1.f3, .slice RA0_4 r.1.f4.length rc0_4, .slice RA0_5 r.1.f5.length rc0_5, .slice RA0_6 r.1.f6.length rc0_6], .int .i64 r.2] ∧ St W (mine W []) F w' F' [row qC.k 49 (.slice RA0_6 r.1.f6.length rc0_6) r.1.f6] ∧ Rd qA.k F' RA0_4 rc0_4 r.1.f4 ∧ Rd qK.k F' RA0_5 rc0_5 r.1.f5
theorem qBH.calls (k : Nat) (x0_ : qJ) (x1_ : qAm) (A0_4 : Option Addr) (c0_4 : Nat) (A0_5 : Option Addr) (c0_5 : Nat) (A0_6 : Option Addr) (c0_6 : Nat) (A1_6 : Option Addr) (c1_6 : Nat) (r : qJ × Int) (W F : World) (hown : Sub F W) (g0_4 : Rd qA.k F A0_4 c0_4 x0_.f4) (g0_5 : Rd qK.k F A0_5 c0_5 x0_.f5) (g0_6 : Rd qC.k F A0_6 c0_6 x0_.f6) (g1_6 : Rd (Kn.int .i64) F A1_6 c1_6 x1_.f6) (H : qBH.f k x0_ x1_ = some r) :
    Calls Tryz.prog 26 #[.agg #[.int .i64 x0_.f0, .int .i64 x0_.f1, .int .i64 x0_.f2, .int .i64 x0_.f3, .slice A0_4 x0_.f4.length c0_4, .slice A0_5 x0_.f5.length c0_5, .slice A0_6 x0_.f6.length c0_6], .agg #[.int .i64 x1_.f0, .int .i64 x1_.f1, .int .i64 x1_.f2, .int .i64 x1_.f3, .int .i64 x1_.f4, .int .i64 x1_.f5, .slice A1_6 x1_.f6.length c1_6]] W fun e w' => ∃ v, e = .returned v ∧ qBH.Post W F r v w' := by
 have hS := St.start (Own.nil hown)
 unfold qBH.f at H
 refine enter (n := 56) rfl rfl rfl (Nat.le_of_ble_eq_true rfl) (fun a hE => ?_)
 refine sq fun K1 hK1 => pl0 (ple hE (.bx (t := 26) hS [.int .i64 x0_.f0, .int .i64 x0_.f1, .int .i64 x0_.f2, .int .i64 x0_.f3, .slice A0_4 x0_.f4.length c0_4, .slice A0_5 x0_.f5.length c0_5, .slice A0_6 x0_.f6.length c0_6]) ?_)
 rintro _ u3 a ⟨b2, rfl, hb2, hS, hg⟩ hE
 refine ple hE (.bx (t := 40) hS [.int .i64 x1_.f0, .int .i64 x1_.f1, .int .i64 x1_.f2, .int .i64 x1_.f3, .int .i64 x1_.f4, .int .i64 x1_.f5, .slice A1_6 x1_.f6.length c1_6]) ?_
 rintro _ u5 a ⟨b4, rfl, hb4, hS, hg⟩ hE
 refine ple hE (.al (t := 26) hS [.int .i64 0, .int .i64 0, .int .i64 0, .int .i64 0, .slice none 0 0, .slice none 0 0, .slice none 0 0]) ?_
 rintro _ u7 a ⟨b6, rfl, hb6, hS, hg⟩ hE
 refine plc hE (.r 3 1 .nil) (fun a hE => pld (hK1 _ _ (sq fun K8 hK8 => wp_block (sq fun K9 hK9 => pl0 ?_))))
 have hb2 := hS.blk_at (i := 2) rfl
 refine plc hE (.bn 0 0 7 hb2 .nil) (fun a hE => ?_)
 obtain ⟨t11, h12, H⟩ := bd H
 refine ple hE (.cl en32 (qx.calls k x0_ _ _ _ _ _ _ _ _ _ hS.own.sub g0_4 g0_5 g0_6 h12)) ?_
 rintro _ u10 a ⟨_, rfl, hC⟩ hE
 replace hS := hS.lent hC
 refine plc hE (.r 2 2 .nil) (fun a hE => pld (hK9 _ _ ?_))
 rcases sp H with ⟨c13, H⟩ | ⟨c13, H⟩
 ·
  replace hE := hE.ktn 8 c13
  refine cf hE (sq fun K14 hK14 => ?_)
  have J24 : ∀ kq22, kq22 ≤ k → ∀ (G : Nat → Value) (y20 : Bool) (a : Act) (w' : World), Env 56 G a → At G [(2, .pointer (some ⟨b2, 0, none⟩)), (3, .pointer (some ⟨b4, 0, none⟩)), (4, .pointer (some ⟨b6, 0, none⟩)), (13, .bool y20)] → St W (mine W []) F w' F [box b6 #[.int .i64 0, .int .i64 0, .int .i64 0, .int .i64 0, .slice none 0 0, .slice none 0 0, .slice none 0 0] 26, box b4 #[.int .i64 x1_.f0, .int .i64 x1_.f1, .int .i64 x1_.f2, .int .i64 x1_.f3, .int .i64 x1_.f4, .int .i64 x1_.f5, .slice A1_6 x1_.f6.length c1_6] 40, box b2 #[.int .i64 x0_.f0, .int .i64 x0_.f1, .int .i64 x0_.f2, .int .i64 x0_.f3, .slice A0_4 x0_.f4.length c0_4, .slice A0_5 x0_.f5.length c0_5, .slice A0_6 x0_.f6.length c0_6] 26] → qBH.j21 kq22 x0_ x1_ y20 = some r → K14 a w' := by
   intro kq22 hkq G y20 a u25 hE hA hS H
   cases kq22 with
   | zero => cases (show none = some r from H)
   | succ k23 =>
    rw [qBH.j21_s] at H
    obtain ⟨J, hE⟩ := hE.at hA
    refine hK14 _ _ ?_
    rcases sp H with ⟨c26, H⟩ | ⟨c26, H⟩
    ·
     replace hE := hE.bt 13 c26
     refine ct hE (sq fun K27 hK27 => pl0 ?_)
     have hb2 := hS.blk_at (i := 2) rfl
     refine plc hE (.bn 0 0 7 hb2 .nil) (fun a hE => ?_)
     obtain ⟨t29, h30, H⟩ := bd H
     refine ple hE (.cl en77 (qAo.calls k23 x0_ _ _ _ _ _ _ _ _ _ hS.own.sub g0_4 g0_5 g0_6 h30)) ?_
     rintro _ u28 a ⟨F31, A32, c33, A36, c37, A40, c41, rfl, hC⟩ hE
     have hs := hC.sub
     replace hS := hS.called (X := []) hC
     replace g0_4 := g0_4.mono hs
     replace g0_5 := g0_5.mono hs
     replace g0_6 := g0_6.mono hs
     replace g1_6 := g1_6.mono hs
     replace hS := hS.front 3 rfl
     refine ple hE (.sto hS [.int .i64 t29.f0, .int .i64 t29.f1, .int .i64 t29.f2, .int .i64 t29.f3, .slice A32 t29.f4.length c33, .slice A36 t29.f5.length c37, .slice A40 t29.f6.length c41]) ?_
     rintro _ u44 a ⟨rfl, hb6, hS, hz⟩ hE
     refine plc hE (.r 3 1 .nil) (fun a hE => pld (hK27 _ _ (wp_ret (qCC (qCB ?_)))))
     replace hS := hS.front 1 rfl
     obtain ⟨F45, hs, g46, hS⟩ := hS.give
     replace g0_4 := g0_4.mono hs
     replace g0_5 := g0_5.mono hs
     replace g0_6 := g0_6.mono hs
     replace g1_6 := g1_6.mono hs
     replace hS := hS.front 1 rfl
     obtain ⟨F47, hs, g48, hS⟩ := hS.give
     replace g0_4 := g0_4.mono hs
     replace g0_5 := g0_5.mono hs
     replace g0_6 := g0_6.mono hs
     replace g46 := g46.mono hs
     replace g1_6 := g1_6.mono hs
     replace hS := hS.tail
     replace hS := hS.front 1 rfl
     replace hS := hS.tail
     replace hS := hS.front 1 rfl
     replace hS := hS.tail
     obtain rfl := si H
     exact retN hE rfl (of_decide_eq_true rfl) (.cell (by kernel_rfl) (qCH [.int .i64 t29.f0, .int .i64 t29.f1, .int .i64 t29.f2, .int .i64 t29.f3, .slice A32 t29.f4.length c33, .slice A36 t29.f5.length c37, .slice A40 t29.f6.length c41] ag26 sz26 hb6 rfl) (.tmp (by kernel_rfl) .nil)) ⟨_, rfl, _, _, _, _, _, _, _, rfl, hS, g46, g48⟩
    ·
     replace hE := hE.bf 13 c26
     refine cf hE (sq fun K49 hK49 => pl0 ?_)
     have hb2 := hS.blk_at (i := 2) rfl
     refine plc hE (.r 0 1 <| .b 1 0 hb2 <| .r 2 2 <| .nil) (fun a hE => pld (hK49 _ _ ?_))
     rcases sp H with ⟨c50, H⟩ | ⟨c50, H⟩
     ·
      replace hE := hE.kt 29 c50
      refine ct hE (sq fun K51 hK51 => pl0 (plc hE (.bn 0 0 7 hb2 .nil) (fun a hE => ?_)))
      obtain ⟨t53, h54, H⟩ := bd H
      refine ple hE (.cl en77 (qAo.calls k23 x0_ _ _ _ _ _ _ _ _ _ hS.own.sub g0_4 g0_5 g0_6 h54)) ?_
      rintro _ u52 a ⟨F55, A56, c57, A60, c61, A64, c65, rfl, hC⟩ hE
      have hs := hC.sub
      replace hS := hS.called (X := []) hC
      replace g0_4 := g0_4.mono hs
      replace g0_5 := g0_5.mono hs
      replace g0_6 := g0_6.mono hs
      replace g1_6 := g1_6.mono hs
      replace hS := hS.front 3 rfl
      refine ple hE (.sto hS [.int .i64 t53.f0, .int .i64 t53.f1, .int .i64 t53.f2, .int .i64 t53.f3, .slice A56 t53.f4.length c57, .slice A60 t53.f5.length c61, .slice A64 t53.f6.length c65]) ?_
      rintro _ u68 a ⟨rfl, hb6, hS, hz⟩ hE
      refine plc hE (.r 3 1 .nil) (fun a hE => pld (hK51 _ _ (wp_ret (qCC (qCB ?_)))))
      replace hS := hS.front 1 rfl
      obtain ⟨F69, hs, g70, hS⟩ := hS.give
      replace g0_4 := g0_4.mono hs
      replace g0_5 := g0_5.mono hs
      replace g0_6 := g0_6.mono hs
      replace g1_6 := g1_6.mono hs
      replace hS := hS.front 1 rfl
      obtain ⟨F71, hs, g72, hS⟩ := hS.give
      replace g0_4 := g0_4.mono hs
      replace g0_5 := g0_5.mono hs
      replace g0_6 := g0_6.mono hs
      replace g70 := g70.mono hs
      replace g1_6 := g1_6.mono hs
      replace hS := hS.tail
      replace hS := hS.front 1 rfl
      replace hS := hS.tail
      replace hS := hS.front 1 rfl
      replace hS := hS.tail
      obtain rfl := si H
      exact retN hE rfl (of_decide_eq_true rfl) (.cell (by kernel_rfl) (qCH [.int .i64 t53.f0, .int .i64 t53.f1, .int .i64 t53.f2, .int .i64 t53.f3, .slice A56 t53.f4.length c57, .slice A60 t53.f5.length c61, .slice A64 t53.f6.length c65] ag26 sz26 hb6 rfl) (.tmp (by kernel_rfl) .nil)) ⟨_, rfl, _, _, _, _, _, _, _, rfl, hS, g70, g72⟩
     ·
      replace hE := hE.kf 29 c50
      refine cf hE (wp_skip ?_)
      refine qCD ?_
      refine hK8 _ _ (sq fun K76 hK76 => ?_)
      refine drawn 10 ⟨[3, 8], [], fun q => False⟩ mixed rfl (by kernel_rfl) (fun hst => ?_)
      replace hS := hS.drew
      have hb2 := hS.blk_at (i := 2) rfl
      have hb4 := hS.blk_at (i := 1) rfl
      refine mny 8 hst hE (.bn 0 0 7 hb2 <| .bn 2 0 7 hb4 <| .nil) (fun a hE => ?_)
      obtain ⟨t77, h78, H⟩ := bd H
      obtain ⟨t95, h96, H⟩ := bd H
      refine meet2 (fun a w' => ∃ (G : Nat → Value) (b93 : Nat) (A103 : Option Addr) (c104 : Nat) (A107 : Option Addr) (c108 : Nat) (A110 : Option Addr) (c111 : Nat) (F117 : World), Env 56 G a ∧ At G [(2, .pointer (some ⟨b2, 0, none⟩)), (4, .pointer (some ⟨b6, 0, none⟩)), (6, .pointer (some ⟨b93, 0, none⟩)), (40, .agg #[.int .i64 t95.1.f0, .int .i64 t95.1.f1, .int .i64 t95.1.f2, .int .i64 t95.1.f3, .slice A103 t95.1.f4.length c104, .slice A107 t95.1.f5.length c108, .slice A110 t95.1.f6.length c111]), (41, .int .i64 t95.2)] ∧ St W (mine W []) F w' F117 [box b93 #[.int .i64 0, .int .i64 0, .int .i64 0, .int .i64 0, .slice none 0 0, .slice none 0 0, .slice none 0 0] 26, box b6 #[.int .i64 0, .int .i64 0, .int .i64 0, .int .i64 0, .slice none 0 0, .slice none 0 0, .slice none 0 0] 26, box b4 #[.int .i64 x1_.f0, .int .i64 x1_.f1, .int .i64 x1_.f2, .int .i64 x1_.f3, .int .i64 x1_.f4, .int .i64 x1_.f5, .slice A1_6 x1_.f6.length c1_6] 40, box b2 #[.int .i64 x0_.f0, .int .i64 x0_.f1, .int .i64 x0_.f2, .int .i64 x0_.f3, .slice A0_4 x0_.f4.length c0_4, .slice A0_5 x0_.f5.length c0_5, .slice A0_6 x0_.f6.length c0_6] 26, row qA.k 104 (.slice A103 t95.1.f4.length c104) t95.1.f4] ∧ Rd qK.k F117 A107 c108 t95.1.f5 ∧ Rd qC.k F117 A110 c111 t95.1.f6 ∧ Rd (Kn.int .i64) F117 A1_6 c1_6 x1_.f6 ∧ Rd qA.k F117 A0_4 c0_4 x0_.f4 ∧ Rd qK.k F117 A0_5 c0_5 x0_.f5 ∧ Rd qC.k F117 A0_6 c0_6 x0_.f6) 2 255 ?_ (fun hJb => ?_)
      ·
       rintro a u118 ⟨G, b93, A103, c104, A107, c108, A110, c111, F117, hE, hA, hS, g109, g112, g1_6, g0_4, g0_5, g0_6⟩
       obtain ⟨J, hE⟩ := hE.at hA
       refine on1 8 hE (.sto hS [.int .i64 t95.1.f0, .int .i64 t95.1.f1, .int .i64 t95.1.f2, .int .i64 t95.1.f3, .slice A103 t95.1.f4.length c104, .slice A107 t95.1.f5.length c108, .slice A110 t95.1.f6.length c111]) ?_
       rintro _ u119 a ⟨rfl, hb93, hS, hz⟩ hE
       refine ⟨.d, ?_⟩
       refine mny 0 hst hE (.r 9 1 .nil) (fun a hE => ?_)
       refine dn ?_
       refine hK76 _ _ (sq fun K120 hK120 => sq fun K121 hK121 => pl0 (plc hE (.r 0 2 .nil) (fun a hE => pld (hK121 _ _ ?_))))
       rcases sp H with ⟨c122, H⟩ | ⟨c122, H⟩
       ·
        replace hE := hE.ktn 43 c122
        refine cf hE (wp_skip (hK120 _ _ (sq fun K145 hK145 => pl0 ?_)))
        have hb2 := hS.blk_at (i := 3) rfl
        refine plc hE (.bn 0 0 7 hb2 <| .bn 1 0 7 hb93 <| .nil) (fun a hE => ?_)
        replace hS := hS.front 4 rfl
        obtain ⟨F146, hs, g147, hS⟩ := hS.give
        replace g109 := g109.mono hs
        replace g112 := g112.mono hs
        replace g0_4 := g0_4.mono hs
        replace g0_5 := g0_5.mono hs
        replace g0_6 := g0_6.mono hs
        replace g1_6 := g1_6.mono hs
        obtain ⟨t149, h150, H⟩ := bd H
        refine ple hE (.cl en79 (qAw.calls k23 x0_ t95.1 _ _ _ _ _ _ _ _ _ _ _ _ _ _ _ hS.own.sub g0_4 g0_5 g0_6 g147 g109 g112 h150)) ?_
        rintro _ u148 a ⟨F151, A152, c153, rfl, hC⟩ hE
        have hs := hC.sub
        replace hS := hS.called (X := []) hC
        replace g147 := g147.mono hs
        replace g109 := g109.mono hs
        replace g112 := g112.mono hs
        replace g0_4 := g0_4.mono hs
        replace g0_5 := g0_5.mono hs
        replace g0_6 := g0_6.mono hs
        replace g1_6 := g1_6.mono hs
        refine plc hE (.r 3 1 .nil) (fun a hE => ?_)
        replace hS := hS.front 1 rfl
        refine ple hE (.sto hS [.int .i64 t95.1.f0, .int .i64 t95.1.f1, .int .i64 t95.1.f2, .int .i64 t95.1.f3, .slice A103 t95.1.f4.length c104, .slice A107 t95.1.f5.length c108, .slice A152 t149.length c153]) ?_
        rintro _ u156 a ⟨rfl, hb93, hS, hz⟩ hE
        refine pld (hK145 _ _ (sq fun K157 hK157 => pl0 (plc hE (.r 0 1 <| .b 1 0 hb93 <| .r 2 2 <| .nil) (fun a hE => ple hE (.sto hS [.int .i64 (w64 (t95.1.f0 + 1)), .int .i64 t95.1.f1, .int .i64 t95.1.f2, .int .i64 t95.1.f3, .slice A103 t95.1.f4.length c104, .slice A107 t95.1.f5.length c108, .slice A152 t149.length c153]) ?_))))
        rintro _ u158 a ⟨rfl, hb93, hS, hz⟩ hE
        refine pld (hK157 _ _ (sq fun K159 hK159 => pl0 (plc hE (.bn 0 0 7 hb93 .nil) (fun a hE => ?_))))
        replace hS := hS.front 2 rfl
        refine ple hE (.sto hS [.int .i64 (w64 (t95.1.f0 + 1)), .int .i64 t95.1.f1, .int .i64 t95.1.f2, .int .i64 t95.1.f3, .slice A103 t95.1.f4.length c104, .slice A107 t95.1.f5.length c108, .slice A152 t149.length c153]) ?_
        rintro _ u160 a ⟨rfl, hb6, hS, hz⟩ hE
        refine plc hE (.r 2 1 .nil) (fun a hE => pld (hK159 _ _ (wp_ret ?_)))
        replace hS := hS.tail
        replace hS := hS.tail
        replace hS := hS.front 1 rfl
        replace hS := hS.tail
        replace hS := hS.front 1 rfl
        replace hS := hS.tail
        obtain rfl := si H
        exact retN hE rfl (of_decide_eq_true rfl) (.cell (by kernel_rfl) (qCH [.int .i64 (w64 (t95.1.f0 + 1)), .int .i64 t95.1.f1, .int .i64 t95.1.f2, .int .i64 t95.1.f3, .slice A103 t95.1.f4.length c104, .slice A107 t95.1.f5.length c108, .slice A152 t149.length c153] ag26 sz26 hb6 rfl) (.tmp (by kernel_rfl) .nil)) ⟨_, rfl, _, _, _, _, _, _, _, rfl, hS, g147, g109⟩
       ·
        replace hE := hE.kfn 43 c122
        refine ct hE (sq fun K123 hK123 => pl0 ?_)
        have hb2 := hS.blk_at (i := 3) rfl
        refine plc hE (.bn 0 0 7 hb2 .nil) (fun a hE => ?_)
        obtain ⟨t125, h126, H⟩ := bd H
        refine ple hE (.cl en77 (qAo.calls k23 x0_ _ _ _ _ _ _ _ _ _ hS.own.sub g0_4 g0_5 g0_6 h126)) ?_
        rintro _ u124 a ⟨F127, A128, c129, A132, c133, A136, c137, rfl, hC⟩ hE
        have hs := hC.sub
        replace hS := hS.called (X := []) hC
        replace g109 := g109.mono hs
        replace g112 := g112.mono hs
        replace g0_4 := g0_4.mono hs
        replace g0_5 := g0_5.mono hs
        replace g0_6 := g0_6.mono hs
        replace g1_6 := g1_6.mono hs
        refine plc hE (.r 2 1 .nil) (fun a hE => ?_)
        replace hS := hS.front 4 rfl
        refine ple hE (.sto hS [.int .i64 t125.f0, .int .i64 t125.f1, .int .i64 t125.f2, .int .i64 t125.f3, .slice A128 t125.f4.length c129, .slice A132 t125.f5.length c133, .slice A136 t125.f6.length c137]) ?_
        rintro _ u140 a ⟨rfl, hb6, hS, hz⟩ hE
        refine plc hE (.r 4 1 .nil) (fun a hE => pld (hK123 _ _ (wp_ret (qCB ?_))))
        replace hS := hS.front 1 rfl
        obtain ⟨F141, hs, g142, hS⟩ := hS.give
        replace g109 := g109.mono hs
        replace g112 := g112.mono hs
        replace g0_4 := g0_4.mono hs
        replace g0_5 := g0_5.mono hs
        replace g0_6 := g0_6.mono hs
        replace g1_6 := g1_6.mono hs
        replace hS := hS.front 1 rfl
        obtain ⟨F143, hs, g144, hS⟩ := hS.give
        replace g109 := g109.mono hs
        replace g112 := g112.mono hs
        replace g0_4 := g0_4.mono hs
        replace g0_5 := g0_5.mono hs
        replace g0_6 := g0_6.mono hs
        replace g142 := g142.mono hs
        replace g1_6 := g1_6.mono hs
        replace hS := hS.tail
        replace hS := hS.front 1 rfl
        replace hS := hS.tail
        replace hS := hS.front 1 rfl
        replace hS := hS.tail
        replace hS := hS.front 1 rfl
        replace hS := hS.tail
        replace hS := hS.front 1 rfl
        replace hS := hS.tail
        obtain rfl := si H
        exact retN hE rfl (of_decide_eq_true rfl) (.cell (by kernel_rfl) (qCH [.int .i64 t125.f0, .int .i64 t125.f1, .int .i64 t125.f2, .int .i64 t125.f3, .slice A128 t125.f4.length c129, .slice A132 t125.f5.length c133, .slice A136 t125.f6.length c137] ag26 sz26 hb6 rfl) (.tmp (by kernel_rfl) .nil)) ⟨_, rfl, _, _, _, _, _, _, _, rfl, hS, g142, g144⟩
      ·
       refine meet2 (fun a w' => ∃ (G : Nat → Value) (b93 : Nat) (A81 : Option Addr) (c82 : Nat) (A85 : Option Addr) (c86 : Nat) (A89 : Option Addr) (c90 : Nat) (F114 : World), Env 56 G a ∧ At G [(2, .pointer (some ⟨b2, 0, none⟩)), (4, .pointer (some ⟨b6, 0, none⟩)), (6, .pointer (some ⟨b93, 0, none⟩)), (37, .agg #[.int .i64 t77.f0, .int .i64 t77.f1, .int .i64 t77.f2, .int .i64 t77.f3, .slice A81 t77.f4.length c82, .slice A85 t77.f5.length c86, .slice A89 t77.f6.length c90]), (38, .agg #[.int .i64 x1_.f0, .int .i64 x1_.f1, .int .i64 x1_.f2, .int .i64 x1_.f3, .int .i64 x1_.f4, .int .i64 x1_.f5, .slice A1_6 x1_.f6.length c1_6])] ∧ St W (mine W []) F w' F114 [box b93 #[.int .i64 0, .int .i64 0, .int .i64 0, .int .i64 0, .slice none 0 0, .slice none 0 0, .slice none 0 0] 26, box b6 #[.int .i64 0, .int .i64 0, .int .i64 0, .int .i64 0, .slice none 0 0, .slice none 0 0, .slice none 0 0] 26, box b4 #[.int .i64 x1_.f0, .int .i64 x1_.f1, .int .i64 x1_.f2, .int .i64 x1_.f3, .int .i64 x1_.f4, .int .i64 x1_.f5, .slice A1_6 x1_.f6.length c1_6] 40, box b2 #[.int .i64 x0_.f0, .int .i64 x0_.f1, .int .i64 x0_.f2, .int .i64 x0_.f3, .slice A0_4 x0_.f4.length c0_4, .slice A0_5 x0_.f5.length c0_5, .slice A0_6 x0_.f6.length c0_6] 26, row qA.k 104 (.slice A81 t77.f4.length c82) t77.f4, row qK.k 97 (.slice A85 t77.f5.length c86) t77.f5, row qC.k 49 (.slice A89 t77.f6.length c90) t77.f6] ∧ Rd (Kn.int .i64) F114 A1_6 c1_6 x1_.f6 ∧ Rd qA.k F114 A0_4 c0_4 x0_.f4 ∧ Rd qK.k F114 A0_5 c0_5 x0_.f5 ∧ Rd qC.k F114 A0_6 c0_6 x0_.f6) 6 135 ?_ (fun hJ => ?_)
       ·
        rintro a u115 ⟨G, b93, A81, c82, A85, c86, A89, c90, F114, hE, hA, hS, g1_6, g0_4, g0_5, g0_6⟩
        obtain ⟨J, hE⟩ := hE.at hA
        replace hS := hS.front 5 rfl
        obtain ⟨F97, hs, g98, hS⟩ := hS.give
        replace g1_6 := g1_6.mono hs
        replace g0_4 := g0_4.mono hs
        replace g0_5 := g0_5.mono hs
        replace g0_6 := g0_6.mono hs
        replace hS := hS.front 5 rfl
        obtain ⟨F99, hs, g100, hS⟩ := hS.give
        replace g98 := g98.mono hs
        replace g1_6 := g1_6.mono hs
        replace g0_4 := g0_4.mono hs
        replace g0_5 := g0_5.mono hs
        replace g0_6 := g0_6.mono hs
        replace hS := hS.front 4 rfl
        refine on1 3 hE (.cl en78 (qBk.calls k23 t77 x1_ _ _ _ _ _ _ _ _ _ _ _ (Own.left (X := [row qA.k 104 (.slice A81 t77.f4.length c82) t77.f4]) hS.own) g98 g100 g1_6 h96)) ?_
        rintro _ u101 a ⟨F102, A103, c104, A107, c108, A110, c111, rfl, hC, g109, g112⟩ hE
        refine ⟨.d, ?_⟩
        have hs := hC.sub
        replace hS := hS.called (X := [row qA.k 104 (.slice A81 t77.f4.length c82) t77.f4]) hC
        replace g98 := g98.mono hs
        replace g100 := g100.mono hs
        replace g1_6 := g1_6.mono hs
        replace g0_4 := g0_4.mono hs
        replace g0_5 := g0_5.mono hs
        replace g0_6 := g0_6.mono hs
        refine mny 2 hst hE (.r 4 3 .nil) (fun a hE => ?_)
        replace hS := hS.front 4 rfl
        replace hS := hS.front 4 rfl
        replace hS := hS.front 4 rfl
        replace hS := hS.front 4 rfl
        exact hJb _ _ ⟨_, b93, A103, c104, A107, c108, A110, c111, F102, hE, .of, hS, g109, g112, g1_6, g0_4, g0_5, g0_6⟩
       ·
        refine pk2 1 7 ?_ ?_
        ·
         refine pk1 1 hE (.cl en77 (qAo.calls k23 x0_ _ _ _ _ _ _ _ _ _ hS.own.sub g0_4 g0_5 g0_6 h78)) ?_
         rintro _ u79 a ⟨F80, A81, c82, A85, c86, A89, c90, rfl, hC⟩ hE
         refine ⟨.of hC.agr, ?_⟩
         have hs := hC.sub
         replace hS := hS.called (X := []) hC
         replace g0_4 := g0_4.mono hs
         replace g0_5 := g0_5.mono hs
         replace g0_6 := g0_6.mono hs
         replace g1_6 := g1_6.mono hs
         refine pk2 7 3 ?_ ?_
         ·
          refine pk1 7 hE (.al (t := 26) hS [.int .i64 0, .int .i64 0, .int .i64 0, .int .i64 0, .slice none 0 0, .slice none 0 0, .slice none 0 0]) ?_
          rintro _ u94 a ⟨b93, rfl, hb93, hS, hg⟩ hE
          refine ⟨.of hg, ?_⟩
          replace hS := hS.front 3 rfl
          replace hS := hS.front 3 rfl
          replace hS := hS.front 3 rfl
          replace hS := hS.front 6 rfl
          replace hS := hS.front 6 rfl
          replace hS := hS.front 6 rfl
          replace hS := hS.front 6 rfl
          exact hJ _ _ ⟨_, b93, A81, c82, A85, c86, A89, c90, F80, hE, .of, hS, g1_6, g0_4, g0_5, g0_6⟩
         ·
          replace hS := hS.front 1 rfl
          obtain ⟨F97, hs, g98, hS⟩ := hS.give
          replace g0_4 := g0_4.mono hs
          replace g0_5 := g0_5.mono hs
          replace g0_6 := g0_6.mono hs
          replace g1_6 := g1_6.mono hs
          replace hS := hS.front 1 rfl
          obtain ⟨F99, hs, g100, hS⟩ := hS.give
          replace g0_4 := g0_4.mono hs
          replace g0_5 := g0_5.mono hs
          replace g0_6 := g0_6.mono hs
          replace g98 := g98.mono hs
          replace g1_6 := g1_6.mono hs
          refine pk1 3 hE (.cl en78 (qBk.calls k23 t77 x1_ _ _ _ _ _ _ _ _ _ _ _ (Own.left (X := [row qA.k 104 (.slice A81 t77.f4.length c82) t77.f4]) hS.own) g98 g100 g1_6 h96)) ?_
          rintro _ u101 a ⟨F102, A103, c104, A107, c108, A110, c111, rfl, hC, g109, g112⟩ hE
          refine ⟨.d, ?_⟩
          have hs := hC.sub
          replace hS := hS.called (X := [row qA.k 104 (.slice A81 t77.f4.length c82) t77.f4]) hC
          replace g0_4 := g0_4.mono hs
          replace g0_5 := g0_5.mono hs
          replace g0_6 := g0_6.mono hs
          replace g98 := g98.mono hs
          replace g100 := g100.mono hs
          replace g1_6 := g1_6.mono hs
          refine mny 3 hst hE (.r 4 3 .nil) (fun a hE => ?_)
          refine on1 7 hE (.al (t := 26) hS [.int .i64 0, .int .i64 0, .int .i64 0, .int .i64 0, .slice none 0 0, .slice none 0 0, .slice none 0 0]) ?_
          rintro _ u94 a ⟨b93, rfl, hb93, hS, hg⟩ hE
          refine ⟨.of hg, ?_⟩
          replace hS := hS.front 1 rfl
          replace hS := hS.front 4 rfl
          replace hS := hS.front 4 rfl
          replace hS := hS.front 4 rfl
          replace hS := hS.front 4 rfl
          exact hJb _ _ ⟨_, b93, A103, c104, A107, c108, A110, c111, F102, hE, .of, hS, g109, g112, g1_6, g0_4, g0_5, g0_6⟩
        ·
         refine pk1 7 hE (.al (t := 26) hS [.int .i64 0, .int .i64 0, .int .i64 0, .int .i64 0, .slice none 0 0, .slice none 0 0, .slice none 0 0]) ?_
         rintro _ u94 a ⟨b93, rfl, hb93, hS, hg⟩ hE
         refine ⟨.of hg, ?_⟩
         refine on1 1 hE (.cl en77 (qAo.calls k23 x0_ _ _ _ _ _ _ _ _ _ hS.own.sub g0_4 g0_5 g0_6 h78)) ?_
         rintro _ u79 a ⟨F80, A81, c82, A85, c86, A89, c90, rfl, hC⟩ hE
         refine ⟨.of hC.agr, ?_⟩
         have hs := hC.sub
         replace hS := hS.called (X := []) hC
         replace g0_4 := g0_4.mono hs
         replace g0_5 := g0_5.mono hs
         replace g0_6 := g0_6.mono hs
         replace g1_6 := g1_6.mono hs
         replace hS := hS.front 2 rfl
         replace hS := hS.front 2 rfl
         replace hS := hS.front 2 rfl
         replace hS := hS.front 6 rfl
         replace hS := hS.front 6 rfl
         replace hS := hS.front 6 rfl
         replace hS := hS.front 6 rfl
         exact hJ _ _ ⟨_, b93, A81, c82, A85, c86, A89, c90, F80, hE, .of, hS, g1_6, g0_4, g0_5, g0_6⟩
  refine pl0 ?_
  have hb4 := hS.blk_at (i := 1) rfl
  refine plc hE (.r 0 1 <| .b 1 0 hb4 <| .r 2 2 <| .nil) (fun a hE => ?_)
  rcases sp H with ⟨c15, H⟩ | ⟨c15, H⟩
  ·
   replace hE := hE.kt 17 c15
   refine plc hE (.r 4 10 .nil) (fun a hE => pld ?_)
   exact J24 _ (by omega) _ true _ _ hE .of hS H
  ·
   replace hE := hE.kf 17 c15
   refine plc hE (.r 4 1 <| .b 5 0 hb4 <| .r 6 3 <| .nil) (fun a hE => ?_)
   rcases sp H with ⟨c16, H⟩ | ⟨c16, H⟩
   ·
    replace hE := hE.kt 22 c16
    refine plc hE (.r 9 5 .nil) (fun a hE => pld ?_)
    exact J24 _ (by omega) _ true _ _ hE .of hS H
   ·
    replace hE := hE.kf 22 c16
    refine plc hE (.bn 9 0 7 hb4 .nil) (fun a hE => ?_)
    obtain ⟨t18, h19, H⟩ := bd H
    refine ple hE (.cl en76 (qBv.calls x1_ _ _ _ _ _ hS.own.sub g1_6 h19)) ?_
    rintro _ u17 a ⟨_, rfl, hC⟩ hE
    replace hS := hS.lent hC
    refine plc hE (.r 11 3 .nil) (fun a hE => pld ?_)
    exact J24 _ (by omega) _ (!t18) _ _ hE .of hS H
 ·
  replace hE := hE.kfn 8 c13
  refine ct hE (sq fun K73 hK73 => pl0 (plc hE (.r 0 1 .nil) (fun a hE => ple hE (.sto hS [.int .i64 0, .int .i64 0, .int .i64 0, .int .i64 0, .slice none 0 0, .slice none 0 0, .slice none 0 0]) ?_)))
  rintro _ u74 a ⟨rfl, hb6, hS, hz⟩ hE
  refine plc hE (.r 2 1 .nil) (fun a hE => pld (hK73 _ _ (wp_ret (qCC (qCB ?_)))))
  replace hS := hS.nilrow qC.k 49
  replace hS := hS.front 1 rfl
  replace hS := hS.tail
  replace hS := hS.front 1 rfl
  replace hS := hS.tail
  replace hS := hS.front 1 rfl
  replace hS := hS.tail
  obtain rfl := si H
  exact retN hE rfl (of_decide_eq_true rfl) (.cell (by kernel_rfl) (qCH [.int .i64 0, .int .i64 0, .int .i64 0, .int .i64 0, .slice none 0 0, .slice none 0 0, .slice none 0 0] ag26 sz26 hb6 rfl) (.tmp (by kernel_rfl) .nil)) ⟨_, rfl, _, _, _, _, _, _, _, rfl, hS, (Rd.nil _ _), (Rd.nil _ _)⟩
def qAx.f (x0_ : Int) (x1_ : Int) (x2_ : Int) : Option Bool := if x0_ ≥ x1_ then (some (decide (x0_ ≤ x2_))) else (some false)
def qAx.Post (W F : World) (r : Bool) (v : Value) (w' : World) : Prop := ∃ (F' : World), v = .bool r ∧ St W (mine W []) F w' F' []
theorem qAx.calls (x0_ : Int) (x1_ : Int) (x2_ : Int) (r : Bool) (W F : World) (hown : Sub F W) (H : qAx.f x0_ x1_ x2_ = some r) :
    Calls Tryz.prog 116 #[.int .i64 x0_, .int .i64 x1_, .int .i64 x2_] W fun e w' => ∃ v, e = .returned v ∧ qAx.Post W F r v w' := by
 have hS := St.start (Own.nil hown)
 unfold qAx.f at H
 refine enter (n := 15) rfl rfl rfl (Nat.le_of_ble_eq_true rfl) (fun a hE => ?_)
 refine sq fun K1 hK1 => pl0 (plc hE (.r 0 1 .nil) (fun a hE => pld (hK1 _ _ (sq fun K2 hK2 => pl0 (plc hE (.r 0 4 .nil) (fun a hE => ?_))))))
 rcases sp H with ⟨c3, H⟩ | ⟨c3, H⟩
 ·
  replace hE := hE.kt 10 c3
  refine plc hE (.r 4 5 .nil) (fun a hE => pld (hK2 _ _ (wp_ret ?_)))
  obtain rfl := si H
  exact rt1 hE ⟨_, rfl, _, rfl, hS⟩
 ·
  replace hE := hE.kf 10 c3
  refine plc hE (.r 4 5 .nil) (fun a hE => pld (hK2 _ _ (wp_ret ?_)))
  obtain rfl := si H
  exact rt1 hE ⟨_, rfl, _, rfl, hS⟩
def qBi.f (x0_ : qI) (xf0_ : Int) : Option Bool := some (x0_.f0 == xf0_)
def qBi.Post (W F : World) (r : Bool) (v : Value) (w' : World) : Prop := ∃ (F' : World), v = .bool r ∧ St W (mine W []) F w' F' []
theorem qBi.calls (x0_ : qI) (xf0_ : Int) (pf0_ : Nat) (r : Bool) (W F : World) (hown : Sub F W) (hpf0_ : F.heap[pf0_]? = some (.cells #[.int .i64 xf0_] 3 (0, 0))) (H : qBi.f x0_ xf0_ = some r) :
    Calls Tryz.prog 156 #[.agg #[.int .i64 x0_.f0, .int .i64 x0_.f1, .int .i64 x0_.f2, .int .i64 x0_.f3, .int .i64 x0_.f4], .pointer (some ⟨pf0_, 0, none⟩)] W fun e w' => ∃ v, e = .returned v ∧ qBi.Post W F r v w' := by
 have hS := St.start (Own.nil hown)
 unfold qBi.f at H
 refine enter (n := 8) rfl rfl rfl (Nat.le_of_ble_eq_true rfl) (fun a hE => ?_)
 refine sq fun K1 hK1 => pl0 (ple hE (.bx (t := 86) hS [.int .i64 x0_.f0, .int .i64 x0_.f1, .int .i64 x0_.f2, .int .i64 x0_.f3, .int .i64 x0_.f4]) ?_)
 rintro _ u3 a ⟨b2, rfl, hb2, hS, hg⟩ hE
 refine plc hE (.r 1 1 .nil) (fun a hE => pld (hK1 _ _ (sq fun K4 hK4 => pl0 (plc hE (.r 0 1 <| .b 1 0 hb2 <| .b 2 0 (hS.own.sub _ _ _ _ hpf0_) <| .r 3 2 <| .nil) (fun a hE => pld (hK4 _ _ (wp_ret ?_)))))))
 replace hS := hS.tail
 obtain rfl := si H
 exact rt1 hE ⟨_, rfl, _, rfl, hS⟩
def qb.l5 : Nat → List qI → Int → Int → Option Int
  | 0, _, _, _ => none
  | k + 1, x0_, x1c0_, x4 => if x4 < (x0_.length : Int) then (if 0 ≤ x4 ∧ x4 < (x0_.length : Int) then ((qBi.f (⟨(nth qI.z x0_ x4).f0, (nth qI.z x0_ x4).f1, (nth qI.z x0_ x4).f2, (nth qI.z x0_ x4).f3, (nth qI.z x0_ x4).f4⟩ : qI) x1c0_).bind fun t21 => (if t21 = true then (some x4) else (qb.l5 k x0_ x1c0_ (w64 (x4 + 1))))) else (none)) else (some (-1))
theorem qb.l5_s (k : Nat) (x0_ : List qI) (x1c0_ : Int) (x4 : Int) : qb.l5 (k + 1) x0_ x1c0_ x4 = (if x4 < (x0_.length : Int) then (if 0 ≤ x4 ∧ x4 < (x0_.length : Int) then ((qBi.f (⟨(nth qI.z x0_ x4).f0, (nth qI.z x0_ x4).f1, (nth qI.z x0_ x4).f2, (nth qI.z x0_ x4).f3, (nth qI.z x0_ x4).f4⟩ : qI) x1c0_).bind fun t21 => (if t21 = true then (some x4) else (qb.l5 k x0_ x1c0_ (w64 (x4 + 1))))) else (none)) else (some (-1))) := by kernel_rfl
def qb.f (k : Nat) (x0_ : List qI) (x1c0_ : Int) : Option Int := qb.l5 k x0_ x1c0_ 0
def qb.Post (W F : World) (r : Int) (v : Value) (w' : World) : Prop := ∃ (F' : World), v = .int .i64 r ∧ St W (mine W []) F w' F' []
theorem qb.calls (k : Nat) (x0_ : List qI) (x1c0_ : Int) (A0_0 : Option Addr) (c0_0 : Nat) (p1c0_ : Nat) (r : Int) (W F : World) (hown : Sub F W) (g0_0 : Rd qI.k F A0_0 c0_0 x0_) (hp1c0_ : F.heap[p1c0_]? = some (.cells #[.int .i64 x1c0_] 3 (0, 0))) (H : qb.f k x0_ x1c0_ = some r) :
    Calls Tryz.prog 190 #[.slice A0_0 x0_.length c0_0, .func (.func 156) #[] #[.pointer (some ⟨p1c0_, 0, none⟩)]] W fun e w' => ∃ v, e = .returned v ∧ qb.Post W F r v w' := by
 have hS := St.start (Own.nil hown)
 unfold qb.f at H
 refine enter (n := 19) rfl rfl rfl (Nat.le_of_ble_eq_true rfl) (fun a hE => ?_)
 refine sq fun K1 hK1 => pl0 (plc hE (.r 0 1 .nil) (fun a hE => pld (hK1 _ _ (sq fun K2 hK2 => sq fun K3 hK3 => pl0 (plc hE (.r 0 3 .nil) (fun a hE => pld (hK3 _ _ (wp_block ?_))))))))
 refine wp_loop_ghost (fun kq6 a w' => ∃ (G : Nat → Value) (x4 : Int), kq6 ≤ k ∧ Env 19 G a ∧ At G [(0, .slice A0_0 x0_.length c0_0), (1, .func (.func 156) #[] #[.pointer (some ⟨p1c0_, 0, none⟩)]), (7, .int .i64 (x0_.length : Int)), (8, .int .i64 x4)] ∧ St W (mine W []) F w' F [] ∧  qb.l5 kq6 x0_ x1c0_ x4 = some r) k ⟨_, 0, Nat.le_refl _, hE, .of, hS, H⟩ ?_
 rintro kq6 a u8 ⟨G, x4, hkq, hE, hA, hS, H⟩
 cases kq6 with
 | zero => cases (show none = some r from H)
 | succ k7 =>
  rw [qb.l5_s] at H
  obtain ⟨J, hE⟩ := hE.at hA
  refine sq fun K9 hK9 => pl0 (plc hE (.r 0 1 .nil) (fun a hE => pld (hK9 _ _ (sq fun K10 hK10 => ?_))))
  rcases sp H with ⟨c11, H⟩ | ⟨c11, H⟩
  ·
   replace hE := hE.kt 9 c11
   refine ct hE (wp_skip (hK10 _ _ (sq fun K12 hK12 => wp_block (sq fun K13 hK13 => pl0 (plc hE (.r 0 2 .nil) (fun a hE => pld (hK13 _ _ (sq fun K14 hK14 => pl0 ?_))))))))
   obtain ⟨c15, H⟩ := gd H
   have hE_ := hE
   obtain ⟨ad16, rfl⟩ := g0_0.addr c15.1 c15.2
   replace hE := hE_
   obtain ⟨cs18, rfl, hc19⟩ := g0_0.el qI.z x4 c15.1 c15.2
   refine plc hE (.r 0 3 <| .x 3 c15 <| .cs 4 (hS.fcs hc19) <| .nil) (fun a hE => ?_)
   obtain ⟨t21, h22, H⟩ := bd H
   refine ple hE (.cl en156 (qBi.calls (⟨(nth qI.z x0_ x4).f0, (nth qI.z x0_ x4).f1, (nth qI.z x0_ x4).f2, (nth qI.z x0_ x4).f3, (nth qI.z x0_ x4).f4⟩ : qI) x1c0_ _ _ _ _ hS.own.sub hp1c0_ h22)) ?_
   rintro _ u20 a ⟨_, rfl, hC⟩ hE
   replace hS := hS.lent hC
   refine pld (hK14 _ _ ?_)
   rcases sp H with ⟨c23, H⟩ | ⟨c23, H⟩
   ·
    replace hE := hE.bt 16 c23
    refine ct hE (sq fun K24 hK24 => pl0 (plc hE (.r 0 2 .nil) (fun a hE => pld (hK24 _ _ (wp_ret (qCC (qCB (qCB (qCC (qCB ?_))))))))))
    obtain rfl := si H
    exact rt1 hE ⟨_, rfl, _, rfl, hS⟩
   ·
    replace hE := hE.bf 16 c23
    refine cf hE (wp_skip ?_)
    refine qCD ?_
    refine hK12 _ _ (pl0 (plc hE (.r 0 2 .nil) (fun a hE => pld ?_)))
    exact qCE ⟨k7, by omega, _, (w64 (x4 + 1)), by omega, hE, .of, hS, H⟩
  ·
   replace hE := hE.kf 9 c11
   refine cf hE ?_
   refine wp_exit ?_
   refine hK2 _ _ (sq fun K25 hK25 => pl0 (plc hE (.r 0 1 .nil) (fun a hE => pld (hK25 _ _ (wp_ret ?_)))))
   obtain rfl := si H
   exact rt1 hE ⟨_, rfl, _, rfl, hS⟩
def qAC.f (k : Nat) (x0_ : List qI) (x1c0_ : Int) : Option Bool := (qb.f k x0_ x1c0_).bind fun t4 => (some (decide (t4 ≥ 0)))
def qAC.Post (W F : World) (r : Bool) (v : Value) (w' : World) : Prop := ∃ (F' : World), v = .bool r ∧ St W (mine W []) F w' F' []
theorem qAC.calls (k : Nat) (x0_ : List qI) (x1c0_ : Int) (A0_0 : Option Addr) (c0_0 : Nat) (p1c0_ : Nat) (r : Bool) (W F : World) (hown : Sub F W) (g0_0 : Rd qI.k F A0_0 c0_0 x0_) (hp1c0_ : F.heap[p1c0_]? = some (.cells #[.int .i64 x1c0_] 3 (0, 0))) (H : qAC.f k x0_ x1c0_ = some r) :
    Calls Tryz.prog 155 #[.slice A0_0 x0_.length c0_0, .func (.func 156) #[] #[.pointer (some ⟨p1c0_, 0, none⟩)]] W fun e w' => ∃ v, e = .returned v ∧ qAC.Post W F r v w' := by
 have hS := St.start (Own.nil hown)
 unfold qAC.f at H
 refine enter (n := 9) rfl rfl rfl (Nat.le_of_ble_eq_true rfl) (fun a hE => ?_)
 refine sq fun K1 hK1 => pl0 (plc hE (.r 0 1 .nil) (fun a hE => pld (hK1 _ _ (sq fun K2 hK2 => pl0 (plc hE (.r 0 2 .nil) (fun a hE => ?_))))))
 obtain ⟨t4, h5, H⟩ := bd H
 refine ple hE (.cl en190 (qb.calls k x0_ x1c0_ _ _ _ _ _ _ hS.own.sub g0_0 hp1c0_ h5)) ?_
 rintro _ u3 a ⟨_, rfl, hC⟩ hE
 replace hS := hS.lent hC
 refine plc hE (.r 3 2 .nil) (fun a hE => pld (hK2 _ _ (wp_ret ?_)))
 obtain rfl := si H
 exact rt1 hE ⟨_, rfl, _, rfl, hS⟩
def qBm.f (k : Nat) (x0_ : List qI) (x1_ : Int) : Option Bool := (qAC.f k x0_ x1_).bind fun t6 => (some t6)
def qBm.Post (W F : World) (r : Bool) (v : Value) (w' : World) : Prop := ∃ (F' : World), v = .bool r ∧ St W (mine W []) F w' F' []
theorem qBm.calls (k : Nat) (x0_ : List qI) (x1_ : Int) (A0_0 : Option Addr) (c0_0 : Nat) (r : Bool) (W F : World) (hown : Sub F W) (g0_0 : Rd qI.k F A0_0 c0_0 x0_) (H : qBm.f k x0_ x1_ = some r) :
    Calls Tryz.prog 105 #[.slice A0_0 x0_.length c0_0, .int .i64 x1_] W fun e w' => ∃ v, e = .returned v ∧ qBm.Post W F r v w' := by
 have hS := St.start (Own.nil hown)
 unfold qBm.f at H
 refine enter (n := 8) rfl rfl rfl (Nat.le_of_ble_eq_true rfl) (fun a hE => ?_)
 refine sq fun K1 hK1 => pl0 (ple hE (.bx (t := 3) hS [.int .i64 x1_]) ?_)
 rintro _ u3 a ⟨b2, rfl, hb2, hS, hg⟩ hE
 refine plc hE (.r 1 1 .nil) (fun a hE => pld (hK1 _ _ (sq fun K4 hK4 => pl0 (plc hE (.r 0 2 .nil) (fun a hE => ?_)))))
 obtain ⟨t6, h7, H⟩ := bd H
 refine ple hE (.cl en155 (qAC.calls k x0_ x1_ _ _ _ _ _ _ (Sub.refl _) (g0_0.mono hS.own.sub) (hS.blk_at (i := 0) rfl) h7)) ?_
 rintro _ u5 a ⟨_, rfl, hC⟩ hE
 replace hS := hS.lent hC
 refine plc hE (.r 3 1 .nil) (fun a hE => pld (hK4 _ _ (wp_ret ?_)))
 replace hS := hS.tail
 obtain rfl := si H
 exact rt1 hE ⟨_, rfl, _, rfl, hS⟩
mutual
def qAH.l9 : Nat → List qI → Int → Option Int
  | 0, _, _ => none
  | k + 1, x0_, x8 => if x8 < (x0_.length : Int) then (if 0 ≤ x8 ∧ x8 < (x0_.length : Int) then ((qAx.f ((nth qI.z x0_ x8).f0) 1 999).bind fun t29 => (if t29 = true then (if 0 ≤ x8 ∧ x8 ≤ (x0_.length : Int) then ((qBm.f k (cutl x0_ 0 x8) ((nth qI.z x0_ x8).f0)).bind fun t38 => (qAH.j41 k x0_ x8 t38)) else (none)) else (qAH.j41 k x0_ x8 true))) else (none)) else (some 0)
def qAH.j41 : Nat → List qI → Int → Bool → Option Int
  | 0, _, _, _ => none
  | k + 1, x0_, x8, y40 => if y40 = true then (some 1) else ((qAx.f ((nth qI.z x0_ x8).f1) 0 2147483647).bind fun t50 => (if t50 = true then ((qAx.f ((nth qI.z x0_ x8).f2) 0 2147483647).bind fun t54 => (if t54 = true then ((qAx.f ((nth qI.z x0_ x8).f3) 0 2147483647).bind fun t58 => (if t58 = true then ((qAx.f ((nth qI.z x0_ x8).f4) 0 ((nth qI.z x0_ x8).f3)).bind fun t62 => (qAH.j65 k x0_ x8 (!t62))) else (qAH.j65 k x0_ x8 true))) else (qAH.j65 k x0_ x8 true))) else (qAH.j65 k x0_ x8 true)))
def qAH.j65 : Nat → List qI → Int → Bool → Option Int
  | 0, _, _, _ => none
  | k + 1, x0_, x8, y64 => if y64 = true then (some 1) else (qAH.l9 k x0_ (w64 (x8 + 1)))
end
theorem qAH.l9_s (k : Nat) (x0_ : List qI) (x8 : Int) : qAH.l9 (k + 1) x0_ x8 = (if x8 < (x0_.length : Int) then (if 0 ≤ x8 ∧ x8 < (x0_.length : Int) then ((qAx.f ((nth qI.z x0_ x8).f0) 1 999).bind fun t29 => (if t29 = true then (if 0 ≤ x8 ∧ x8 ≤ (x0_.length : Int) then ((qBm.f k (cutl x0_ 0 x8) ((nth qI.z x0_ x8).f0)).bind fun t38 => (qAH.j41 k x0_ x8 t38)) else (none)) else (qAH.j41 k x0_ x8 true))) else (none)) else (some 0)) := by kernel_rfl
theorem qAH.j41_s (k : Nat) (x0_ : List qI) (x8 : Int) (y40 : Bool) : qAH.j41 (k + 1) x0_ x8 y40 = (if y40 = true then (some 1) else ((qAx.f ((nth qI.z x0_ x8).f1) 0 2147483647).bind fun t50 => (if t50 = true then ((qAx.f ((nth qI.z x0_ x8).f2) 0 2147483647).bind fun t54 => (if t54 = true then ((qAx.f ((nth qI.z x0_ x8).f3) 0 2147483647).bind fun t58 => (if t58 = true then ((qAx.f ((nth qI.z x0_ x8).f4) 0 ((nth qI.z x0_ x8).f3)).bind fun t62 => (qAH.j65 k x0_ x8 (!t62))) else (qAH.j65 k x0_ x8 true))) else (qAH.j65 k x0_ x8 true))) else (qAH.j65 k x0_ x8 true)))) := by kernel_rfl
theorem qAH.j65_s (k : Nat) (x0_ : List qI) (x8 : Int) (y64 : Bool) : qAH.j65 (k + 1) x0_ x8 y64 = (if y64 = true then (some 1) else (qAH.l9 k x0_ (w64 (x8 + 1)))) := by kernel_rfl
def qAH.f (k : Nat) (x0_ : List qI) : Option Int := if (x0_.length : Int) > 12 then (some 1) else (qAH.l9 k x0_ 0)
def qAH.Post (W F : World) (r : Int) (v : Value) (w' : World) : Prop := ∃ (F' : World), v = .int .i64 r ∧ St W (mine W []) F w' F' []
theorem qAH.calls (k : Nat) (x0_ : List qI) (A0_0 : Option Addr) (c0_0 : Nat) (r : Int) (W F : World) (hown : Sub F W) (g0_0 : Rd qI.k F A0_0 c0_0 x0_) (H : qAH.f k x0_ = some r) :
    Calls Tryz.prog 58 #[.slice A0_0 x0_.length c0_0] W fun e w' => ∃ v, e = .returned v ∧ qAH.Post W F r v w' := by
 have hS := St.start (Own.nil hown)
 unfold qAH.f at H
 refine enter (n := 52) rfl rfl rfl (Nat.le_of_ble_eq_true rfl) (fun a hE => ?_)
 refine sq fun K1 hK1 => pl0 (plc hE (.r 0 1 .nil) (fun a hE => pld (hK1 _ _ (sq fun K2 hK2 => sq fun K3 hK3 => pl0 (plc hE (.r 0 3 .nil) (fun a hE => pld (hK3 _ _ ?_)))))))
 rcases sp H with ⟨c4, H⟩ | ⟨c4, H⟩
 ·
  replace hE := hE.kt 7 c4
  refine ct hE (sq fun K5 hK5 => pl0 (plc hE (.r 0 1 .nil) (fun a hE => pld (hK5 _ _ (wp_ret (qCB ?_))))))
  obtain rfl := si H
  exact rt1 hE ⟨_, rfl, _, rfl, hS⟩
 ·
  replace hE := hE.kf 7 c4
  refine cf hE (wp_skip (hK2 _ _ (sq fun K6 hK6 => sq fun K7 hK7 => pl0 (plc hE (.r 0 3 .nil) (fun a hE => pld (hK7 _ _ (wp_block ?_)))))))
  refine wp_loop_ghost (fun kq10 a w' => ∃ (G : Nat → Value) (x8 : Int), kq10 ≤ k ∧ Env 52 G a ∧ At G [(0, .slice A0_0 x0_.length c0_0), (8, .slice A0_0 x0_.length c0_0), (9, .int .i64 (x0_.length : Int)), (10, .int .i64 x8)] ∧ St W (mine W []) F w' F [] ∧  qAH.l9 kq10 x0_ x8 = some r) k ⟨_, 0, Nat.le_refl _, hE, .of, hS, H⟩ ?_
  rintro kq10 a u12 ⟨G, x8, hkq, hE, hA, hS, H⟩
  cases kq10 with
  | zero => cases (show none = some r from H)
  | succ k11 =>
   rw [qAH.l9_s] at H
   obtain ⟨J, hE⟩ := hE.at hA
   refine sq fun K13 hK13 => pl0 (plc hE (.r 0 1 .nil) (fun a hE => pld (hK13 _ _ (sq fun K14 hK14 => ?_))))
   rcases sp H with ⟨c15, H⟩ | ⟨c15, H⟩
   ·
    replace hE := hE.kt 11 c15
    refine ct hE (wp_skip (hK14 _ _ (sq fun K16 hK16 => wp_block (sq fun K17 hK17 => pl0 ?_))))
    obtain ⟨c18, H⟩ := gd H
    have hE_ := hE
    obtain ⟨ad19, rfl⟩ := g0_0.addr c18.1 c18.2
    replace hE := hE_
    obtain ⟨cs21, rfl, hc22⟩ := g0_0.el qI.z x8 c18.1 c18.2
    refine plc hE (.r 0 1 <| .x 1 c18 <| .cs 2 (hS.fcs hc22) <| .nil) (fun a hE => ple hE (.al (t := 86) hS [.int .i64 0, .int .i64 0, .int .i64 0, .int .i64 0, .int .i64 0]) ?_)
    rintro _ u24 a ⟨b23, rfl, hb23, hS, hg⟩ hE
    refine plc hE (.r 4 1 .nil) (fun a hE => ple hE (.sto hS [.int .i64 ((nth qI.z x0_ x8).f0), .int .i64 ((nth qI.z x0_ x8).f1), .int .i64 ((nth qI.z x0_ x8).f2), .int .i64 ((nth qI.z x0_ x8).f3), .int .i64 ((nth qI.z x0_ x8).f4)]) ?_)
    rintro _ u25 a ⟨rfl, hb23, hS, hz⟩ hE
    refine pld (hK17 _ _ (sq fun K26 hK26 => sq fun K27 hK27 => ?_))
    have J44 : ∀ kq42, kq42 ≤ k11 → ∀ (G : Nat → Value) (y40 : Bool) (a : Act) (w' : World), Env 52 G a → At G [(0, .slice (some ad19) x0_.length c0_0), (4, .pointer (some ⟨b23, 0, none⟩)), (8, .slice (some ad19) x0_.length c0_0), (9, .int .i64 (x0_.length : Int)), (10, .int .i64 x8), (26, .bool y40)] → St W (mine W []) F w' F [box b23 #[.int .i64 ((nth qI.z x0_ x8).f0), .int .i64 ((nth qI.z x0_ x8).f1), .int .i64 ((nth qI.z x0_ x8).f2), .int .i64 ((nth qI.z x0_ x8).f3), .int .i64 ((nth qI.z x0_ x8).f4)] 86] → qAH.j41 kq42 x0_ x8 y40 = some r → K27 a w' := by
     intro kq42 hkq G y40 a u45 hE hA hS H
     cases kq42 with
     | zero => cases (show none = some r from H)
     | succ k43 =>
      rw [qAH.j41_s] at H
      obtain ⟨J, hE⟩ := hE.at hA
      refine hK27 _ _ ?_
      rcases sp H with ⟨c46, H⟩ | ⟨c46, H⟩
      ·
       replace hE := hE.bt 26 c46
       refine ct hE (sq fun K47 hK47 => pl0 (plc hE (.r 0 1 .nil) (fun a hE => pld (hK47 _ _ (wp_ret (qCB (qCC (qCB (qCB (qCC (qCB ?_)))))))))))
       replace hS := hS.tail
       obtain rfl := si H
       exact rt1 hE ⟨_, rfl, _, rfl, hS⟩
      ·
       replace hE := hE.bf 26 c46
       refine cf hE (wp_skip (hK26 _ _ (sq fun K48 hK48 => ?_)))
       have J68 : ∀ kq66, kq66 ≤ k43 → ∀ (G : Nat → Value) (y64 : Bool) (a : Act) (w' : World), Env 52 G a → At G [(0, .slice (some ad19) x0_.length c0_0), (8, .slice (some ad19) x0_.length c0_0), (9, .int .i64 (x0_.length : Int)), (10, .int .i64 x8), (50, .bool y64)] → St W (mine W []) F w' F [box b23 #[.int .i64 ((nth qI.z x0_ x8).f0), .int .i64 ((nth qI.z x0_ x8).f1), .int .i64 ((nth qI.z x0_ x8).f2), .int .i64 ((nth qI.z x0_ x8).f3), .int .i64 ((nth qI.z x0_ x8).f4)] 86] → qAH.j65 kq66 x0_ x8 y64 = some r → K48 a w' := by
        intro kq66 hkq G y64 a u69 hE hA hS H
        cases kq66 with
        | zero => cases (show none = some r from H)
        | succ k67 =>
         rw [qAH.j65_s] at H
         obtain ⟨J, hE⟩ := hE.at hA
         refine hK48 _ _ ?_
         rcases sp H with ⟨c70, H⟩ | ⟨c70, H⟩
         ·
          replace hE := hE.bt 50 c70
          refine ct hE (sq fun K71 hK71 => pl0 (plc hE (.r 0 1 .nil) (fun a hE => pld (hK71 _ _ (wp_ret (qCC (qCB (qCB (qCC (qCB ?_))))))))))
          replace hS := hS.tail
          obtain rfl := si H
          exact rt1 hE ⟨_, rfl, _, rfl, hS⟩
         ·
          replace hE := hE.bf 50 c70
          refine cf hE (wp_skip ?_)
          refine qCD ?_
          refine hK16 _ _ (pl0 (plc hE (.r 0 2 .nil) (fun a hE => pld ?_)))
          replace hS := hS.tail
          exact qCE ⟨k67, by omega, _, (w64 (x8 + 1)), by omega, hE, .of, hS, H⟩
       refine pl0 ?_
       have hb23 := hS.blk_at (i := 0) rfl
       refine plc hE (.r 0 1 <| .b 1 1 hb23 <| .nil) (fun a hE => ?_)
       obtain ⟨t50, h51, H⟩ := bd H
       refine ple hE (.cl en116 (qAx.calls ((nth qI.z x0_ x8).f1) 0 2147483647 _ _ _ hS.own.sub h51)) ?_
       rintro _ u49 a ⟨_, rfl, hC⟩ hE
       replace hS := hS.lent hC
       refine plc hE (.r 3 2 .nil) (fun a hE => ?_)
       rcases sp H with ⟨c52, H⟩ | ⟨c52, H⟩
       ·
        replace hE := hE.btn 31 c52
        have hb23 := hS.blk_at (i := 0) rfl
        refine plc hE (.r 5 1 <| .b 6 2 hb23 <| .nil) (fun a hE => ?_)
        obtain ⟨t54, h55, H⟩ := bd H
        refine ple hE (.cl en116 (qAx.calls ((nth qI.z x0_ x8).f2) 0 2147483647 _ _ _ hS.own.sub h55)) ?_
        rintro _ u53 a ⟨_, rfl, hC⟩ hE
        replace hS := hS.lent hC
        refine plc hE (.r 8 3 .nil) (fun a hE => ?_)
        rcases sp H with ⟨c56, H⟩ | ⟨c56, H⟩
        ·
         replace hE := hE.btn 37 c56
         have hb23 := hS.blk_at (i := 0) rfl
         refine plc hE (.r 11 1 <| .b 12 3 hb23 <| .nil) (fun a hE => ?_)
         obtain ⟨t58, h59, H⟩ := bd H
         refine ple hE (.cl en116 (qAx.calls ((nth qI.z x0_ x8).f3) 0 2147483647 _ _ _ hS.own.sub h59)) ?_
         rintro _ u57 a ⟨_, rfl, hC⟩ hE
         replace hS := hS.lent hC
         refine plc hE (.r 14 3 .nil) (fun a hE => ?_)
         rcases sp H with ⟨c60, H⟩ | ⟨c60, H⟩
         ·
          replace hE := hE.btn 43 c60
          have hb23 := hS.blk_at (i := 0) rfl
          refine plc hE (.r 17 1 <| .b 18 4 hb23 <| .r 19 1 <| .b 20 3 hb23 <| .nil) (fun a hE => ?_)
          obtain ⟨t62, h63, H⟩ := bd H
          refine ple hE (.cl en116 (qAx.calls ((nth qI.z x0_ x8).f4) 0 ((nth qI.z x0_ x8).f3) _ _ _ hS.own.sub h63)) ?_
          rintro _ u61 a ⟨_, rfl, hC⟩ hE
          replace hS := hS.lent hC
          refine plc hE (.r 22 2 .nil) (fun a hE => pld ?_)
          exact J68 _ (by omega) _ (!t62) _ _ hE .of hS H
         ·
          replace hE := hE.bfn 43 c60
          refine plc hE (.r 17 7 .nil) (fun a hE => pld ?_)
          exact J68 _ (by omega) _ true _ _ hE .of hS H
        ·
         replace hE := hE.bfn 37 c56
         refine plc hE (.r 11 13 .nil) (fun a hE => pld ?_)
         exact J68 _ (by omega) _ true _ _ hE .of hS H
       ·
        replace hE := hE.bfn 31 c52
        refine plc hE (.r 5 19 .nil) (fun a hE => pld ?_)
        exact J68 _ (by omega) _ true _ _ hE .of hS H
    refine drawn 12 ⟨[], [], fun q => False⟩ mixed rfl (by kernel_rfl) (fun hst => ?_)
    replace hS := hS.drew
    have hb23 := hS.blk_at (i := 0) rfl
    refine mny 10 hst hE (.r 0 1 <| .b 1 0 hb23 <| .nil) (fun a hE => ?_)
    obtain ⟨t29, h30, H⟩ := bd H
    refine on1 2 hE (.cl en116 (qAx.calls ((nth qI.z x0_ x8).f0) 1 999 _ _ _ hS.own.sub h30)) ?_
    rintro _ u28 a ⟨_, rfl, hC⟩ hE
    refine ⟨.of hC.agr, ?_⟩
    replace hS := hS.lent hC
    refine mny 7 hst hE (.r 3 2 .nil) (fun a hE => ?_)
    rcases sp H with ⟨c31, H⟩ | ⟨c31, H⟩
    ·
     replace hE := hE.btn 19 c31
     obtain ⟨c32, H⟩ := gd H
     obtain ⟨A33, c34, g35, hv36⟩ := qEJ (P := Tryz.prog) g0_0 ⟨Int.le_refl _, c32.1, c32.2⟩ sz86
     have hb23 := hS.blk_at (i := 0) rfl
     refine mny 2 hst hE (.r 5 2 <| .y 7 (hv36 (by kernel_rfl)) <| .r 8 1 <| .b 9 0 hb23 <| .nil) (fun a hE => ?_)
     obtain ⟨t38, h39, H⟩ := bd H
     refine on1 10 hE (.cl en105 (qBm.calls k11 (cutl x0_ 0 x8) ((nth qI.z x0_ x8).f0) _ _ _ _ _ hS.own.sub g35 h39)) ?_
     rintro _ u37 a ⟨_, rfl, hC⟩ hE
     refine ⟨.of hC.agr, ?_⟩
     replace hS := hS.lent hC
     refine mny 0 hst hE (.r 11 1 .nil) (fun a hE => ?_)
     refine dn ?_
     exact J44 _ (by omega) _ t38 _ _ hE .of hS H
    ·
     replace hE := hE.bfn 19 c31
     refine mny 0 hst hE (.r 5 7 .nil) (fun a hE => ?_)
     refine dn ?_
     exact J44 _ (by omega) _ true _ _ hE .of hS H
   ·
    replace hE := hE.kf 11 c15
    refine cf hE ?_
    refine wp_exit ?_
    refine hK6 _ _ (sq fun K72 hK72 => pl0 (plc hE (.r 0 1 .nil) (fun a hE => pld (hK72 _ _ (wp_ret ?_)))))
    obtain rfl := si H
    exact rt1 hE ⟨_, rfl, _, rfl, hS⟩
def qBI.f (k : Nat) (x0_ : qJ) (x1_ : Int) (x2_ : List qI) : Option Bool := (qx.f k x0_).bind fun t6 => (if t6 = 0 then ((qAx.f x1_ 0 (w64 (x0_.f3 - 1))).bind fun t10 => (if t10 = true then ((qAH.f k x2_).bind fun t14 => (some (t14 == 0))) else (some false))) else (some false))
def qBI.Post (W F : World) (r : Bool) (v : Value) (w' : World) : Prop := ∃ (F' : World), v = .bool r ∧ St W (mine W []) F w' F' []
theorem qBI.calls (k : Nat) (x0_ : qJ) (x1_ : Int) (x2_ : List qI) (A0_4 : Option Addr) (c0_4 : Nat) (A0_5 : Option Addr) (c0_5 : Nat) (A0_6 : Option Addr) (c0_6 : Nat) (A2_0 : Option Addr) (c2_0 : Nat) (r : Bool) (W F : World) (hown : Sub F W) (g0_4 : Rd qA.k F A0_4 c0_4 x0_.f4) (g0_5 : Rd qK.k F A0_5 c0_5 x0_.f5) (g0_6 : Rd qC.k F A0_6 c0_6 x0_.f6) (g2_0 : Rd qI.k F A2_0 c2_0 x2_) (H : qBI.f k x0_ x1_ x2_ = some r) :
    Calls Tryz.prog 103 #[.agg #[.int .i64 x0_.f0, .int .i64 x0_.f1, .int .i64 x0_.f2, .int .i64 x0_.f3, .slice A0_4 x0_.f4.length c0_4, .slice A0_5 x0_.f5.length c0_5, .slice A0_6 x0_.f6.length c0_6], .int .i64 x1_, .slice A2_0 x2_.length c2_0] W fun e w' => ∃ v, e = .returned v ∧ qBI.Post W F r v w' := by
 have hS := St.start (Own.nil hown)
 unfold qBI.f at H
 refine enter (n := 22) rfl rfl rfl (Nat.le_of_ble_eq_true rfl) (fun a hE => ?_)
 refine sq fun K1 hK1 => pl0 (ple hE (.bx (t := 26) hS [.int .i64 x0_.f0, .int .i64 x0_.f1, .int .i64 x0_.f2, .int .i64 x0_.f3, .slice A0_4 x0_.f4.length c0_4, .slice A0_5 x0_.f5.length c0_5, .slice A0_6 x0_.f6.length c0_6]) ?_)
 rintro _ u3 a ⟨b2, rfl, hb2, hS, hg⟩ hE
 refine plc hE (.r 1 1 .nil) (fun a hE => pld (hK1 _ _ (sq fun K4 hK4 => pl0 (plc hE (.bn 0 0 7 hb2 .nil) (fun a hE => ?_)))))
 obtain ⟨t6, h7, H⟩ := bd H
 refine ple hE (.cl en32 (qx.calls k x0_ _ _ _ _ _ _ _ _ _ hS.own.sub g0_4 g0_5 g0_6 h7)) ?_
 rintro _ u5 a ⟨_, rfl, hC⟩ hE
 replace hS := hS.lent hC
 refine plc hE (.r 2 2 .nil) (fun a hE => ?_)
 rcases sp H with ⟨c8, H⟩ | ⟨c8, H⟩
 ·
  replace hE := hE.kt 10 c8
  have hb2 := hS.blk_at (i := 0) rfl
  refine plc hE (.r 4 2 <| .b 6 3 hb2 <| .r 7 1 <| .nil) (fun a hE => ?_)
  obtain ⟨t10, h11, H⟩ := bd H
  refine ple hE (.cl en116 (qAx.calls x1_ 0 (w64 (x0_.f3 - 1)) _ _ _ hS.own.sub h11)) ?_
  rintro _ u9 a ⟨_, rfl, hC⟩ hE
  replace hS := hS.lent hC
  refine plc hE (.r 9 2 .nil) (fun a hE => ?_)
  rcases sp H with ⟨c12, H⟩ | ⟨c12, H⟩
  ·
   replace hE := hE.bt 17 c12
   refine plc hE (.r 11 1 .nil) (fun a hE => ?_)
   obtain ⟨t14, h15, H⟩ := bd H
   refine ple hE (.cl en58 (qAH.calls k x2_ _ _ _ _ _ hS.own.sub g2_0 h15)) ?_
   rintro _ u13 a ⟨_, rfl, hC⟩ hE
   replace hS := hS.lent hC
   refine plc hE (.r 13 3 .nil) (fun a hE => pld (hK4 _ _ (wp_ret ?_)))
   replace hS := hS.tail
   obtain rfl := si H
   exact rt1 hE ⟨_, rfl, _, rfl, hS⟩
  ·
   replace hE := hE.bf 17 c12
   refine plc hE (.r 11 5 .nil) (fun a hE => pld (hK4 _ _ (wp_ret ?_)))
   replace hS := hS.tail
   obtain rfl := si H
   exact rt1 hE ⟨_, rfl, _, rfl, hS⟩
 ·
  replace hE := hE.kf 10 c8
  refine plc hE (.r 4 12 .nil) (fun a hE => pld (hK4 _ _ (wp_ret ?_)))
  replace hS := hS.tail
  obtain rfl := si H
  exact rt1 hE ⟨_, rfl, _, rfl, hS⟩
def qBb.j14 : Nat → qJ → Int → Bool → Option (List Int)
  | 0, _, _, _ => none
  | k + 1, x0_, x1_, y13 => if y13 = true then (some []) else ((qBg.f k x0_ x1_).bind fun t24 => (some t24))
theorem qBb.j14_s (k : Nat) (x0_ : qJ) (x1_ : Int) (y13 : Bool) : qBb.j14 (k + 1) x0_ x1_ y13 = (if y13 = true then (some []) else ((qBg.f k x0_ x1_).bind fun t24 => (some t24))) := by kernel_rfl
def qBb.f (k : Nat) (x0_ : qJ) (x1_ : Int) : Option (List Int) := (qx.f k x0_).bind fun t7 => (if t7 = 0 then ((qAp.f x1_ 0 (w64 (x0_.f3 - 1))).bind fun t11 => (qBb.j14 k x0_ x1_ (!t11))) else (qBb.j14 k x0_ x1_ true))
def qBb.Post (W F : World) (r : List Int) (v : Value) (w' : World) : Prop := ∃ (F' : World) (RA0_0 : Option Addr) (rc0_0 : Nat), v = .slice RA0_0 r.length rc0_0 ∧ St W (mine W []) F w' F' [row (Kn.int .i64) 3 (.slice RA0_0 r.length rc0_0) r]
theorem qBb.calls (k : Nat) (x0_ : qJ) (x1_ : Int) (A0_4 : Option Addr) (c0_4 : Nat) (A0_5 : Option Addr) (c0_5 : Nat) (A0_6 : Option Addr) (c0_6 : Nat) (r : List Int) (W F : World) (hown : Sub F W) (g0_4 : Rd qA.k F A0_4 c0_4 x0_.f4) (g0_5 : Rd qK.k F A0_5 c0_5 x0_.f5) (g0_6 : Rd qC.k F A0_6 c0_6 x0_.f6) (H : qBb.f k x0_ x1_ = some r) :
    Calls Tryz.prog 22 #[.agg #[.int .i64 x0_.f0, .int .i64 x0_.f1, .int .i64 x0_.f2, .int .i64 x0_.f3, .slice A0_4 x0_.f4.length c0_4, .slice A0_5 x0_.f5.length c0_5, .slice A0_6 x0_.f6.length c0_6], .int .i64 x1_] W fun e w' => ∃ v, e = .returned v ∧ qBb.Post W F r v w' := by
 have hS := St.start (Own.nil hown)
 unfold qBb.f at H
 refine enter (n := 19) rfl rfl rfl (Nat.le_of_ble_eq_true rfl) (fun a hE => ?_)
 refine sq fun K1 hK1 => pl0 (ple hE (.bx (t := 26) hS [.int .i64 x0_.f0, .int .i64 x0_.f1, .int .i64 x0_.f2, .int .i64 x0_.f3, .slice A0_4 x0_.f4.length c0_4, .slice A0_5 x0_.f5.length c0_5, .slice A0_6 x0_.f6.length c0_6]) ?_)
 rintro _ u3 a ⟨b2, rfl, hb2, hS, hg⟩ hE
 refine plc hE (.r 1 1 .nil) (fun a hE => pld (hK1 _ _ (sq fun K4 hK4 => sq fun K5 hK5 => ?_)))
 have J17 : ∀ kq15, kq15 ≤ k → ∀ (G : Nat → Value) (y13 : Bool) (a : Act) (w' : World), Env 19 G a → At G [(1, .int .i64 x1_), (2, .pointer (some ⟨b2, 0, none⟩)), (15, .bool y13)] → St W (mine W []) F w' F [box b2 #[.int .i64 x0_.f0, .int .i64 x0_.f1, .int .i64 x0_.f2, .int .i64 x0_.f3, .slice A0_4 x0_.f4.length c0_4, .slice A0_5 x0_.f5.length c0_5, .slice A0_6 x0_.f6.length c0_6] 26] → qBb.j14 kq15 x0_ x1_ y13 = some r → K5 a w' := by
  intro kq15 hkq G y13 a u18 hE hA hS H
  cases kq15 with
  | zero => cases (show none = some r from H)
  | succ k16 =>
   rw [qBb.j14_s] at H
   obtain ⟨J, hE⟩ := hE.at hA
   refine hK5 _ _ ?_
   rcases sp H with ⟨c19, H⟩ | ⟨c19, H⟩
   ·
    replace hE := hE.bt 15 c19
    refine ct hE (sq fun K20 hK20 => pl0 (plc hE (.r 0 1 .nil) (fun a hE => pld (hK20 _ _ (wp_ret (qCB ?_))))))
    replace hS := hS.nilrow (Kn.int .i64) 3
    replace hS := hS.front 1 rfl
    replace hS := hS.tail
    obtain rfl := si H
    exact rt1 hE ⟨_, rfl, _, _, _, rfl, hS⟩
   ·
    replace hE := hE.bf 15 c19
    refine cf hE (wp_skip (hK4 _ _ (sq fun K22 hK22 => pl0 ?_)))
    have hb2 := hS.blk_at (i := 0) rfl
    refine plc hE (.bn 0 0 7 hb2 <| .r 1 1 <| .nil) (fun a hE => ?_)
    obtain ⟨t24, h25, H⟩ := bd H
    refine ple hE (.cl en71 (qBg.calls k16 x0_ x1_ _ _ _ _ _ _ _ _ _ hS.own.sub g0_4 g0_5 g0_6 h25)) ?_
    rintro _ u23 a ⟨F26, A27, c28, rfl, hC⟩ hE
    have hs := hC.sub
    replace hS := hS.called (X := []) hC
    replace g0_4 := g0_4.mono hs
    replace g0_5 := g0_5.mono hs
    replace g0_6 := g0_6.mono hs
    refine plc hE (.r 3 1 .nil) (fun a hE => pld (hK22 _ _ (wp_ret ?_)))
    replace hS := hS.front 1 rfl
    replace hS := hS.tail
    obtain rfl := si H
    exact rt1 hE ⟨_, rfl, _, _, _, rfl, hS⟩
 refine pl0 (plc hE (.bn 0 0 7 hb2 .nil) (fun a hE => ?_))
 obtain ⟨t7, h8, H⟩ := bd H
 refine ple hE (.cl en32 (qx.calls k x0_ _ _ _ _ _ _ _ _ _ hS.own.sub g0_4 g0_5 g0_6 h8)) ?_
 rintro _ u6 a ⟨_, rfl, hC⟩ hE
 replace hS := hS.lent hC
 refine plc hE (.r 2 2 .nil) (fun a hE => ?_)
 rcases sp H with ⟨c9, H⟩ | ⟨c9, H⟩
 ·
  replace hE := hE.ktn 8 c9
  have hb2 := hS.blk_at (i := 0) rfl
  refine plc hE (.r 4 2 <| .b 6 3 hb2 <| .r 7 1 <| .nil) (fun a hE => ?_)
  obtain ⟨t11, h12, H⟩ := bd H
  refine ple hE (.cl en70 (qAp.calls x1_ 0 (w64 (x0_.f3 - 1)) _ _ _ hS.own.sub h12)) ?_
  rintro _ u10 a ⟨_, rfl, hC⟩ hE
  replace hS := hS.lent hC
  refine plc hE (.r 9 2 .nil) (fun a hE => pld ?_)
  exact J17 _ (by omega) _ (!t11) _ _ hE .of hS H
 ·
  replace hE := hE.kfn 8 c9
  refine plc hE (.r 4 7 .nil) (fun a hE => pld ?_)
  exact J17 _ (by omega) _ true _ _ hE .of hS H
def qBa.f (k : Nat) (x0_ : qJ) (x1_ : Int) : Option (List Int) := (qBb.f k x0_ x1_).bind fun t6 => ((qBp.f k x0_ t6).bind fun t14 => (some t14))
def qBa.Post (W F : World) (r : List Int) (v : Value) (w' : World) : Prop := ∃ (F' : World) (RA0_0 : Option Addr) (rc0_0 : Nat), v = .slice RA0_0 r.length rc0_0 ∧ St W (mine W []) F w' F' [row (Kn.int .i64) 3 (.slice RA0_0 r.length rc0_0) r]
theorem qBa.calls (k : Nat) (x0_ : qJ) (x1_ : Int) (A0_4 : Option Addr) (c0_4 : Nat) (A0_5 : Option Addr) (c0_5 : Nat) (A0_6 : Option Addr) (c0_6 : Nat) (r : List Int) (W F : World) (hown : Sub F W) (g0_4 : Rd qA.k F A0_4 c0_4 x0_.f4) (g0_5 : Rd qK.k F A0_5 c0_5 x0_.f5) (g0_6 : Rd qC.k F A0_6 c0_6 x0_.f6) (H : qBa.f k x0_ x1_ = some r) :
    Calls Tryz.prog 24 #[.agg #[.int .i64 x0_.f0, .int .i64 x0_.f1, .int .i64 x0_.f2, .int .i64 x0_.f3, .slice A0_4 x0_.f4.length c0_4, .slice A0_5 x0_.f5.length c0_5, .slice A0_6 x0_.f6.length c0_6], .int .i64 x1_] W fun e w' => ∃ v, e = .returned v ∧ qBa.Post W F r v w' := by
 have hS := St.start (Own.nil hown)
 unfold qBa.f at H
 refine enter (n := 10) rfl rfl rfl (Nat.le_of_ble_eq_true rfl) (fun a hE => ?_)
 refine sq fun K1 hK1 => pl0 (ple hE (.bx (t := 26) hS [.int .i64 x0_.f0, .int .i64 x0_.f1, .int .i64 x0_.f2, .int .i64 x0_.f3, .slice A0_4 x0_.f4.length c0_4, .slice A0_5 x0_.f5.length c0_5, .slice A0_6 x0_.f6.length c0_6]) ?_)
 rintro _ u3 a ⟨b2, rfl, hb2, hS, hg⟩ hE
 refine plc hE (.r 1 1 .nil) (fun a hE => pld (hK1 _ _ (sq fun K4 hK4 => ?_)))
 refine drawn 6 ⟨[4], [], fun q => False⟩ mixed rfl (by kernel_rfl) (fun hst => ?_)
 replace hS := hS.drew
 have hb2 := hS.blk_at (i := 0) rfl
 refine mny 3 hst hE (.bn 0 0 7 hb2 <| .bn 1 0 7 hb2 <| .r 2 1 <| .nil) (fun a hE => ?_)
 obtain ⟨t6, h7, H⟩ := bd H
 refine on1 3 hE (.cl en22 (qBb.calls k x0_ x1_ _ _ _ _ _ _ _ _ _ hS.own.sub g0_4 g0_5 g0_6 h7)) ?_
 rintro _ u5 a ⟨F8, A9, c10, rfl, hC⟩ hE
 refine ⟨.of hC.agr, ?_⟩
 have hs := hC.sub
 replace hS := hS.called (X := []) hC
 replace g0_4 := g0_4.mono hs
 replace g0_5 := g0_5.mono hs
 replace g0_6 := g0_6.mono hs
 obtain ⟨t14, h15, H⟩ := bd H
 refine on1 4 hE (.cl en74 (qBp.calls k x0_ t6 _ _ _ _ _ _ _ _ _ _ _ (Own.left (X := [row (Kn.int .i64) 3 (.slice A9 t6.length c10) t6]) hS.own) g0_4 g0_5 g0_6 h15)) ?_
 rintro _ u13 a ⟨F16, A17, c18, rfl, hC⟩ hE
 refine ⟨.d, ?_⟩
 have hs := hC.sub
 replace hS := hS.called (X := [row (Kn.int .i64) 3 (.slice A9 t6.length c10) t6]) hC
 replace g0_4 := g0_4.mono hs
 replace g0_5 := g0_5.mono hs
 replace g0_6 := g0_6.mono hs
 refine mny 0 hst hE (.r 5 1 .nil) (fun a hE => ?_)
 refine dn ?_
 refine hK4 _ _ (wp_ret ?_)
 replace hS := hS.front 1 rfl
 replace hS := hS.tail
 obtain rfl := si H
 exact rt1 hE ⟨_, rfl, _, _, _, rfl, hS⟩
def qBD.f (k : Nat) (x0_ : Int) (xf0_ : List qI) : Option Bool := (qBm.f k xf0_ x0_).bind fun t4 => (some t4)
def qBD.Post (W F : World) (r : Bool) (v : Value) (w' : World) : Prop := ∃ (F' : World), v = .bool r ∧ St W (mine W []) F w' F' []
theorem qBD.calls (k : Nat) (x0_ : Int) (xf0_ : List qI) (pf0_ : Nat) (Af0_0 : Option Addr) (cf0_0 : Nat) (r : Bool) (W F : World) (hown : Sub F W) (gf0_0 : Rd qI.k F Af0_0 cf0_0 xf0_) (hpf0_ : F.heap[pf0_]? = some (.cells #[.slice Af0_0 xf0_.length cf0_0] 72 (0, 0))) (H : qBD.f k x0_ xf0_ = some r) :
    Calls Tryz.prog 104 #[.int .i64 x0_, .pointer (some ⟨pf0_, 0, none⟩)] W fun e w' => ∃ v, e = .returned v ∧ qBD.Post W F r v w' := by
 have hS := St.start (Own.nil hown)
 unfold qBD.f at H
 refine enter (n := 7) rfl rfl rfl (Nat.le_of_ble_eq_true rfl) (fun a hE => ?_)
 refine sq fun K1 hK1 => pl0 (plc hE (.r 0 1 .nil) (fun a hE => pld (hK1 _ _ (sq fun K2 hK2 => pl0 (plc hE (.b 0 0 (hS.own.sub _ _ _ _ hpf0_) <| .r 1 1 <| .nil) (fun a hE => ?_))))))
 obtain ⟨t4, h5, H⟩ := bd H
 refine ple hE (.cl en105 (qBm.calls k xf0_ x0_ _ _ _ _ _ hS.own.sub gf0_0 h5)) ?_
 rintro _ u3 a ⟨_, rfl, hC⟩ hE
 replace hS := hS.lent hC
 refine plc hE (.r 3 1 .nil) (fun a hE => pld (hK2 _ _ (wp_ret ?_)))
 obtain rfl := si H
 exact rt1 hE ⟨_, rfl, _, rfl, hS⟩
def qBA.f (k : Nat) (x0_ : Int) (xf0n0_ : List qI) : Option Bool := (qBD.f k x0_ xf0n0_).bind fun t4 => (some (!t4))
def qBA.Post (W F : World) (r : Bool) (v : Value) (w' : World) : Prop := ∃ (F' : World), v = .bool r ∧ St W (mine W []) F w' F' []
theorem qBA.calls (k : Nat) (x0_ : Int) (xf0n0_ : List qI) (pf0_ : Nat) (pf0n0_ : Nat) (Af0n0_0 : Option Addr) (cf0n0_0 : Nat) (r : Bool) (W F : World) (hown : Sub F W) (gf0n0_0 : Rd qI.k F Af0n0_0 cf0n0_0 xf0n0_) (hpf0n0_ : F.heap[pf0n0_]? = some (.cells #[.slice Af0n0_0 xf0n0_.length cf0n0_0] 72 (0, 0))) (hpf0_ : F.heap[pf0_]? = some (.cells #[.func (.func 104) #[] #[.pointer (some ⟨pf0n0_, 0, none⟩)]] 129 (0, 0))) (H : qBA.f k x0_ xf0n0_ = some r) :
    Calls Tryz.prog 106 #[.int .i64 x0_, .pointer (some ⟨pf0_, 0, none⟩)] W fun e w' => ∃ v, e = .returned v ∧ qBA.Post W F r v w' := by
 have hS := St.start (Own.nil hown)
 unfold qBA.f at H
 refine enter (n := 8) rfl rfl rfl (Nat.le_of_ble_eq_true rfl) (fun a hE => ?_)
 refine sq fun K1 hK1 => pl0 (plc hE (.r 0 1 .nil) (fun a hE => pld (hK1 _ _ (sq fun K2 hK2 => pl0 (plc hE (.b 0 0 (hS.own.sub _ _ _ _ hpf0_) <| .r 1 1 <| .nil) (fun a hE => ?_))))))
 obtain ⟨t4, h5, H⟩ := bd H
 refine ple hE (.cl en104 (qBD.calls k x0_ xf0n0_ _ _ _ _ _ _ hS.own.sub gf0n0_0 hpf0n0_ h5)) ?_
 rintro _ u3 a ⟨_, rfl, hC⟩ hE
 replace hS := hS.lent hC
 refine plc hE (.r 3 2 .nil) (fun a hE => pld (hK2 _ _ (wp_ret ?_)))
 obtain rfl := si H
 exact rt1 hE ⟨_, rfl, _, rfl, hS⟩
def qk.l5 : Nat → List Int → List qI → Int → Option Int
  | 0, _, _, _ => none
  | k + 1, x0_, x1c0n0_, x4 => if x4 < (x0_.length : Int) then (if 0 ≤ x4 ∧ x4 < (x0_.length : Int) then ((qBA.f k (nth 0 x0_ x4) x1c0n0_).bind fun t21 => (if t21 = true then (some x4) else (qk.l5 k x0_ x1c0n0_ (w64 (x4 + 1))))) else (none)) else (some (-1))
theorem qk.l5_s (k : Nat) (x0_ : List Int) (x1c0n0_ : List qI) (x4 : Int) : qk.l5 (k + 1) x0_ x1c0n0_ x4 = (if x4 < (x0_.length : Int) then (if 0 ≤ x4 ∧ x4 < (x0_.length : Int) then ((qBA.f k (nth 0 x0_ x4) x1c0n0_).bind fun t21 => (if t21 = true then (some x4) else (qk.l5 k x0_ x1c0n0_ (w64 (x4 + 1))))) else (none)) else (some (-1))) := by kernel_rfl
def qk.f (k : Nat) (x0_ : List Int) (x1c0n0_ : List qI) : Option Int := qk.l5 k x0_ x1c0n0_ 0
def qk.Post (W F : World) (r : Int) (v : Value) (w' : World) : Prop := ∃ (F' : World), v = .int .i64 r ∧ St W (mine W []) F w' F' []
theorem qk.calls (k : Nat) (x0_ : List Int) (x1c0n0_ : List qI) (A0_0 : Option Addr) (c0_0 : Nat) (p1c0_ : Nat) (p1c0n0_ : Nat) (A1c0n0_0 : Option Addr) (c1c0n0_0 : Nat) (r : Int) (W F : World) (hown : Sub F W) (g0_0 : Rd (Kn.int .i64) F A0_0 c0_0 x0_) (g1c0n0_0 : Rd qI.k F A1c0n0_0 c1c0n0_0 x1c0n0_) (hp1c0n0_ : F.heap[p1c0n0_]? = some (.cells #[.slice A1c0n0_0 x1c0n0_.length c1c0n0_0] 72 (0, 0))) (hp1c0_ : F.heap[p1c0_]? = some (.cells #[.func (.func 104) #[] #[.pointer (some ⟨p1c0n0_, 0, none⟩)]] 129 (0, 0))) (H : qk.f k x0_ x1c0n0_ = some r) :
    Calls Tryz.prog 157 #[.slice A0_0 x0_.length c0_0, .func (.func 106) #[] #[.pointer (some ⟨p1c0_, 0, none⟩)]] W fun e w' => ∃ v, e = .returned v ∧ qk.Post W F r v w' := by
 have hS := St.start (Own.nil hown)
 unfold qk.f at H
 refine enter (n := 19) rfl rfl rfl (Nat.le_of_ble_eq_true rfl) (fun a hE => ?_)
 refine sq fun K1 hK1 => pl0 (plc hE (.r 0 1 .nil) (fun a hE => pld (hK1 _ _ (sq fun K2 hK2 => sq fun K3 hK3 => pl0 (plc hE (.r 0 3 .nil) (fun a hE => pld (hK3 _ _ (wp_block ?_))))))))
 refine wp_loop_ghost (fun kq6 a w' => ∃ (G : Nat → Value) (x4 : Int), kq6 ≤ k ∧ Env 19 G a ∧ At G [(0, .slice A0_0 x0_.length c0_0), (1, .func (.func 106) #[] #[.pointer (some ⟨p1c0_, 0, none⟩)]), (7, .int .i64 (x0_.length : Int)), (8, .int .i64 x4)] ∧ St W (mine W []) F w' F [] ∧  qk.l5 kq6 x0_ x1c0n0_ x4 = some r) k ⟨_, 0, Nat.le_refl _, hE, .of, hS, H⟩ ?_
 rintro kq6 a u8 ⟨G, x4, hkq, hE, hA, hS, H⟩
 cases kq6 with
 | zero => cases (show none = some r from H)
 | succ k7 =>
  rw [qk.l5_s] at H
  obtain ⟨J, hE⟩ := hE.at hA
  refine sq fun K9 hK9 => pl0 (plc hE (.r 0 1 .nil) (fun a hE => pld (hK9 _ _ (sq fun K10 hK10 => ?_))))
  rcases sp H with ⟨c11, H⟩ | ⟨c11, H⟩
  ·
   replace hE := hE.kt 9 c11
   refine ct hE (wp_skip (hK10 _ _ (sq fun K12 hK12 => wp_block (sq fun K13 hK13 => pl0 (plc hE (.r 0 2 .nil) (fun a hE => pld (hK13 _ _ (sq fun K14 hK14 => pl0 ?_))))))))
   obtain ⟨c15, H⟩ := gd H
   have hE_ := hE
   obtain ⟨ad16, rfl⟩ := g0_0.addr c15.1 c15.2
   replace hE := hE_
   obtain ⟨cs18, rfl, hc19⟩ := g0_0.el 0 x4 c15.1 c15.2
   refine plc hE (.r 0 3 <| .x 3 c15 <| .c 4 (hS.fc hc19 0) <| .nil) (fun a hE => ?_)
   obtain ⟨t21, h22, H⟩ := bd H
   refine ple hE (.cl en106 (qBA.calls k7 (nth 0 x0_ x4) x1c0n0_ _ _ _ _ _ _ _ hS.own.sub g1c0n0_0 hp1c0n0_ hp1c0_ h22)) ?_
   rintro _ u20 a ⟨_, rfl, hC⟩ hE
   replace hS := hS.lent hC
   refine pld (hK14 _ _ ?_)
   rcases sp H with ⟨c23, H⟩ | ⟨c23, H⟩
   ·
    replace hE := hE.bt 16 c23
    refine ct hE (sq fun K24 hK24 => pl0 (plc hE (.r 0 2 .nil) (fun a hE => pld (hK24 _ _ (wp_ret (qCC (qCB (qCB (qCC (qCB ?_))))))))))
    obtain rfl := si H
    exact rt1 hE ⟨_, rfl, _, rfl, hS⟩
   ·
    replace hE := hE.bf 16 c23
    refine cf hE (wp_skip ?_)
    refine qCD ?_
    refine hK12 _ _ (pl0 (plc hE (.r 0 2 .nil) (fun a hE => pld ?_)))
    exact qCE ⟨k7, by omega, _, (w64 (x4 + 1)), by omega, hE, .of, hS, H⟩
  ·
   replace hE := hE.kf 9 c11
   refine cf hE ?_
   refine wp_exit ?_
   refine hK2 _ _ (sq fun K25 hK25 => pl0 (plc hE (.r 0 1 .nil) (fun a hE => pld (hK25 _ _ (wp_ret ?_)))))
   obtain rfl := si H
   exact rt1 hE ⟨_, rfl, _, rfl, hS⟩
def qAP.f (k : Nat) (x0_ : List Int) (x1c0n0_ : List qI) : Option Bool := (qk.f k x0_ x1c0n0_).bind fun t4 => (some (decide (t4 ≥ 0)))
def qAP.Post (W F : World) (r : Bool) (v : Value) (w' : World) : Prop := ∃ (F' : World), v = .bool r ∧ St W (mine W []) F w' F' []
theorem qAP.calls (k : Nat) (x0_ : List Int) (x1c0n0_ : List qI) (A0_0 : Option Addr) (c0_0 : Nat) (p1c0_ : Nat) (p1c0n0_ : Nat) (A1c0n0_0 : Option Addr) (c1c0n0_0 : Nat) (r : Bool) (W F : World) (hown : Sub F W) (g0_0 : Rd (Kn.int .i64) F A0_0 c0_0 x0_) (g1c0n0_0 : Rd qI.k F A1c0n0_0 c1c0n0_0 x1c0n0_) (hp1c0n0_ : F.heap[p1c0n0_]? = some (.cells #[.slice A1c0n0_0 x1c0n0_.length c1c0n0_0] 72 (0, 0))) (hp1c0_ : F.heap[p1c0_]? = some (.cells #[.func (.func 104) #[] #[.pointer (some ⟨p1c0n0_, 0, none⟩)]] 129 (0, 0))) (H : qAP.f k x0_ x1c0n0_ = some r) :
    Calls Tryz.prog 107 #[.slice A0_0 x0_.length c0_0, .func (.func 106) #[] #[.pointer (some ⟨p1c0_, 0, none⟩)]] W fun e w' => ∃ v, e = .returned v ∧ qAP.Post W F r v w' := by
 have hS := St.start (Own.nil hown)
 unfold qAP.f at H
 refine enter (n := 9) rfl rfl rfl (Nat.le_of_ble_eq_true rfl) (fun a hE => ?_)
 refine sq fun K1 hK1 => pl0 (plc hE (.r 0 1 .nil) (fun a hE => pld (hK1 _ _ (sq fun K2 hK2 => pl0 (plc hE (.r 0 2 .nil) (fun a hE => ?_))))))
 obtain ⟨t4, h5, H⟩ := bd H
 refine ple hE (.cl en157 (qk.calls k x0_ x1c0n0_ _ _ _ _ _ _ _ _ _ hS.own.sub g0_0 g1c0n0_0 hp1c0n0_ hp1c0_ h5)) ?_
 rintro _ u3 a ⟨_, rfl, hC⟩ hE
 replace hS := hS.lent hC
 refine plc hE (.r 3 2 .nil) (fun a hE => pld (hK2 _ _ (wp_ret ?_)))
 obtain rfl := si H
 exact rt1 hE ⟨_, rfl, _, rfl, hS⟩
def qf.l18 : Nat → List qI → Option qI
  | 0, _ => none
  | k + 1, x0_ => if 1 < (x0_.length : Int) then (if 0 ≤ (1 : Int) ∧ 1 < (x0_.length : Int) then (none) else (none)) else (some (⟨(nth qI.z x0_ 0).f0, (nth qI.z x0_ 0).f1, (nth qI.z x0_ 0).f2, (nth qI.z x0_ 0).f3, (nth qI.z x0_ 0).f4⟩ : qI))
theorem qf.l18_s (k : Nat) (x0_ : List qI) : qf.l18 (k + 1) x0_ = (if 1 < (x0_.length : Int) then (if 0 ≤ (1 : Int) ∧ 1 < (x0_.length : Int) then (none) else (none)) else (some (⟨(nth qI.z x0_ 0).f0, (nth qI.z x0_ 0).f1, (nth qI.z x0_ 0).f2, (nth qI.z x0_ 0).f3, (nth qI.z x0_ 0).f4⟩ : qI))) := by kernel_rfl
def qf.f (k : Nat) (x0_ : List qI) : Option qI := if (x0_.length : Int) < 1 then (none) else (if 0 ≤ (0 : Int) ∧ 0 < (x0_.length : Int) then (qf.l18 k x0_) else (none))
def qf.Post (W F : World) (r : qI) (v : Value) (w' : World) : Prop := ∃ (F' : World), v = .agg #[.int .i64 r.f0, .int .i64 r.f1, .int .i64 r.f2, .int .i64 r.f3, .int .i64 r.f4] ∧ St W (mine W []) F w' F' []
theorem qf.calls (k : Nat) (x0_ : List qI) (A0_0 : Option Addr) (c0_0 : Nat) (r : qI) (W F : World) (hown : Sub F W) (g0_0 : Rd qI.k F A0_0 c0_0 x0_) (H : qf.f k x0_ = some r) :
    Calls Tryz.prog 114 #[.slice A0_0 x0_.length c0_0, .func (.func 115) #[] #[]] W fun e w' => ∃ v, e = .returned v ∧ qf.Post W F r v w' := by
 have hS := St.start (Own.nil hown)
 unfold qf.f at H
 refine enter (n := 33) rfl rfl rfl (Nat.le_of_ble_eq_true rfl) (fun a hE => ?_)
 refine sq fun K1 hK1 => pl0 (ple hE (.al (t := 86) hS [.int .i64 0, .int .i64 0, .int .i64 0, .int .i64 0, .int .i64 0]) ?_)
 rintro _ u3 a ⟨b2, rfl, hb2, hS, hg⟩ hE
 refine pld (hK1 _ _ (sq fun K4 hK4 => sq fun K5 hK5 => pl0 (plc hE (.r 0 3 .nil) (fun a hE => pld (hK5 _ _ ?_)))))
 rcases sp H with ⟨c6, H⟩ | ⟨c6, H⟩
 ·
  replace hE := hE.kt 9 c6
  refine ct hE ?_
  cases (show none = some r from H)
 ·
  replace hE := hE.kf 9 c6
  refine cf hE (wp_skip (hK4 _ _ (sq fun K7 hK7 => pl0 ?_)))
  obtain ⟨c8, H⟩ := gd H
  have hE_ := hE
  obtain ⟨ad9, rfl⟩ := g0_0.addr c8.1 c8.2
  replace hE := hE_
  obtain ⟨cs11, rfl, hc12⟩ := g0_0.el qI.z 0 c8.1 c8.2
  refine plc hE (.r 0 1 <| .x 1 c8 <| .cs 2 (hS.fcs hc12) <| .nil) (fun a hE => ple hE (.al (t := 86) hS [.int .i64 0, .int .i64 0, .int .i64 0, .int .i64 0, .int .i64 0]) ?_)
  rintro _ u14 a ⟨b13, rfl, hb13, hS, hg⟩ hE
  refine ple hE (.sto hS [.int .i64 ((nth qI.z x0_ 0).f0), .int .i64 ((nth qI.z x0_ 0).f1), .int .i64 ((nth qI.z x0_ 0).f2), .int .i64 ((nth qI.z x0_ 0).f3), .int .i64 ((nth qI.z x0_ 0).f4)]) ?_
  rintro _ u15 a ⟨rfl, hb13, hS, hz⟩ hE
  refine pld (hK7 _ _ (sq fun K16 hK16 => sq fun K17 hK17 => pl0 (plc hE (.r 0 1 .nil) (fun a hE => pld (hK17 _ _ (wp_block ?_))))))
  refine wp_loop_ghost (fun kq19 a w' => ∃ (G : Nat → Value), kq19 ≤ k ∧ Env 33 G a ∧ At G [(0, .slice (some ad9) x0_.length c0_0), (1, .func (.func 115) #[] #[]), (4, .pointer (some ⟨b2, 0, none⟩)), (5, .pointer (some ⟨b13, 0, none⟩)), (6, .int .i64 1)] ∧ St W (mine W []) F w' F [box b13 #[.int .i64 ((nth qI.z x0_ 0).f0), .int .i64 ((nth qI.z x0_ 0).f1), .int .i64 ((nth qI.z x0_ 0).f2), .int .i64 ((nth qI.z x0_ 0).f3), .int .i64 ((nth qI.z x0_ 0).f4)] 86, box b2 #[.int .i64 0, .int .i64 0, .int .i64 0, .int .i64 0, .int .i64 0] 86] ∧  qf.l18 kq19 x0_ = some r) k ⟨_, Nat.le_refl _, hE, .of, hS, H⟩ ?_
  rintro kq19 a u21 ⟨G, hkq, hE, hA, hS, H⟩
  cases kq19 with
  | zero => cases (show none = some r from H)
  | succ k20 =>
   rw [qf.l18_s] at H
   obtain ⟨J, hE⟩ := hE.at hA
   refine sq fun K22 hK22 => sq fun K23 hK23 => pl0 (plc hE (.r 0 4 .nil) (fun a hE => pld (hK23 _ _ ?_)))
   rcases sp H with ⟨c24, H⟩ | ⟨c24, H⟩
   ·
    replace hE := hE.kt 17 c24
    refine ct hE (wp_skip (hK22 _ _ (sq fun K25 hK25 => wp_block (sq fun K26 hK26 => ?_))))
    refine drawn 8 ⟨[], [], fun q => False⟩ mixed rfl (by kernel_rfl) (fun hst => ?_)
    replace hS := hS.drew
    obtain ⟨c27, H⟩ := gd H
    obtain ⟨cs29, rfl, hc30⟩ := g0_0.el qI.z 1 c27.1 c27.2
    have hb13 := hS.blk_at (i := 0) rfl
    refine mny 2 hst hE (.r 0 3 <| .x 3 c27 <| .cs 4 (hS.fcs hc30) <| .bn 5 0 5 hb13 <| .nil) (fun a hE => ?_)
    cases (show none = some r from H)
   ·
    replace hE := hE.kf 17 c24
    refine cf hE ?_
    refine wp_exit ?_
    refine hK16 _ _ (sq fun K31 hK31 => pl0 ?_)
    have hb13 := hS.blk_at (i := 0) rfl
    refine plc hE (.bn 0 0 5 hb13 .nil) (fun a hE => ?_)
    replace hS := hS.front 1 rfl
    refine ple hE (.sto hS [.int .i64 ((nth qI.z x0_ 0).f0), .int .i64 ((nth qI.z x0_ 0).f1), .int .i64 ((nth qI.z x0_ 0).f2), .int .i64 ((nth qI.z x0_ 0).f3), .int .i64 ((nth qI.z x0_ 0).f4)]) ?_
    rintro _ u32 a ⟨rfl, hb2, hS, hz⟩ hE
    refine pld (hK31 _ _ (wp_ret ?_))
    replace hS := hS.tail
    replace hS := hS.tail
    obtain rfl := si H
    exact ret1 hE rfl (.cell (by kernel_rfl) (qCH [.int .i64 ((nth qI.z x0_ 0).f0), .int .i64 ((nth qI.z x0_ 0).f1), .int .i64 ((nth qI.z x0_ 0).f2), .int .i64 ((nth qI.z x0_ 0).f3), .int .i64 ((nth qI.z x0_ 0).f4)] ag86 sz86 hb2 rfl) .nil) ⟨_, rfl, _, rfl, hS⟩
def qBB.j11 : Nat → List qI → Bool → Option (qI × Bool)
  | 0, _, _ => none
  | k + 1, x0_, y10 => if y10 = true then (some ((⟨0, 0, 0, 0, 0⟩ : qI), false)) else ((qf.f k x0_).bind fun t21 => (some (t21, true)))
theorem qBB.j11_s (k : Nat) (x0_ : List qI) (y10 : Bool) : qBB.j11 (k + 1) x0_ y10 = (if y10 = true then (some ((⟨0, 0, 0, 0, 0⟩ : qI), false)) else ((qf.f k x0_).bind fun t21 => (some (t21, true)))) := by kernel_rfl
def qBB.f (k : Nat) (x0_ : List qI) : Option (qI × Bool) := if (x0_.length : Int) = 0 then (qBB.j11 k x0_ true) else ((qAH.f k x0_).bind fun t8 => (qBB.j11 k x0_ (!(t8 == 0))))
def qBB.Post (W F : World) (r : qI × Bool) (v : Value) (w' : World) : Prop := ∃ (F' : World), v = .tuple #[.agg #[.int .i64 r.1.f0, .int .i64 r.1.f1, .int .i64 r.1.f2, .int .i64 r.1.f3, .int .i64 r.1.f4], .bool r.2] ∧ St W (mine W []) F w' F' []
theorem qBB.calls (k : Nat) (x0_ : List qI) (A0_0 : Option Addr) (c0_0 : Nat) (r : qI × Bool) (W F : World) (hown : Sub F W) (g0_0 : Rd qI.k F A0_0 c0_0 x0_) (H : qBB.f k x0_ = some r) :
    Calls Tryz.prog 57 #[.slice A0_0 x0_.length c0_0] W fun e w' => ∃ v, e = .returned v ∧ qBB.Post W F r v w' := by
 have hS := St.start (Own.nil hown)
 unfold qBB.f at H
 refine enter (n := 15) rfl rfl rfl (Nat.le_of_ble_eq_true rfl) (fun a hE => ?_)
 refine sq fun K1 hK1 => pl0 (ple hE (.al (t := 86) hS [.int .i64 0, .int .i64 0, .int .i64 0, .int .i64 0, .int .i64 0]) ?_)
 rintro _ u3 a ⟨b2, rfl, hb2, hS, hg⟩ hE
 refine plc hE (.r 1 1 .nil) (fun a hE => pld (hK1 _ _ (sq fun K4 hK4 => sq fun K5 hK5 => ?_)))
 have J14 : ∀ kq12, kq12 ≤ k → ∀ (G : Nat → Value) (y10 : Bool) (a : Act) (w' : World), Env 15 G a → At G [(0, .slice A0_0 x0_.length c0_0), (2, .pointer (some ⟨b2, 0, none⟩)), (11, .bool y10)] → St W (mine W []) F w' F [box b2 #[.int .i64 0, .int .i64 0, .int .i64 0, .int .i64 0, .int .i64 0] 86] → qBB.j11 kq12 x0_ y10 = some r → K5 a w' := by
  intro kq12 hkq G y10 a u15 hE hA hS H
  cases kq12 with
  | zero => cases (show none = some r from H)
  | succ k13 =>
   rw [qBB.j11_s] at H
   obtain ⟨J, hE⟩ := hE.at hA
   refine hK5 _ _ ?_
   rcases sp H with ⟨c16, H⟩ | ⟨c16, H⟩
   ·
    replace hE := hE.bt 11 c16
    refine ct hE (sq fun K17 hK17 => pl0 (plc hE (.r 0 1 .nil) (fun a hE => ple hE (.sto hS [.int .i64 0, .int .i64 0, .int .i64 0, .int .i64 0, .int .i64 0]) ?_)))
    rintro _ u18 a ⟨rfl, hb2, hS, hz⟩ hE
    refine plc hE (.r 2 1 .nil) (fun a hE => pld (hK17 _ _ (wp_ret (qCB ?_))))
    replace hS := hS.tail
    obtain rfl := si H
    exact retN hE rfl (of_decide_eq_true rfl) (.cell (by kernel_rfl) (qCH [.int .i64 0, .int .i64 0, .int .i64 0, .int .i64 0, .int .i64 0] ag86 sz86 hb2 rfl) (.tmp (by kernel_rfl) .nil)) ⟨_, rfl, _, rfl, hS⟩
   ·
    replace hE := hE.bf 11 c16
    refine cf hE (wp_skip (hK4 _ _ (sq fun K19 hK19 => pl0 (plc hE (.r 0 1 .nil) (fun a hE => ?_)))))
    obtain ⟨t21, h22, H⟩ := bd H
    refine ple hE (.cl en114 (qf.calls k13 x0_ _ _ _ _ _ hS.own.sub g0_0 h22)) ?_
    rintro _ u20 a ⟨_, rfl, hC⟩ hE
    replace hS := hS.lent hC
    refine ple hE (.sto hS [.int .i64 t21.f0, .int .i64 t21.f1, .int .i64 t21.f2, .int .i64 t21.f3, .int .i64 t21.f4]) ?_
    rintro _ u23 a ⟨rfl, hb2, hS, hz⟩ hE
    refine plc hE (.r 3 1 .nil) (fun a hE => pld (hK19 _ _ (wp_ret ?_)))
    replace hS := hS.tail
    obtain rfl := si H
    exact retN hE rfl (of_decide_eq_true rfl) (.cell (by kernel_rfl) (qCH [.int .i64 t21.f0, .int .i64 t21.f1, .int .i64 t21.f2, .int .i64 t21.f3, .int .i64 t21.f4] ag86 sz86 hb2 rfl) (.tmp (by kernel_rfl) .nil)) ⟨_, rfl, _, rfl, hS⟩
 refine pl0 (plc hE (.r 0 4 .nil) (fun a hE => ?_))
 rcases sp H with ⟨c6, H⟩ | ⟨c6, H⟩
 ·
  replace hE := hE.kt 7 c6
  refine plc hE (.r 4 4 .nil) (fun a hE => pld ?_)
  exact J14 _ (by omega) _ true _ _ hE .of hS H
 ·
  replace hE := hE.kf 7 c6
  refine plc hE (.r 4 1 .nil) (fun a hE => ?_)
  obtain ⟨t8, h9, H⟩ := bd H
  refine ple hE (.cl en58 (qAH.calls k x0_ _ _ _ _ _ hS.own.sub g0_0 h9)) ?_
  rintro _ u7 a ⟨_, rfl, hC⟩ hE
  replace hS := hS.lent hC
  refine plc hE (.r 6 2 .nil) (fun a hE => pld ?_)
  exact J14 _ (by omega) _ (!(t8 == 0)) _ _ hE .of hS H
def qAs.l36 : Nat → qJ → Int → qI × Bool → List qD → Int → Option (List qD)
  | 0, _, _, _, _, _ => none
  | k + 1, x0_, x1_, t14, l33, x34 => if x34 < (((nth qC.z x0_.f6 x1_).f1).length : Int) then (if 0 ≤ x34 ∧ x34 < (((nth qC.z x0_.f6 x1_).f1).length : Int) then (if (nth qD.z ((nth qC.z x0_.f6 x1_).f1) x34).f0 ≥ t14.1.f1 then ((qAN.f ((nth qD.z ((nth qC.z x0_.f6 x1_).f1) x34).f1)).bind fun t60 => (if ((l33.length : Int) + ((1 : Nat) : Int)) * 32 ≤ 140737488355328 then (qAs.l36 k x0_ x1_ t14 (l33 ++ [(⟨(nth qD.z ((nth qC.z x0_.f6 x1_).f1) x34).f0, t60⟩ : qD)]) (w64 (x34 + 1))) else (none))) else (qAs.l36 k x0_ x1_ t14 l33 (w64 (x34 + 1)))) else (none)) else (some l33)
theorem qAs.l36_s (k : Nat) (x0_ : qJ) (x1_ : Int) (t14 : qI × Bool) (l33 : List qD) (x34 : Int) : qAs.l36 (k + 1) x0_ x1_ t14 l33 x34 = (if x34 < (((nth qC.z x0_.f6 x1_).f1).length : Int) then (if 0 ≤ x34 ∧ x34 < (((nth qC.z x0_.f6 x1_).f1).length : Int) then (if (nth qD.z ((nth qC.z x0_.f6 x1_).f1) x34).f0 ≥ t14.1.f1 then ((qAN.f ((nth qD.z ((nth qC.z x0_.f6 x1_).f1) x34).f1)).bind fun t60 => (if ((l33.length : Int) + ((1 : Nat) : Int)) * 32 ≤ 140737488355328 then (qAs.l36 k x0_ x1_ t14 (l33 ++ [(⟨(nth qD.z ((nth qC.z x0_.f6 x1_).f1) x34).f0, t60⟩ : qD)]) (w64 (x34 + 1))) else (none))) else (qAs.l36 k x0_ x1_ t14 l33 (w64 (x34 + 1)))) else (none)) else (some l33)) := by kernel_rfl
def qAs.f (k : Nat) (x0_ : qJ) (x1_ : Int) (x2_ : List qI) : Option (List qD) := (qBI.f k x0_ x1_ x2_).bind fun t7 => (if t7 = true then ((qBB.f k x2_).bind fun t14 => (if 0 ≤ x1_ ∧ x1_ < (x0_.f6.length : Int) then (qAs.l36 k x0_ x1_ t14 [] 0) else (none))) else (some []))
def qAs.Post (W F : World) (r : List qD) (v : Value) (w' : World) : Prop := ∃ (F' : World) (RA0_0 : Option Addr) (rc0_0 : Nat), v = .slice RA0_0 r.length rc0_0 ∧ St W (mine W []) F w' F' [row qD.k 51 (.slice RA0_0 r.length rc0_0) r]
theorem qAs.calls (k : Nat) (x0_ : qJ) (x1_ : Int) (x2_ : List qI) (A0_4 : Option Addr) (c0_4 : Nat) (A0_5 : Option Addr) (c0_5 : Nat) (A0_6 : Option Addr) (c0_6 : Nat) (A2_0 : Option Addr) (c2_0 : Nat) (r : List qD) (W F : World) (hown : Sub F W) (g0_4 : Rd qA.k F A0_4 c0_4 x0_.f4) (g0_5 : Rd qK.k F A0_5 c0_5 x0_.f5) (g0_6 : Rd qC.k F A0_6 c0_6 x0_.f6) (g2_0 : Rd qI.k F A2_0 c2_0 x2_) (H : qAs.f k x0_ x1_ x2_ = some r) :
    Calls Tryz.prog 51 #[.agg #[.int .i64 x0_.f0, .int .i64 x0_.f1, .int .i64 x0_.f2, .int .i64 x0_.f3, .slice A0_4 x0_.f4.length c0_4, .slice A0_5 x0_.f5.length c0_5, .slice A0_6 x0_.f6.length c0_6], .int .i64 x1_, .slice A2_0 x2_.length c2_0] W fun e w' => ∃ v, e = .returned v ∧ qAs.Post W F r v w' := by
 have hS := St.start (Own.nil hown)
 unfold qAs.f at H
 refine enter (n := 48) rfl rfl rfl (Nat.le_of_ble_eq_true rfl) (fun a hE => ?_)
 refine sq fun K1 hK1 => pl0 (ple hE (.bx (t := 26) hS [.int .i64 x0_.f0, .int .i64 x0_.f1, .int .i64 x0_.f2, .int .i64 x0_.f3, .slice A0_4 x0_.f4.length c0_4, .slice A0_5 x0_.f5.length c0_5, .slice A0_6 x0_.f6.length c0_6]) ?_)
 rintro _ u3 a ⟨b2, rfl, hb2, hS, hg⟩ hE
 refine plc hE (.r 1 1 .nil) (fun a hE => pld (hK1 _ _ (sq fun K4 hK4 => sq fun K5 hK5 => pl0 (plc hE (.bn 0 0 7 hb2 <| .r 1 2 <| .nil) (fun a hE => ?_)))))
 obtain ⟨t7, h8, H⟩ := bd H
 refine ple hE (.cl en103 (qBI.calls k x0_ x1_ x2_ _ _ _ _ _ _ _ _ _ _ _ hS.own.sub g0_4 g0_5 g0_6 g2_0 h8)) ?_
 rintro _ u6 a ⟨_, rfl, hC⟩ hE
 replace hS := hS.lent hC
 refine plc hE (.r 4 1 .nil) (fun a hE => pld (hK5 _ _ ?_))
 rcases sp H with ⟨c9, H⟩ | ⟨c9, H⟩
 ·
  replace hE := hE.btn 16 c9
  refine cf hE (wp_skip (hK4 _ _ (sq fun K12 hK12 => pl0 (plc hE (.r 0 1 .nil) (fun a hE => ?_)))))
  obtain ⟨t14, h15, H⟩ := bd H
  refine ple hE (.cl en57 (qBB.calls k x2_ _ _ _ _ _ hS.own.sub g2_0 h15)) ?_
  rintro _ u13 a ⟨_, rfl, hC⟩ hE
  replace hS := hS.lent hC
  refine plc hE (.r 2 3 .nil) (fun a hE => ple hE (.al (t := 86) hS [.int .i64 0, .int .i64 0, .int .i64 0, .int .i64 0, .int .i64 0]) ?_)
  rintro _ u17 a ⟨b16, rfl, hb16, hS, hg⟩ hE
  refine ple hE (.sto hS [.int .i64 t14.1.f0, .int .i64 t14.1.f1, .int .i64 t14.1.f2, .int .i64 t14.1.f3, .int .i64 t14.1.f4]) ?_
  rintro _ u18 a ⟨rfl, hb16, hS, hz⟩ hE
  refine plc hE (.r 7 1 .nil) (fun a hE => pld (hK12 _ _ (sq fun K19 hK19 => pl0 (plc hE (.r 0 1 .nil) (fun a hE => pld (hK19 _ _ (sq fun K20 hK20 => sq fun K21 hK21 => pl0 ?_)))))))
  have hb2 := hS.blk_at (i := 1) rfl
  obtain ⟨c22, H⟩ := gd H
  have hE_ := hE
  obtain ⟨ad23, rfl⟩ := g0_6.addr c22.1 c22.2
  replace hE := hE_
  obtain ⟨cs25, ⟨A27, c28, rfl, g29⟩, hc26⟩ := g0_6.el qC.z x1_ c22.1 c22.2
  refine plc hE (.r 0 1 <| .b 1 6 hb2 <| .r 2 1 <| .x 3 c22 <| .r 4 1 <| .c 5 (hS.fc hc26 1) <| .r 6 2 <| .nil) (fun a hE => pld (hK21 _ _ (wp_block ?_)))
  replace hS := hS.nilrow qD.k 51
  replace hS := hS.front 2 rfl
  replace hS := hS.front 2 rfl
  refine wp_loop_ghost (fun kq37 a w' => ∃ (G : Nat → Value) (A31 : Option Addr) (c32 : Nat) (l33 : List qD) (x34 : Int) (F35 : World), kq37 ≤ k ∧ Env 48 G a ∧ At G [(7, .pointer (some ⟨b16, 0, none⟩)), (9, .slice A31 l33.length c32), (27, .slice A27 (((nth qC.z x0_.f6 x1_).f1).length) c28), (28, .int .i64 (((nth qC.z x0_.f6 x1_).f1).length : Int)), (29, .int .i64 x34)] ∧ St W (mine W []) F w' F35 [box b16 #[.int .i64 t14.1.f0, .int .i64 t14.1.f1, .int .i64 t14.1.f2, .int .i64 t14.1.f3, .int .i64 t14.1.f4] 86, box b2 #[.int .i64 x0_.f0, .int .i64 x0_.f1, .int .i64 x0_.f2, .int .i64 x0_.f3, .slice A0_4 x0_.f4.length c0_4, .slice A0_5 x0_.f5.length c0_5, .slice (some ad23) x0_.f6.length c0_6] 26, row qD.k 51 (.slice A31 l33.length c32) l33] ∧ Rd qD.k F35 A27 c28 ((nth qC.z x0_.f6 x1_).f1) ∧ Rd qA.k F35 A0_4 c0_4 x0_.f4 ∧ Rd qK.k F35 A0_5 c0_5 x0_.f5 ∧ Rd qC.k F35 (some ad23) c0_6 x0_.f6 ∧  qAs.l36 kq37 x0_ x1_ t14 l33 x34 = some r) k ⟨_, none, 0, [], 0, F, Nat.le_refl _, hE, .of, hS, g29, g0_4, g0_5, g0_6, H⟩ ?_
  rintro kq37 a u39 ⟨G, A31, c32, l33, x34, F35, hkq, hE, hA, hS, g29, g0_4, g0_5, g0_6, H⟩
  cases kq37 with
  | zero => cases (show none = some r from H)
  | succ k38 =>
   rw [qAs.l36_s] at H
   obtain ⟨J, hE⟩ := hE.at hA
   refine sq fun K40 hK40 => pl0 (plc hE (.r 0 1 .nil) (fun a hE => pld (hK40 _ _ (sq fun K41 hK41 => ?_))))
   rcases sp H with ⟨c42, H⟩ | ⟨c42, H⟩
   ·
    replace hE := hE.kt 30 c42
    refine ct hE (wp_skip (hK41 _ _ (sq fun K43 hK43 => wp_block (sq fun K44 hK44 => pl0 ?_))))
    obtain ⟨c45, H⟩ := gd H
    have hE_ := hE
    obtain ⟨ad46, rfl⟩ := g29.addr c45.1 c45.2
    replace hE := hE_
    obtain ⟨cs48, ⟨A50, c51, rfl, g52⟩, hc49⟩ := g29.el qD.z x34 c45.1 c45.2
    refine plc hE (.x 0 c45 <| .cs 1 (hS.fcs hc49) <| .nil) (fun a hE => ple hE (.al (t := 51) hS [.int .i64 0, .slice none 0 0]) ?_)
    rintro _ u54 a ⟨b53, rfl, hb53, hS, hg⟩ hE
    refine ple hE (.sto hS [.int .i64 ((nth qD.z ((nth qC.z x0_.f6 x1_).f1) x34).f0), .slice A50 (((nth qD.z ((nth qC.z x0_.f6 x1_).f1) x34).f1).length) c51]) ?_
    rintro _ u55 a ⟨rfl, hb53, hS, hz⟩ hE
    refine pld (hK44 _ _ (sq fun K56 hK56 => pl0 ?_))
    have hb16 := hS.blk_at (i := 1) rfl
    refine plc hE (.r 0 1 <| .b 1 0 hb53 <| .r 2 1 <| .b 3 1 hb16 <| .r 4 1 <| .nil) (fun a hE => pld (hK56 _ _ ?_))
    rcases sp H with ⟨c57, H⟩ | ⟨c57, H⟩
    ·
     replace hE := hE.kt 37 c57
     refine ct hE (sq fun K58 hK58 => pl0 (plc hE (.r 0 1 <| .b 1 1 hb53 <| .nil) (fun a hE => ?_)))
     obtain ⟨t60, h61, H⟩ := bd H
     refine ple hE (.cl en112 (qAN.calls ((nth qD.z ((nth qC.z x0_.f6 x1_).f1) x34).f1) _ _ _ _ _ hS.own.sub g52 h61)) ?_
     rintro _ u59 a ⟨F62, A63, c64, rfl, hC⟩ hE
     have hs := hC.sub
     replace hS := hS.called (X := []) hC
     replace g29 := g29.mono hs
     replace g52 := g52.mono hs
     replace g0_4 := g0_4.mono hs
     replace g0_5 := g0_5.mono hs
     replace g0_6 := g0_6.mono hs
     refine plc hE (.r 3 1 .nil) (fun a hE => ?_)
     replace hS := hS.front 1 rfl
     refine ple hE (.sto hS [.int .i64 ((nth qD.z ((nth qC.z x0_.f6 x1_).f1) x34).f0), .slice A63 t60.length c64]) ?_
     rintro _ u67 a ⟨rfl, hb53, hS, hz⟩ hE
     refine pld (hK58 _ _ (pl0 (plc hE (.r 0 1 <| .bn 1 0 2 hb53 <| .nil) (fun a hE => ?_))))
     replace hS := hS.front 1 rfl
     obtain ⟨F71, hs, g72, hS⟩ := hS.give
     replace g29 := g29.mono hs
     replace g52 := g52.mono hs
     replace g0_4 := g0_4.mono hs
     replace g0_5 := g0_5.mono hs
     replace g0_6 := g0_6.mono hs
     refine ple hE (.lit (d := qD.k) (e := 51) hS [(⟨(nth qD.z ((nth qC.z x0_.f6 x1_).f1) x34).f0, t60⟩ : qD)] (.cons ⟨_, _, rfl, g72⟩ .nil)) ?_
     rintro _ u68 a ⟨A69, c70, rfl, hS, hg⟩ hE
     obtain ⟨c74, H⟩ := gd H
     replace hS := hS.front 4 rfl
     refine ple hE (.ap (d := qD.k) 32 hS (qCM (hS.row_at (i := 1) rfl)) c74 c70) ?_
     rintro _ u77 a ⟨A75, c76, rfl, hS, hz⟩ hE
     refine plc hE (.r 4 1 .nil) (fun a hE => pld ?_)
     refine qCD ?_
     refine hK43 _ _ (pl0 (plc hE (.r 0 2 .nil) (fun a hE => pld ?_)))
     replace hS := hS.front 1 rfl
     replace hS := hS.tail
     replace hS := hS.front 1 rfl
     replace hS := hS.tail
     replace hS := hS.front 2 rfl
     replace hS := hS.front 2 rfl
     exact qCE ⟨k38, by omega, _, A75, c76, (l33 ++ [(⟨(nth qD.z ((nth qC.z x0_.f6 x1_).f1) x34).f0, t60⟩ : qD)]), (w64 (x34 + 1)), F71, by omega, hE, .of, hS, g29, g0_4, g0_5, g0_6, H⟩
    ·
     replace hE := hE.kf 37 c57
     refine cf hE (wp_skip ?_)
     refine qCD ?_
     refine hK43 _ _ (pl0 (plc hE (.r 0 2 .nil) (fun a hE => pld ?_)))
     replace hS := hS.tail
     exact qCE ⟨k38, by omega, _, A31, c32, l33, (w64 (x34 + 1)), F35, by omega, hE, .of, hS, g29, g0_4, g0_5, g0_6, H⟩
   ·
    replace hE := hE.kf 30 c42
    refine cf hE ?_
    refine wp_exit ?_
    refine hK20 _ _ (sq fun K79 hK79 => pl0 (plc hE (.r 0 2 .nil) (fun a hE => pld (hK79 _ _ (wp_ret ?_)))))
    replace hS := hS.tail
    replace hS := hS.tail
    obtain rfl := si H
    exact rt1 hE ⟨_, rfl, _, _, _, rfl, hS⟩
 ·
  replace hE := hE.bfn 16 c9
  refine ct hE (sq fun K10 hK10 => pl0 (plc hE (.r 0 1 .nil) (fun a hE => pld (hK10 _ _ (wp_ret (qCB ?_))))))
  replace hS := hS.nilrow qD.k 51
  replace hS := hS.front 1 rfl
  replace hS := hS.tail
  obtain rfl := si H
  exact rt1 hE ⟨_, rfl, _, _, _, rfl, hS⟩
def ql.l5 : Nat → List Int → List qI → Int → Option Int
  | 0, _, _, _ => none
  | k + 1, x0_, x1c0_, x4 => if x4 < (x0_.length : Int) then (if 0 ≤ x4 ∧ x4 < (x0_.length : Int) then ((qBD.f k (nth 0 x0_ x4) x1c0_).bind fun t21 => (if t21 = true then (some x4) else (ql.l5 k x0_ x1c0_ (w64 (x4 + 1))))) else (none)) else (some (-1))
theorem ql.l5_s (k : Nat) (x0_ : List Int) (x1c0_ : List qI) (x4 : Int) : ql.l5 (k + 1) x0_ x1c0_ x4 = (if x4 < (x0_.length : Int) then (if 0 ≤ x4 ∧ x4 < (x0_.length : Int) then ((qBD.f k (nth 0 x0_ x4) x1c0_).bind fun t21 => (if t21 = true then (some x4) else (ql.l5 k x0_ x1c0_ (w64 (x4 + 1))))) else (none)) else (some (-1))) := by kernel_rfl
def ql.f (k : Nat) (x0_ : List Int) (x1c0_ : List qI) : Option Int := ql.l5 k x0_ x1c0_ 0
def ql.Post (W F : World) (r : Int) (v : Value) (w' : World) : Prop := ∃ (F' : World), v = .int .i64 r ∧ St W (mine W []) F w' F' []
theorem ql.calls (k : Nat) (x0_ : List Int) (x1c0_ : List qI) (A0_0 : Option Addr) (c0_0 : Nat) (p1c0_ : Nat) (A1c0_0 : Option Addr) (c1c0_0 : Nat) (r : Int) (W F : World) (hown : Sub F W) (g0_0 : Rd (Kn.int .i64) F A0_0 c0_0 x0_) (g1c0_0 : Rd qI.k F A1c0_0 c1c0_0 x1c0_) (hp1c0_ : F.heap[p1c0_]? = some (.cells #[.slice A1c0_0 x1c0_.length c1c0_0] 72 (0, 0))) (H : ql.f k x0_ x1c0_ = some r) :
    Calls Tryz.prog 157 #[.slice A0_0 x0_.length c0_0, .func (.func 104) #[] #[.pointer (some ⟨p1c0_, 0, none⟩)]] W fun e w' => ∃ v, e = .returned v ∧ ql.Post W F r v w' := by
 have hS := St.start (Own.nil hown)
 unfold ql.f at H
 refine enter (n := 19) rfl rfl rfl (Nat.le_of_ble_eq_true rfl) (fun a hE => ?_)
 refine sq fun K1 hK1 => pl0 (plc hE (.r 0 1 .nil) (fun a hE => pld (hK1 _ _ (sq fun K2 hK2 => sq fun K3 hK3 => pl0 (plc hE (.r 0 3 .nil) (fun a hE => pld (hK3 _ _ (wp_block ?_))))))))
 refine wp_loop_ghost (fun kq6 a w' => ∃ (G : Nat → Value) (x4 : Int), kq6 ≤ k ∧ Env 19 G a ∧ At G [(0, .slice A0_0 x0_.length c0_0), (1, .func (.func 104) #[] #[.pointer (some ⟨p1c0_, 0, none⟩)]), (7, .int .i64 (x0_.length : Int)), (8, .int .i64 x4)] ∧ St W (mine W []) F w' F [] ∧  ql.l5 kq6 x0_ x1c0_ x4 = some r) k ⟨_, 0, Nat.le_refl _, hE, .of, hS, H⟩ ?_
 rintro kq6 a u8 ⟨G, x4, hkq, hE, hA, hS, H⟩
 cases kq6 with
 | zero => cases (show none = some r from H)
 | succ k7 =>
  rw [ql.l5_s] at H
  obtain ⟨J, hE⟩ := hE.at hA
  refine sq fun K9 hK9 => pl0 (plc hE (.r 0 1 .nil) (fun a hE => pld (hK9 _ _ (sq fun K10 hK10 => ?_))))
  rcases sp H with ⟨c11, H⟩ | ⟨c11, H⟩
  ·
   replace hE := hE.kt 9 c11
   refine ct hE (wp_skip (hK10 _ _ (sq fun K12 hK12 => wp_block (sq fun K13 hK13 => pl0 (plc hE (.r 0 2 .nil) (fun a hE => pld (hK13 _ _ (sq fun K14 hK14 => pl0 ?_))))))))
   obtain ⟨c15, H⟩ := gd H
   have hE_ := hE
   obtain ⟨ad16, rfl⟩ := g0_0.addr c15.1 c15.2
   replace hE := hE_
   obtain ⟨cs18, rfl, hc19⟩ := g0_0.el 0 x4 c15.1 c15.2
   refine plc hE (.r 0 3 <| .x 3 c15 <| .c 4 (hS.fc hc19 0) <| .nil) (fun a hE => ?_)
   obtain ⟨t21, h22, H⟩ := bd H
   refine ple hE (.cl en104 (qBD.calls k7 (nth 0 x0_ x4) x1c0_ _ _ _ _ _ _ hS.own.sub g1c0_0 hp1c0_ h22)) ?_
   rintro _ u20 a ⟨_, rfl, hC⟩ hE
   replace hS := hS.lent hC
   refine pld (hK14 _ _ ?_)
   rcases sp H with ⟨c23, H⟩ | ⟨c23, H⟩
   ·
    replace hE := hE.bt 16 c23
    refine ct hE (sq fun K24 hK24 => pl0 (plc hE (.r 0 2 .nil) (fun a hE => pld (hK24 _ _ (wp_ret (qCC (qCB (qCB (qCC (qCB ?_))))))))))
    obtain rfl := si H
    exact rt1 hE ⟨_, rfl, _, rfl, hS⟩
   ·
    replace hE := hE.bf 16 c23
    refine cf hE (wp_skip ?_)
    refine qCD ?_
    refine hK12 _ _ (pl0 (plc hE (.r 0 2 .nil) (fun a hE => pld ?_)))
    exact qCE ⟨k7, by omega, _, (w64 (x4 + 1)), by omega, hE, .of, hS, H⟩
  ·
   replace hE := hE.kf 9 c11
   refine cf hE ?_
   refine wp_exit ?_
   refine hK2 _ _ (sq fun K25 hK25 => pl0 (plc hE (.r 0 1 .nil) (fun a hE => pld (hK25 _ _ (wp_ret ?_)))))
   obtain rfl := si H
   exact rt1 hE ⟨_, rfl, _, rfl, hS⟩
def qAE.f (k : Nat) (x0_ : List Int) (x1c0_ : List qI) : Option Bool := (ql.f k x0_ x1c0_).bind fun t4 => (some (decide (t4 ≥ 0)))
def qAE.Post (W F : World) (r : Bool) (v : Value) (w' : World) : Prop := ∃ (F' : World), v = .bool r ∧ St W (mine W []) F w' F' []
theorem qAE.calls (k : Nat) (x0_ : List Int) (x1c0_ : List qI) (A0_0 : Option Addr) (c0_0 : Nat) (p1c0_ : Nat) (A1c0_0 : Option Addr) (c1c0_0 : Nat) (r : Bool) (W F : World) (hown : Sub F W) (g0_0 : Rd (Kn.int .i64) F A0_0 c0_0 x0_) (g1c0_0 : Rd qI.k F A1c0_0 c1c0_0 x1c0_) (hp1c0_ : F.heap[p1c0_]? = some (.cells #[.slice A1c0_0 x1c0_.length c1c0_0] 72 (0, 0))) (H : qAE.f k x0_ x1c0_ = some r) :
    Calls Tryz.prog 107 #[.slice A0_0 x0_.length c0_0, .func (.func 104) #[] #[.pointer (some ⟨p1c0_, 0, none⟩)]] W fun e w' => ∃ v, e = .returned v ∧ qAE.Post W F r v w' := by
 have hS := St.start (Own.nil hown)
 unfold qAE.f at H
 refine enter (n := 9) rfl rfl rfl (Nat.le_of_ble_eq_true rfl) (fun a hE => ?_)
 refine sq fun K1 hK1 => pl0 (plc hE (.r 0 1 .nil) (fun a hE => pld (hK1 _ _ (sq fun K2 hK2 => pl0 (plc hE (.r 0 2 .nil) (fun a hE => ?_))))))
 obtain ⟨t4, h5, H⟩ := bd H
 refine ple hE (.cl en157 (ql.calls k x0_ x1c0_ _ _ _ _ _ _ _ _ hS.own.sub g0_0 g1c0_0 hp1c0_ h5)) ?_
 rintro _ u3 a ⟨_, rfl, hC⟩ hE
 replace hS := hS.lent hC
 refine plc hE (.r 3 2 .nil) (fun a hE => pld (hK2 _ _ (wp_ret ?_)))
 obtain rfl := si H
 exact rt1 hE ⟨_, rfl, _, rfl, hS⟩
def qBs.f (k : Nat) (x0_ : qJ) (x1_ : Int) : Option Bool := (qBG.f k x0_.f4 x1_).bind fun t6 => (if t6.2 = true then (some t6.1.f4) else (some false))
def qBs.Post (W F : World) (r : Bool) (v : Value) (w' : World) : Prop := ∃ (F' : World), v = .bool r ∧ St W (mine W []) F w' F' []
theorem qBs.calls (k : Nat) (x0_ : qJ) (x1_ : Int) (A0_4 : Option Addr) (c0_4 : Nat) (A0_5 : Option Addr) (c0_5 : Nat) (A0_6 : Option Addr) (c0_6 : Nat) (r : Bool) (W F : World) (hown : Sub F W) (g0_4 : Rd qA.k F A0_4 c0_4 x0_.f4) (g0_5 : Rd qK.k F A0_5 c0_5 x0_.f5) (g0_6 : Rd qC.k F A0_6 c0_6 x0_.f6) (H : qBs.f k x0_ x1_ = some r) :
    Calls Tryz.prog 109 #[.agg #[.int .i64 x0_.f0, .int .i64 x0_.f1, .int .i64 x0_.f2, .int .i64 x0_.f3, .slice A0_4 x0_.f4.length c0_4, .slice A0_5 x0_.f5.length c0_5, .slice A0_6 x0_.f6.length c0_6], .int .i64 x1_] W fun e w' => ∃ v, e = .returned v ∧ qBs.Post W F r v w' := by
 have hS := St.start (Own.nil hown)
 unfold qBs.f at H
 refine enter (n := 19) rfl rfl rfl (Nat.le_of_ble_eq_true rfl) (fun a hE => ?_)
 refine sq fun K1 hK1 => pl0 (ple hE (.bx (t := 26) hS [.int .i64 x0_.f0, .int .i64 x0_.f1, .int .i64 x0_.f2, .int .i64 x0_.f3, .slice A0_4 x0_.f4.length c0_4, .slice A0_5 x0_.f5.length c0_5, .slice A0_6 x0_.f6.length c0_6]) ?_)
 rintro _ u3 a ⟨b2, rfl, hb2, hS, hg⟩ hE
 refine plc hE (.r 1 1 .nil) (fun a hE => pld (hK1 _ _ (sq fun K4 hK4 => pl0 (plc hE (.r 0 1 <| .b 1 4 hb2 <| .r 2 1 <| .nil) (fun a hE => ?_)))))
 obtain ⟨t6, h7, H⟩ := bd H
 refine ple hE (.cl en127 (qBG.calls k x0_.f4 x1_ _ _ _ _ _ hS.own.sub g0_4 h7)) ?_
 rintro _ u5 a ⟨_, rfl, hC⟩ hE
 replace hS := hS.lent hC
 refine plc hE (.r 4 3 .nil) (fun a hE => ple hE (.al (t := 104) hS [.int .i64 0, .int .i64 0, .int .i64 0, .int .i64 0, .bool false, .bool false]) ?_)
 rintro _ u9 a ⟨b8, rfl, hb8, hS, hg⟩ hE
 refine ple hE (.sto hS [.int .i64 t6.1.f0, .int .i64 t6.1.f1, .int .i64 t6.1.f2, .int .i64 t6.1.f3, .bool t6.1.f4, .bool t6.1.f5]) ?_
 rintro _ u10 a ⟨rfl, hb8, hS, hz⟩ hE
 refine plc hE (.r 9 1 .nil) (fun a hE => pld (hK4 _ _ (sq fun K11 hK11 => pl0 (plc hE (.r 0 2 .nil) (fun a hE => ?_)))))
 rcases sp H with ⟨c12, H⟩ | ⟨c12, H⟩
 ·
  replace hE := hE.bt 15 c12
  refine plc hE (.r 2 1 <| .b 3 4 hb8 <| .r 4 2 <| .nil) (fun a hE => pld (hK11 _ _ (wp_ret ?_)))
  replace hS := hS.tail
  replace hS := hS.tail
  obtain rfl := si H
  exact rt1 hE ⟨_, rfl, _, rfl, hS⟩
 ·
  replace hE := hE.bf 15 c12
  refine plc hE (.r 2 4 .nil) (fun a hE => pld (hK11 _ _ (wp_ret ?_)))
  replace hS := hS.tail
  replace hS := hS.tail
  obtain rfl := si H
  exact rt1 hE ⟨_, rfl, _, rfl, hS⟩
def qBW.f (k : Nat) (x0_ : Int) (xf0_ : qJ) : Option Bool := (qBs.f k xf0_ x0_).bind fun t4 => (some t4)
def qBW.Post (W F : World) (r : Bool) (v : Value) (w' : World) : Prop := ∃ (F' : World), v = .bool r ∧ St W (mine W []) F w' F' []
theorem qBW.calls (k : Nat) (x0_ : Int) (xf0_ : qJ) (pf0_ : Nat) (Af0_4 : Option Addr) (cf0_4 : Nat) (Af0_5 : Option Addr) (cf0_5 : Nat) (Af0_6 : Option Addr) (cf0_6 : Nat) (r : Bool) (W F : World) (hown : Sub F W) (gf0_4 : Rd qA.k F Af0_4 cf0_4 xf0_.f4) (gf0_5 : Rd qK.k F Af0_5 cf0_5 xf0_.f5) (gf0_6 : Rd qC.k F Af0_6 cf0_6 xf0_.f6) (hpf0_ : F.heap[pf0_]? = some (.cells #[.int .i64 xf0_.f0, .int .i64 xf0_.f1, .int .i64 xf0_.f2, .int .i64 xf0_.f3, .slice Af0_4 xf0_.f4.length cf0_4, .slice Af0_5 xf0_.f5.length cf0_5, .slice Af0_6 xf0_.f6.length cf0_6] 26 (0, 0))) (H : qBW.f k x0_ xf0_ = some r) :
    Calls Tryz.prog 108 #[.int .i64 x0_, .pointer (some ⟨pf0_, 0, none⟩)] W fun e w' => ∃ v, e = .returned v ∧ qBW.Post W F r v w' := by
 have hS := St.start (Own.nil hown)
 unfold qBW.f at H
 refine enter (n := 7) rfl rfl rfl (Nat.le_of_ble_eq_true rfl) (fun a hE => ?_)
 refine sq fun K1 hK1 => pl0 (plc hE (.r 0 1 .nil) (fun a hE => pld (hK1 _ _ (sq fun K2 hK2 => pl0 (plc hE (.bn 0 0 7 (hS.own.sub _ _ _ _ hpf0_) <| .r 1 1 <| .nil) (fun a hE => ?_))))))
 obtain ⟨t4, h5, H⟩ := bd H
 refine ple hE (.cl en109 (qBs.calls k xf0_ x0_ _ _ _ _ _ _ _ _ _ hS.own.sub gf0_4 gf0_5 gf0_6 h5)) ?_
 rintro _ u3 a ⟨_, rfl, hC⟩ hE
 replace hS := hS.lent hC
 refine plc hE (.r 3 1 .nil) (fun a hE => pld (hK2 _ _ (wp_ret ?_)))
 obtain rfl := si H
 exact rt1 hE ⟨_, rfl, _, rfl, hS⟩
def qm.l5 : Nat → List Int → qJ → Int → Option Int
  | 0, _, _, _ => none
  | k + 1, x0_, x1c0_, x4 => if x4 < (x0_.length : Int) then (if 0 ≤ x4 ∧ x4 < (x0_.length : Int) then ((qBW.f k (nth 0 x0_ x4) x1c0_).bind fun t21 => (if t21 = true then (some x4) else (qm.l5 k x0_ x1c0_ (w64 (x4 + 1))))) else (none)) else (some (-1))
theorem qm.l5_s (k : Nat) (x0_ : List Int) (x1c0_ : qJ) (x4 : Int) : qm.l5 (k + 1) x0_ x1c0_ x4 = (if x4 < (x0_.length : Int) then (if 0 ≤ x4 ∧ x4 < (x0_.length : Int) then ((qBW.f k (nth 0 x0_ x4) x1c0_).bind fun t21 => (if t21 = true then (some x4) else (qm.l5 k x0_ x1c0_ (w64 (x4 + 1))))) else (none)) else (some (-1))) := by kernel_rfl
def qm.f (k : Nat) (x0_ : List Int) (x1c0_ : qJ) : Option Int := qm.l5 k x0_ x1c0_ 0
def qm.Post (W F : World) (r : Int) (v : Value) (w' : World) : Prop := ∃ (F' : World), v = .int .i64 r ∧ St W (mine W []) F w' F' []
theorem qm.calls (k : Nat) (x0_ : List Int) (x1c0_ : qJ) (A0_0 : Option Addr) (c0_0 : Nat) (p1c0_ : Nat) (A1c0_4 : Option Addr) (c1c0_4 : Nat) (A1c0_5 : Option Addr) (c1c0_5 : Nat) (A1c0_6 : Option Addr) (c1c0_6 : Nat) (r : Int) (W F : World) (hown : Sub F W) (g0_0 : Rd (Kn.int .i64) F A0_0 c0_0 x0_) (g1c0_4 : Rd qA.k F A1c0_4 c1c0_4 x1c0_.f4) (g1c0_5 : Rd qK.k F A1c0_5 c1c0_5 x1c0_.f5) (g1c0_6 : Rd qC.k F A1c0_6 c1c0_6 x1c0_.f6) (hp1c0_ : F.heap[p1c0_]? = some (.cells #[.int .i64 x1c0_.f0, .int .i64 x1c0_.f1, .int .i64 x1c0_.f2, .int .i64 x1c0_.f3, .slice A1c0_4 x1c0_.f4.length c1c0_4, .slice A1c0_5 x1c0_.f5.length c1c0_5, .slice A1c0_6 x1c0_.f6.length c1c0_6] 26 (0, 0))) (H : qm.f k x0_ x1c0_ = some r) :
    Calls Tryz.prog 157 #[.slice A0_0 x0_.length c0_0, .func (.func 108) #[] #[.pointer (some ⟨p1c0_, 0, none⟩)]] W fun e w' => ∃ v, e = .returned v ∧ qm.Post W F r v w' := by
 have hS := St.start (Own.nil hown)
 unfold qm.f at H
 refine enter (n := 19) rfl rfl rfl (Nat.le_of_ble_eq_true rfl) (fun a hE => ?_)
 refine sq fun K1 hK1 => pl0 (plc hE (.r 0 1 .nil) (fun a hE => pld (hK1 _ _ (sq fun K2 hK2 => sq fun K3 hK3 => pl0 (plc hE (.r 0 3 .nil) (fun a hE => pld (hK3 _ _ (wp_block ?_))))))))
 refine wp_loop_ghost (fun kq6 a w' => ∃ (G : Nat → Value) (x4 : Int), kq6 ≤ k ∧ Env 19 G a ∧ At G [(0, .slice A0_0 x0_.length c0_0), (1, .func (.func 108) #[] #[.pointer (some ⟨p1c0_, 0, none⟩)]), (7, .int .i64 (x0_.length : Int)), (8, .int .i64 x4)] ∧ St W (mine W []) F w' F [] ∧  qm.l5 kq6 x0_ x1c0_ x4 = some r) k ⟨_, 0, Nat.le_refl _, hE, .of, hS, H⟩ ?_
 rintro kq6 a u8 ⟨G, x4, hkq, hE, hA, hS, H⟩
 cases kq6 with
 | zero => cases (show none = some r from H)
 | succ k7 =>
  rw [qm.l5_s] at H
  obtain ⟨J, hE⟩ := hE.at hA
  refine sq fun K9 hK9 => pl0 (plc hE (.r 0 1 .nil) (fun a hE => pld (hK9 _ _ (sq fun K10 hK10 => ?_))))
  rcases sp H with ⟨c11, H⟩ | ⟨c11, H⟩
  ·
   replace hE := hE.kt 9 c11
   refine ct hE (wp_skip (hK10 _ _ (sq fun K12 hK12 => wp_block (sq fun K13 hK13 => pl0 (plc hE (.r 0 2 .nil) (fun a hE => pld (hK13 _ _ (sq fun K14 hK14 => pl0 ?_))))))))
   obtain ⟨c15, H⟩ := gd H
   have hE_ := hE
   obtain ⟨ad16, rfl⟩ := g0_0.addr c15.1 c15.2
   replace hE := hE_
   obtain ⟨cs18, rfl, hc19⟩ := g0_0.el 0 x4 c15.1 c15.2
   refine plc hE (.r 0 3 <| .x 3 c15 <| .c 4 (hS.fc hc19 0) <| .nil) (fun a hE => ?_)
   obtain ⟨t21, h22, H⟩ := bd H
   refine ple hE (.cl en108 (qBW.calls k7 (nth 0 x0_ x4) x1c0_ _ _ _ _ _ _ _ _ _ _ hS.own.sub g1c0_4 g1c0_5 g1c0_6 hp1c0_ h22)) ?_
   rintro _ u20 a ⟨_, rfl, hC⟩ hE
   replace hS := hS.lent hC
   refine pld (hK14 _ _ ?_)
   rcases sp H with ⟨c23, H⟩ | ⟨c23, H⟩
   ·
    replace hE := hE.bt 16 c23
    refine ct hE (sq fun K24 hK24 => pl0 (plc hE (.r 0 2 .nil) (fun a hE => pld (hK24 _ _ (wp_ret (qCC (qCB (qCB (qCC (qCB ?_))))))))))
    obtain rfl := si H
    exact rt1 hE ⟨_, rfl, _, rfl, hS⟩
   ·
    replace hE := hE.bf 16 c23
    refine cf hE (wp_skip ?_)
    refine qCD ?_
    refine hK12 _ _ (pl0 (plc hE (.r 0 2 .nil) (fun a hE => pld ?_)))
    exact qCE ⟨k7, by omega, _, (w64 (x4 + 1)), by omega, hE, .of, hS, H⟩
  ·
   replace hE := hE.kf 9 c11
   refine cf hE ?_
   refine wp_exit ?_
   refine hK2 _ _ (sq fun K25 hK25 => pl0 (plc hE (.r 0 1 .nil) (fun a hE => pld (hK25 _ _ (wp_ret ?_)))))
   obtain rfl := si H
   exact rt1 hE ⟨_, rfl, _, rfl, hS⟩
def qAF.f (k : Nat) (x0_ : List Int) (x1c0_ : qJ) : Option Bool := (qm.f k x0_ x1c0_).bind fun t4 => (some (decide (t4 ≥ 0)))
def qAF.Post (W F : World) (r : Bool) (v : Value) (w' : World) : Prop := ∃ (F' : World), v = .bool r ∧ St W (mine W []) F w' F' []
theorem qAF.calls (k : Nat) (x0_ : List Int) (x1c0_ : qJ) (A0_0 : Option Addr) (c0_0 : Nat) (p1c0_ : Nat) (A1c0_4 : Option Addr) (c1c0_4 : Nat) (A1c0_5 : Option Addr) (c1c0_5 : Nat) (A1c0_6 : Option Addr) (c1c0_6 : Nat) (r : Bool) (W F : World) (hown : Sub F W) (g0_0 : Rd (Kn.int .i64) F A0_0 c0_0 x0_) (g1c0_4 : Rd qA.k F A1c0_4 c1c0_4 x1c0_.f4) (g1c0_5 : Rd qK.k F A1c0_5 c1c0_5 x1c0_.f5) (g1c0_6 : Rd qC.k F A1c0_6 c1c0_6 x1c0_.f6) (hp1c0_ : F.heap[p1c0_]? = some (.cells #[.int .i64 x1c0_.f0, .int .i64 x1c0_.f1, .int .i64 x1c0_.f2, .int .i64 x1c0_.f3, .slice A1c0_4 x1c0_.f4.length c1c0_4, .slice A1c0_5 x1c0_.f5.length c1c0_5, .slice A1c0_6 x1c0_.f6.length c1c0_6] 26 (0, 0))) (H : qAF.f k x0_ x1c0_ = some r) :
    Calls Tryz.prog 107 #[.slice A0_0 x0_.length c0_0, .func (.func 108) #[] #[.pointer (some ⟨p1c0_, 0, none⟩)]] W fun e w' => ∃ v, e = .returned v ∧ qAF.Post W F r v w' := by
 have hS := St.start (Own.nil hown)
 unfold qAF.f at H
 refine enter (n := 9) rfl rfl rfl (Nat.le_of_ble_eq_true rfl) (fun a hE => ?_)
 refine sq fun K1 hK1 => pl0 (plc hE (.r 0 1 .nil) (fun a hE => pld (hK1 _ _ (sq fun K2 hK2 => pl0 (plc hE (.r 0 2 .nil) (fun a hE => ?_))))))
 obtain ⟨t4, h5, H⟩ := bd H
 refine ple hE (.cl en157 (qm.calls k x0_ x1c0_ _ _ _ _ _ _ _ _ _ _ _ _ hS.own.sub g0_0 g1c0_4 g1c0_5 g1c0_6 hp1c0_ h5)) ?_
 rintro _ u3 a ⟨_, rfl, hC⟩ hE
 replace hS := hS.lent hC
 refine plc hE (.r 3 2 .nil) (fun a hE => pld (hK2 _ _ (wp_ret ?_)))
 obtain rfl := si H
 exact rt1 hE ⟨_, rfl, _, rfl, hS⟩
def qBC.f (x0_ : List Int) : Option (List Int) := sortI x0_
def qBC.Post (x0_ : List Int) (A0_0 : Option Addr) (c0_0 : Nat) (W F : World) (r : List Int) (v : Value) (w' : World) : Prop := ∃ (F' : World), v = .tuple #[] ∧ St W (mine W [row (Kn.int .i64) 3 (.slice A0_0 x0_.length c0_0) x0_]) F w' F' [row (Kn.int .i64) 3 (.slice A0_0 x0_.length c0_0) r]
theorem qBC.calls (x0_ : List Int) (A0_0 : Option Addr) (c0_0 : Nat) (r : List Int) (W F : World) (hown : Own W F [row (Kn.int .i64) 3 (.slice A0_0 x0_.length c0_0) x0_]) (H : qBC.f x0_ = some r) :
    Calls Tryz.prog 110 #[.slice A0_0 x0_.length c0_0] W fun e w' => ∃ v, e = .returned v ∧ qBC.Post x0_ A0_0 c0_0 W F r v w' := qEN Tryz.sortI hown H
end Go.Proofs.YtpohepinmjmbkaaGreat.QS
