import Derived.Test.YtpohepinmjmbkaaGreatQS7
namespace Go.Proofs.YtpohepinmjmbkaaGreat.QS
open Go Go.RowKit Go.Proofs.YtpohepinmjmbkaaGreat.Sl
set_option linter.unusedVariables false
set_option linter.unusedSimpArgs false
set_option maxHeartbeats 4000000
set_option maxRecDepth 100000
mutual
def qW.j18 : Nat → qJ → Bool → Option Bool
  | 0, _, _ => none
  | k + 1, x0_, y17 => if y17 = true then (some false) else (qW.l28 k x0_ 0)
def qW.l28 : Nat → qJ → Int → Option Bool
  | 0, _, _ => none
  | k + 1, x0_, x27 => if x27 < (x0_.f5.length : Int) then (if 0 ≤ x27 ∧ x27 < (x0_.f5.length : Int) then (if (nth qK.z x0_.f5 x27).f0 < 0 then (qW.j71 k x0_ x27 true) else (if (nth qK.z x0_.f5 x27).f0 ≥ x0_.f3 then (qW.j71 k x0_ x27 true) else (if x27 > 0 then (if 0 ≤ (w64 (x27 - 1)) ∧ (w64 (x27 - 1)) < (x0_.f5.length : Int) then (if (nth qK.z x0_.f5 (w64 (x27 - 1))).f0 ≥ (nth qK.z x0_.f5 x27).f0 then (qW.j71 k x0_ x27 true) else (if (((nth qK.z x0_.f5 x27).f1).length : Int) < 1 then (qW.j71 k x0_ x27 true) else (if (((nth qK.z x0_.f5 x27).f1).length : Int) > x0_.f1 then (qW.j71 k x0_ x27 true) else ((qo.f k x0_.f4 ((nth qK.z x0_.f5 x27).f1)).bind fun t63 => (qW.j71 k x0_ x27 (!t63)))))) else (none)) else (if (((nth qK.z x0_.f5 x27).f1).length : Int) < 1 then (qW.j71 k x0_ x27 true) else (if (((nth qK.z x0_.f5 x27).f1).length : Int) > x0_.f1 then (qW.j71 k x0_ x27 true) else ((qo.f k x0_.f4 ((nth qK.z x0_.f5 x27).f1)).bind fun t68 => (qW.j71 k x0_ x27 (!t68)))))))) else (none)) else ((qG.f k x0_).bind fun t80 => (some t80))
def qW.j71 : Nat → qJ → Int → Bool → Option Bool
  | 0, _, _, _ => none
  | k + 1, x0_, x27, y70 => if y70 = true then (some false) else (qW.l28 k x0_ (w64 (x27 + 1)))
end
theorem qW.j18_s (k : Nat) (x0_ : qJ) (y17 : Bool) : qW.j18 (k + 1) x0_ y17 = (if y17 = true then (some false) else (qW.l28 k x0_ 0)) := by kernel_rfl
theorem qW.l28_s (k : Nat) (x0_ : qJ) (x27 : Int) : qW.l28 (k + 1) x0_ x27 = (if x27 < (x0_.f5.length : Int) then (if 0 ≤ x27 ∧ x27 < (x0_.f5.length : Int) then (if (nth qK.z x0_.f5 x27).f0 < 0 then (qW.j71 k x0_ x27 true) else (if (nth qK.z x0_.f5 x27).f0 ≥ x0_.f3 then (qW.j71 k x0_ x27 true) else (if x27 > 0 then (if 0 ≤ (w64 (x27 - 1)) ∧ (w64 (x27 - 1)) < (x0_.f5.length : Int) then (if (nth qK.z x0_.f5 (w64 (x27 - 1))).f0 ≥ (nth qK.z x0_.f5 x27).f0 then (qW.j71 k x0_ x27 true) else (if (((nth qK.z x0_.f5 x27).f1).length : Int) < 1 then (qW.j71 k x0_ x27 true) else (if (((nth qK.z x0_.f5 x27).f1).length : Int) > x0_.f1 then (qW.j71 k x0_ x27 true) else ((qo.f k x0_.f4 ((nth qK.z x0_.f5 x27).f1)).bind fun t63 => (qW.j71 k x0_ x27 (!t63)))))) else (none)) else (if (((nth qK.z x0_.f5 x27).f1).length : Int) < 1 then (qW.j71 k x0_ x27 true) else (if (((nth qK.z x0_.f5 x27).f1).length : Int) > x0_.f1 then (qW.j71 k x0_ x27 true) else ((qo.f k x0_.f4 ((nth qK.z x0_.f5 x27).f1)).bind fun t68 => (qW.j71 k x0_ x27 (!t68)))))))) else (none)) else ((qG.f k x0_).bind fun t80 => (some t80))) := by kernel_rfl
theorem qW.j71_s (k : Nat) (x0_ : qJ) (x27 : Int) (y70 : Bool) : qW.j71 (k + 1) x0_ x27 y70 = (if y70 = true then (some false) else (qW.l28 k x0_ (w64 (x27 + 1)))) := by kernel_rfl
def qW.f (k : Nat) (x0_ : qJ) : Option Bool := if x0_.f0 < 0 then (qW.j18 k x0_ true) else (if x0_.f0 ≥ 2147483648 then (qW.j18 k x0_ true) else (if x0_.f1 < 1 then (qW.j18 k x0_ true) else (if x0_.f1 > 3 then (qW.j18 k x0_ true) else (if x0_.f2 < 1 then (qW.j18 k x0_ true) else (if x0_.f2 > x0_.f1 then (qW.j18 k x0_ true) else (if x0_.f3 < 1 then (qW.j18 k x0_ true) else (if x0_.f3 > 8 then (qW.j18 k x0_ true) else ((qg.f k x0_.f4).bind fun t15 => (qW.j18 k x0_ (!t15))))))))))
def qW.Post (W F : World) (r : Bool) (v : Value) (w' : World) : Prop := ∃ (F' : World), v = .bool r ∧ St W (mine W []) F w' F' []
theorem qW.calls (k : Nat) (x0_ : qJ) (A0_4 : Option Addr) (c0_4 : Nat) (A0_5 : Option Addr) (c0_5 : Nat) (A0_6 : Option Addr) (c0_6 : Nat) (r : Bool) (W F : World) (hown : Sub F W) (g0_4 : Rd qA.k F A0_4 c0_4 x0_.f4) (g0_5 : Rd qK.k F A0_5 c0_5 x0_.f5) (g0_6 : Rd qC.k F A0_6 c0_6 x0_.f6) (H : qW.f k x0_ = some r) :
    Calls Tryz.prog 19 #[.agg #[.int .i64 x0_.f0, .int .i64 x0_.f1, .int .i64 x0_.f2, .int .i64 x0_.f3, .slice A0_4 x0_.f4.length c0_4, .slice A0_5 x0_.f5.length c0_5, .slice A0_6 x0_.f6.length c0_6]] W fun e w' => ∃ v, e = .returned v ∧ qW.Post W F r v w' := by
 have hS := St.start (Own.nil hown)
 unfold qW.f at H
 refine enter (n := 113) rfl rfl rfl (Nat.le_of_ble_eq_true rfl) (fun a hE => ?_)
 refine sq fun K1 hK1 => pl0 (ple hE (.bx (t := 26) hS [.int .i64 x0_.f0, .int .i64 x0_.f1, .int .i64 x0_.f2, .int .i64 x0_.f3, .slice A0_4 x0_.f4.length c0_4, .slice A0_5 x0_.f5.length c0_5, .slice A0_6 x0_.f6.length c0_6]) ?_)
 rintro _ u3 a ⟨b2, rfl, hb2, hS, hg⟩ hE
 refine plc hE (.r 1 1 .nil) (fun a hE => pld (hK1 _ _ (sq fun K4 hK4 => sq fun K5 hK5 => ?_)))
 have J21 : ∀ kq19, kq19 ≤ k → ∀ (G : Nat → Value) (y17 : Bool) (a : Act) (w' : World), Env 113 G a → At G [(1, .pointer (some ⟨b2, 0, none⟩)), (50, .bool y17)] → St W (mine W []) F w' F [box b2 #[.int .i64 x0_.f0, .int .i64 x0_.f1, .int .i64 x0_.f2, .int .i64 x0_.f3, .slice A0_4 x0_.f4.length c0_4, .slice A0_5 x0_.f5.length c0_5, .slice A0_6 x0_.f6.length c0_6] 26] → qW.j18 kq19 x0_ y17 = some r → K5 a w' := by
  intro kq19 hkq G y17 a u22 hE hA hS H
  cases kq19 with
  | zero => cases (show none = some r from H)
  | succ k20 =>
   rw [qW.j18_s] at H
   obtain ⟨J, hE⟩ := hE.at hA
   refine hK5 _ _ ?_
   rcases sp H with ⟨c23, H⟩ | ⟨c23, H⟩
   ·
    replace hE := hE.bt 50 c23
    refine ct hE (sq fun K24 hK24 => pl0 (plc hE (.r 0 1 .nil) (fun a hE => pld (hK24 _ _ (wp_ret (qCB ?_))))))
    replace hS := hS.tail
    obtain rfl := si H
    exact rt1 hE ⟨_, rfl, _, rfl, hS⟩
   ·
    replace hE := hE.bf 50 c23
    refine cf hE (wp_skip (hK4 _ _ (sq fun K25 hK25 => sq fun K26 hK26 => pl0 (plc hE (.r 0 1 .nil) (fun a hE => pld (hK26 _ _ (wp_block ?_)))))))
    refine wp_loop_ghost (fun kq29 a w' => ∃ (G : Nat → Value) (x27 : Int), kq29 ≤ k20 ∧ Env 113 G a ∧ At G [(1, .pointer (some ⟨b2, 0, none⟩)), (3, .int .i64 x27)] ∧ St W (mine W []) F w' F [box b2 #[.int .i64 x0_.f0, .int .i64 x0_.f1, .int .i64 x0_.f2, .int .i64 x0_.f3, .slice A0_4 x0_.f4.length c0_4, .slice A0_5 x0_.f5.length c0_5, .slice A0_6 x0_.f6.length c0_6] 26] ∧  qW.l28 kq29 x0_ x27 = some r) k20 ⟨_, 0, Nat.le_refl _, hE, .of, hS, H⟩ ?_
    rintro kq29 a u31 ⟨G, x27, hkq, hE, hA, hS, H⟩
    cases kq29 with
    | zero => cases (show none = some r from H)
    | succ k30 =>
     rw [qW.l28_s] at H
     obtain ⟨J, hE⟩ := hE.at hA
     refine sq fun K32 hK32 => sq fun K33 hK33 => pl0 ?_
     have hb2 := hS.blk_at (i := 0) rfl
     refine plc hE (.r 0 2 <| .b 2 5 hb2 <| .r 3 2 <| .nil) (fun a hE => pld (hK33 _ _ ?_))
     rcases sp H with ⟨c34, H⟩ | ⟨c34, H⟩
     ·
      replace hE := hE.kt 55 c34
      refine ct hE (wp_skip (hK32 _ _ (sq fun K35 hK35 => wp_block (sq fun K36 hK36 => pl0 ?_))))
      obtain ⟨c37, H⟩ := gd H
      have hE_ := hE
      obtain ⟨ad38, rfl⟩ := g0_5.addr c37.1 c37.2
      replace hE := hE_
      obtain ⟨cs40, ⟨A42, c43, rfl, g44⟩, hc41⟩ := g0_5.el qK.z x27 c37.1 c37.2
      refine plc hE (.r 0 1 <| .b 1 5 hb2 <| .r 2 1 <| .x 3 c37 <| .cs 4 (hS.fcs hc41) <| .nil) (fun a hE => ple hE (.al (t := 97) hS [.int .i64 0, .slice none 0 0]) ?_)
      rintro _ u46 a ⟨b45, rfl, hb45, hS, hg⟩ hE
      refine ple hE (.sto hS [.int .i64 ((nth qK.z x0_.f5 x27).f0), .slice A42 (((nth qK.z x0_.f5 x27).f1).length) c43]) ?_
      rintro _ u47 a ⟨rfl, hb45, hS, hz⟩ hE
      refine pld (hK36 _ _ (sq fun K48 hK48 => ?_))
      have J74 : ∀ kq72, kq72 ≤ k30 → ∀ (G : Nat → Value) (y70 : Bool) (a : Act) (w' : World), Env 113 G a → At G [(1, .pointer (some ⟨b2, 0, none⟩)), (3, .int .i64 x27), (110, .bool y70)] → St W (mine W []) F w' F [box b45 #[.int .i64 ((nth qK.z x0_.f5 x27).f0), .slice A42 (((nth qK.z x0_.f5 x27).f1).length) c43] 97, box b2 #[.int .i64 x0_.f0, .int .i64 x0_.f1, .int .i64 x0_.f2, .int .i64 x0_.f3, .slice A0_4 x0_.f4.length c0_4, .slice (some ad38) x0_.f5.length c0_5, .slice A0_6 x0_.f6.length c0_6] 26] → qW.j71 kq72 x0_ x27 y70 = some r → K48 a w' := by
       intro kq72 hkq G y70 a u75 hE hA hS H
       cases kq72 with
       | zero => cases (show none = some r from H)
       | succ k73 =>
        rw [qW.j71_s] at H
        obtain ⟨J, hE⟩ := hE.at hA
        refine hK48 _ _ ?_
        rcases sp H with ⟨c76, H⟩ | ⟨c76, H⟩
        ·
         replace hE := hE.bt 110 c76
         refine ct hE (sq fun K77 hK77 => pl0 (plc hE (.r 0 1 .nil) (fun a hE => pld (hK77 _ _ (wp_ret (qCC (qCB (qCB (qCC (qCB ?_))))))))))
         replace hS := hS.tail
         replace hS := hS.tail
         obtain rfl := si H
         exact rt1 hE ⟨_, rfl, _, rfl, hS⟩
        ·
         replace hE := hE.bf 110 c76
         refine cf hE (wp_skip ?_)
         refine qCD ?_
         refine hK35 _ _ (pl0 (plc hE (.r 0 3 .nil) (fun a hE => pld ?_)))
         replace hS := hS.tail
         exact qCE ⟨k73, by omega, _, (w64 (x27 + 1)), by omega, hE, .of, hS, H⟩
      refine drawn 48 ⟨[], [], fun q => False⟩ mixed rfl (by kernel_rfl) (fun hst => ?_)
      replace hS := hS.drew
      have hb45 := hS.blk_at (i := 0) rfl
      refine mny 44 hst hE (.r 0 1 <| .b 1 0 hb45 <| .r 2 2 <| .nil) (fun a hE => ?_)
      rcases sp H with ⟨c49, H⟩ | ⟨c49, H⟩
      ·
       replace hE := hE.kt 66 c49
       refine mny 0 hst hE (.r 4 44 .nil) (fun a hE => ?_)
       refine dn ?_
       exact J74 _ (by omega) _ true _ _ hE .of hS H
      ·
       replace hE := hE.kf 66 c49
       have hb2 := hS.blk_at (i := 1) rfl
       refine mny 37 hst hE (.r 4 1 <| .b 5 0 hb45 <| .r 6 1 <| .b 7 3 hb2 <| .r 8 3 <| .nil) (fun a hE => ?_)
       rcases sp H with ⟨c50, H⟩ | ⟨c50, H⟩
       ·
        replace hE := hE.kt 73 c50
        refine mny 0 hst hE (.r 11 37 .nil) (fun a hE => ?_)
        refine dn ?_
        exact J74 _ (by omega) _ true _ _ hE .of hS H
       ·
        replace hE := hE.kf 73 c50
        refine mny 34 hst hE (.r 11 3 .nil) (fun a hE => ?_)
        rcases sp H with ⟨c51, H⟩ | ⟨c51, H⟩
        ·
         replace hE := hE.kt 76 c51
         obtain ⟨c52, H⟩ := gd H
         obtain ⟨cs54, ⟨A56, c57, rfl, g58⟩, hc55⟩ := g0_5.el qK.z (w64 (x27 - 1)) c52.1 c52.2
         refine mny 21 hst hE (.r 14 1 <| .b 15 5 hb2 <| .r 16 2 <| .x 18 c52 <| .r 19 1 <| .c 20 (hS.fc hc55 0) <| .r 21 1 <| .b 22 0 hb45 <| .r 23 4 <| .nil) (fun a hE => ?_)
         rcases sp H with ⟨c59, H⟩ | ⟨c59, H⟩
         ·
          replace hE := hE.kt 89 c59
          refine mny 0 hst hE (.r 27 21 .nil) (fun a hE => ?_)
          refine dn ?_
          exact J74 _ (by omega) _ true _ _ hE .of hS H
         ·
          replace hE := hE.kf 89 c59
          refine mny 15 hst hE (.r 27 1 <| .b 28 1 hb45 <| .r 29 4 <| .nil) (fun a hE => ?_)
          rcases sp H with ⟨c60, H⟩ | ⟨c60, H⟩
          ·
           replace hE := hE.kt 95 c60
           refine mny 0 hst hE (.r 33 15 .nil) (fun a hE => ?_)
           refine dn ?_
           exact J74 _ (by omega) _ true _ _ hE .of hS H
          ·
           replace hE := hE.kf 95 c60
           refine mny 7 hst hE (.r 33 1 <| .b 34 1 hb45 <| .r 35 2 <| .b 37 1 hb2 <| .r 38 3 <| .nil) (fun a hE => ?_)
           rcases sp H with ⟨c61, H⟩ | ⟨c61, H⟩
           ·
            replace hE := hE.kt 103 c61
            refine mny 0 hst hE (.r 41 7 .nil) (fun a hE => ?_)
            refine dn ?_
            exact J74 _ (by omega) _ true _ _ hE .of hS H
           ·
            replace hE := hE.kf 103 c61
            refine mny 3 hst hE (.r 41 1 <| .b 42 4 hb2 <| .r 43 1 <| .b 44 1 hb45 <| .nil) (fun a hE => ?_)
            obtain ⟨t63, h64, H⟩ := bd H
            refine on1 45 hE (.cl en68 (qo.calls k30 x0_.f4 ((nth qK.z x0_.f5 x27).f1) _ _ _ _ _ _ _ hS.own.sub g0_4 g44 h64)) ?_
            rintro _ u62 a ⟨_, rfl, hC⟩ hE
            refine ⟨.of hC.agr, ?_⟩
            replace hS := hS.lent hC
            refine mny 0 hst hE (.r 46 2 .nil) (fun a hE => ?_)
            refine dn ?_
            exact J74 _ (by omega) _ (!t63) _ _ hE .of hS H
        ·
         replace hE := hE.kf 76 c51
         refine mny 15 hst hE (.r 14 14 <| .b 28 1 hb45 <| .r 29 4 <| .nil) (fun a hE => ?_)
         rcases sp H with ⟨c65, H⟩ | ⟨c65, H⟩
         ·
          replace hE := hE.kt 95 c65
          refine mny 0 hst hE (.r 33 15 .nil) (fun a hE => ?_)
          refine dn ?_
          exact J74 _ (by omega) _ true _ _ hE .of hS H
         ·
          replace hE := hE.kf 95 c65
          refine mny 7 hst hE (.r 33 1 <| .b 34 1 hb45 <| .r 35 2 <| .b 37 1 hb2 <| .r 38 3 <| .nil) (fun a hE => ?_)
          rcases sp H with ⟨c66, H⟩ | ⟨c66, H⟩
          ·
           replace hE := hE.kt 103 c66
           refine mny 0 hst hE (.r 41 7 .nil) (fun a hE => ?_)
           refine dn ?_
           exact J74 _ (by omega) _ true _ _ hE .of hS H
          ·
           replace hE := hE.kf 103 c66
           refine mny 3 hst hE (.r 41 1 <| .b 42 4 hb2 <| .r 43 1 <| .b 44 1 hb45 <| .nil) (fun a hE => ?_)
           obtain ⟨t68, h69, H⟩ := bd H
           refine on1 45 hE (.cl en68 (qo.calls k30 x0_.f4 ((nth qK.z x0_.f5 x27).f1) _ _ _ _ _ _ _ hS.own.sub g0_4 g44 h69)) ?_
           rintro _ u67 a ⟨_, rfl, hC⟩ hE
           refine ⟨.of hC.agr, ?_⟩
           replace hS := hS.lent hC
           refine mny 0 hst hE (.r 46 2 .nil) (fun a hE => ?_)
           refine dn ?_
           exact J74 _ (by omega) _ (!t68) _ _ hE .of hS H
     ·
      replace hE := hE.kf 55 c34
      refine cf hE ?_
      refine wp_exit ?_
      refine hK25 _ _ (sq fun K78 hK78 => pl0 (plc hE (.bn 0 0 7 hb2 .nil) (fun a hE => ?_)))
      obtain ⟨t80, h81, H⟩ := bd H
      refine ple hE (.cl en69 (qG.calls k30 x0_ _ _ _ _ _ _ _ _ _ hS.own.sub g0_4 g0_5 g0_6 h81)) ?_
      rintro _ u79 a ⟨_, rfl, hC⟩ hE
      replace hS := hS.lent hC
      refine plc hE (.r 2 1 .nil) (fun a hE => pld (hK78 _ _ (wp_ret ?_)))
      replace hS := hS.tail
      obtain rfl := si H
      exact rt1 hE ⟨_, rfl, _, rfl, hS⟩
 refine pl0 (plc hE (.r 0 1 <| .b 1 0 hb2 <| .r 2 2 <| .nil) (fun a hE => ?_))
 rcases sp H with ⟨c6, H⟩ | ⟨c6, H⟩
 ·
  replace hE := hE.kt 8 c6
  refine plc hE (.r 4 42 .nil) (fun a hE => pld ?_)
  exact J21 _ (by omega) _ true _ _ hE .of hS H
 ·
  replace hE := hE.kf 8 c6
  refine plc hE (.r 4 1 <| .b 5 0 hb2 <| .r 6 3 <| .nil) (fun a hE => ?_)
  rcases sp H with ⟨c7, H⟩ | ⟨c7, H⟩
  ·
   replace hE := hE.kt 13 c7
   refine plc hE (.r 9 37 .nil) (fun a hE => pld ?_)
   exact J21 _ (by omega) _ true _ _ hE .of hS H
  ·
   replace hE := hE.kf 13 c7
   refine plc hE (.r 9 1 <| .b 10 1 hb2 <| .r 11 3 <| .nil) (fun a hE => ?_)
   rcases sp H with ⟨c8, H⟩ | ⟨c8, H⟩
   ·
    replace hE := hE.kt 18 c8
    refine plc hE (.r 14 32 .nil) (fun a hE => pld ?_)
    exact J21 _ (by omega) _ true _ _ hE .of hS H
   ·
    replace hE := hE.kf 18 c8
    refine plc hE (.r 14 1 <| .b 15 1 hb2 <| .r 16 3 <| .nil) (fun a hE => ?_)
    rcases sp H with ⟨c9, H⟩ | ⟨c9, H⟩
    ·
     replace hE := hE.kt 23 c9
     refine plc hE (.r 19 27 .nil) (fun a hE => pld ?_)
     exact J21 _ (by omega) _ true _ _ hE .of hS H
    ·
     replace hE := hE.kf 23 c9
     refine plc hE (.r 19 1 <| .b 20 2 hb2 <| .r 21 3 <| .nil) (fun a hE => ?_)
     rcases sp H with ⟨c10, H⟩ | ⟨c10, H⟩
     ·
      replace hE := hE.kt 28 c10
      refine plc hE (.r 24 22 .nil) (fun a hE => pld ?_)
      exact J21 _ (by omega) _ true _ _ hE .of hS H
     ·
      replace hE := hE.kf 28 c10
      refine plc hE (.r 24 1 <| .b 25 2 hb2 <| .r 26 1 <| .b 27 1 hb2 <| .r 28 3 <| .nil) (fun a hE => ?_)
      rcases sp H with ⟨c11, H⟩ | ⟨c11, H⟩
      ·
       replace hE := hE.kt 35 c11
       refine plc hE (.r 31 15 .nil) (fun a hE => pld ?_)
       exact J21 _ (by omega) _ true _ _ hE .of hS H
      ·
       replace hE := hE.kf 35 c11
       refine plc hE (.r 31 1 <| .b 32 3 hb2 <| .r 33 3 <| .nil) (fun a hE => ?_)
       rcases sp H with ⟨c12, H⟩ | ⟨c12, H⟩
       ·
        replace hE := hE.kt 40 c12
        refine plc hE (.r 36 10 .nil) (fun a hE => pld ?_)
        exact J21 _ (by omega) _ true _ _ hE .of hS H
       ·
        replace hE := hE.kf 40 c12
        refine plc hE (.r 36 1 <| .b 37 3 hb2 <| .r 38 3 <| .nil) (fun a hE => ?_)
        rcases sp H with ⟨c13, H⟩ | ⟨c13, H⟩
        ·
         replace hE := hE.kt 45 c13
         refine plc hE (.r 41 5 .nil) (fun a hE => pld ?_)
         exact J21 _ (by omega) _ true _ _ hE .of hS H
        ·
         replace hE := hE.kf 45 c13
         refine plc hE (.r 41 1 <| .b 42 4 hb2 <| .nil) (fun a hE => ?_)
         obtain ⟨t15, h16, H⟩ := bd H
         refine ple hE (.cl en67 (qg.calls k x0_.f4 _ _ _ _ _ hS.own.sub g0_4 h16)) ?_
         rintro _ u14 a ⟨_, rfl, hC⟩ hE
         replace hS := hS.lent hC
         refine plc hE (.r 44 2 .nil) (fun a hE => pld ?_)
         exact J21 _ (by omega) _ (!t15) _ _ hE .of hS H
mutual
def qc.l6 : Nat → List qI → Int → Option Bool
  | 0, _, _ => none
  | k + 1, x0_, x5 => if x5 < (x0_.length : Int) then (if 0 ≤ x5 ∧ x5 < (x0_.length : Int) then (if (nth qI.z x0_ x5).f0 < 1 then (qc.j35 k x0_ x5 true) else (if (nth qI.z x0_ x5).f0 > 999 then (qc.j35 k x0_ x5 true) else (if (nth qI.z x0_ x5).f1 < 0 then (qc.j35 k x0_ x5 true) else (if (nth qI.z x0_ x5).f1 > 2147483647 then (qc.j35 k x0_ x5 true) else (if (nth qI.z x0_ x5).f2 < 0 then (qc.j35 k x0_ x5 true) else (if (nth qI.z x0_ x5).f2 > 2147483647 then (qc.j35 k x0_ x5 true) else (if (nth qI.z x0_ x5).f3 < 0 then (qc.j35 k x0_ x5 true) else (if (nth qI.z x0_ x5).f3 > 2147483647 then (qc.j35 k x0_ x5 true) else (if (nth qI.z x0_ x5).f4 < 0 then (qc.j35 k x0_ x5 true) else (qc.j35 k x0_ x5 (decide ((nth qI.z x0_ x5).f4 > (nth qI.z x0_ x5).f3)))))))))))) else (none)) else (some (decide ((x0_.length : Int) ≤ 12)))
def qc.j35 : Nat → List qI → Int → Bool → Option Bool
  | 0, _, _, _ => none
  | k + 1, x0_, x5, y34 => if y34 = true then (some false) else (qc.l44 k x0_ x5 0)
def qc.l44 : Nat → List qI → Int → Int → Option Bool
  | 0, _, _, _ => none
  | k + 1, x0_, x5, x43 => if x43 < x5 then (if 0 ≤ x43 ∧ x43 < (x0_.length : Int) then (if (nth qI.z x0_ x43).f0 = (nth qI.z x0_ x5).f0 then (some false) else (qc.l44 k x0_ x5 (w64 (x43 + 1)))) else (none)) else (qc.l6 k x0_ (w64 (x5 + 1)))
end
theorem qc.l6_s (k : Nat) (x0_ : List qI) (x5 : Int) : qc.l6 (k + 1) x0_ x5 = (if x5 < (x0_.length : Int) then (if 0 ≤ x5 ∧ x5 < (x0_.length : Int) then (if (nth qI.z x0_ x5).f0 < 1 then (qc.j35 k x0_ x5 true) else (if (nth qI.z x0_ x5).f0 > 999 then (qc.j35 k x0_ x5 true) else (if (nth qI.z x0_ x5).f1 < 0 then (qc.j35 k x0_ x5 true) else (if (nth qI.z x0_ x5).f1 > 2147483647 then (qc.j35 k x0_ x5 true) else (if (nth qI.z x0_ x5).f2 < 0 then (qc.j35 k x0_ x5 true) else (if (nth qI.z x0_ x5).f2 > 2147483647 then (qc.j35 k x0_ x5 true) else (if (nth qI.z x0_ x5).f3 < 0 then (qc.j35 k x0_ x5 true) else (if (nth qI.z x0_ x5).f3 > 2147483647 then (qc.j35 k x0_ x5 true) else (if (nth qI.z x0_ x5).f4 < 0 then (qc.j35 k x0_ x5 true) else (qc.j35 k x0_ x5 (decide ((nth qI.z x0_ x5).f4 > (nth qI.z x0_ x5).f3)))))))))))) else (none)) else (some (decide ((x0_.length : Int) ≤ 12)))) := by kernel_rfl
theorem qc.j35_s (k : Nat) (x0_ : List qI) (x5 : Int) (y34 : Bool) : qc.j35 (k + 1) x0_ x5 y34 = (if y34 = true then (some false) else (qc.l44 k x0_ x5 0)) := by kernel_rfl
theorem qc.l44_s (k : Nat) (x0_ : List qI) (x5 : Int) (x43 : Int) : qc.l44 (k + 1) x0_ x5 x43 = (if x43 < x5 then (if 0 ≤ x43 ∧ x43 < (x0_.length : Int) then (if (nth qI.z x0_ x43).f0 = (nth qI.z x0_ x5).f0 then (some false) else (qc.l44 k x0_ x5 (w64 (x43 + 1)))) else (none)) else (qc.l6 k x0_ (w64 (x5 + 1)))) := by kernel_rfl
def qc.f (k : Nat) (x0_ : List qI) : Option Bool := qc.l6 k x0_ 0
def qc.Post (W F : World) (r : Bool) (v : Value) (w' : World) : Prop := ∃ (F' : World), v = .bool r ∧ St W (mine W []) F w' F' []
theorem qc.calls (k : Nat) (x0_ : List qI) (A0_0 : Option Addr) (c0_0 : Nat) (r : Bool) (W F : World) (hown : Sub F W) (g0_0 : Rd qI.k F A0_0 c0_0 x0_) (H : qc.f k x0_ = some r) :
    Calls Tryz.prog 59 #[.slice A0_0 x0_.length c0_0] W fun e w' => ∃ v, e = .returned v ∧ qc.Post W F r v w' := by
 have hS := St.start (Own.nil hown)
 unfold qc.f at H
 refine enter (n := 86) rfl rfl rfl (Nat.le_of_ble_eq_true rfl) (fun a hE => ?_)
 refine sq fun K1 hK1 => pl0 (plc hE (.r 0 1 .nil) (fun a hE => pld (hK1 _ _ (sq fun K2 hK2 => pl0 (plc hE (.r 0 1 .nil) (fun a hE => pld (hK2 _ _ (sq fun K3 hK3 => sq fun K4 hK4 => pl0 (plc hE (.r 0 1 .nil) (fun a hE => pld (hK4 _ _ (wp_block ?_))))))))))))
 refine wp_loop_ghost (fun kq7 a w' => ∃ (G : Nat → Value) (x5 : Int), kq7 ≤ k ∧ Env 86 G a ∧ At G [(0, .slice A0_0 x0_.length c0_0), (3, .int .i64 2147483647), (4, .int .i64 x5)] ∧ St W (mine W []) F w' F [] ∧  qc.l6 kq7 x0_ x5 = some r) k ⟨_, 0, Nat.le_refl _, hE, .of, hS, H⟩ ?_
 rintro kq7 a u9 ⟨G, x5, hkq, hE, hA, hS, H⟩
 cases kq7 with
 | zero => cases (show none = some r from H)
 | succ k8 =>
  rw [qc.l6_s] at H
  obtain ⟨J, hE⟩ := hE.at hA
  refine sq fun K10 hK10 => sq fun K11 hK11 => pl0 (plc hE (.r 0 4 .nil) (fun a hE => pld (hK11 _ _ ?_)))
  rcases sp H with ⟨c12, H⟩ | ⟨c12, H⟩
  ·
   replace hE := hE.kt 10 c12
   refine ct hE (wp_skip (hK10 _ _ (sq fun K13 hK13 => wp_block (sq fun K14 hK14 => pl0 ?_))))
   obtain ⟨c15, H⟩ := gd H
   have hE_ := hE
   obtain ⟨ad16, rfl⟩ := g0_0.addr c15.1 c15.2
   replace hE := hE_
   obtain ⟨cs18, rfl, hc19⟩ := g0_0.el qI.z x5 c15.1 c15.2
   refine plc hE (.r 0 2 <| .x 2 c15 <| .cs 3 (hS.fcs hc19) <| .nil) (fun a hE => ple hE (.al (t := 86) hS [.int .i64 0, .int .i64 0, .int .i64 0, .int .i64 0, .int .i64 0]) ?_)
   rintro _ u21 a ⟨b20, rfl, hb20, hS, hg⟩ hE
   refine ple hE (.sto hS [.int .i64 ((nth qI.z x0_ x5).f0), .int .i64 ((nth qI.z x0_ x5).f1), .int .i64 ((nth qI.z x0_ x5).f2), .int .i64 ((nth qI.z x0_ x5).f3), .int .i64 ((nth qI.z x0_ x5).f4)]) ?_
   rintro _ u22 a ⟨rfl, hb20, hS, hz⟩ hE
   refine pld (hK14 _ _ (sq fun K23 hK23 => sq fun K24 hK24 => ?_))
   have J38 : ∀ kq36, kq36 ≤ k8 → ∀ (G : Nat → Value) (y34 : Bool) (a : Act) (w' : World), Env 86 G a → At G [(0, .slice (some ad16) x0_.length c0_0), (3, .int .i64 2147483647), (4, .int .i64 x5), (5, .pointer (some ⟨b20, 0, none⟩)), (69, .bool y34)] → St W (mine W []) F w' F [box b20 #[.int .i64 ((nth qI.z x0_ x5).f0), .int .i64 ((nth qI.z x0_ x5).f1), .int .i64 ((nth qI.z x0_ x5).f2), .int .i64 ((nth qI.z x0_ x5).f3), .int .i64 ((nth qI.z x0_ x5).f4)] 86] → qc.j35 kq36 x0_ x5 y34 = some r → K24 a w' := by
    intro kq36 hkq G y34 a u39 hE hA hS H
    cases kq36 with
    | zero => cases (show none = some r from H)
    | succ k37 =>
     rw [qc.j35_s] at H
     obtain ⟨J, hE⟩ := hE.at hA
     refine hK24 _ _ ?_
     rcases sp H with ⟨c40, H⟩ | ⟨c40, H⟩
     ·
      replace hE := hE.bt 69 c40
      refine ct hE (sq fun K41 hK41 => pl0 (plc hE (.r 0 1 .nil) (fun a hE => pld (hK41 _ _ (wp_ret (qCB (qCC (qCB (qCB (qCC (qCB ?_)))))))))))
      replace hS := hS.tail
      obtain rfl := si H
      exact rt1 hE ⟨_, rfl, _, rfl, hS⟩
     ·
      replace hE := hE.bf 69 c40
      refine cf hE (wp_skip (hK23 _ _ (sq fun K42 hK42 => pl0 (plc hE (.r 0 1 .nil) (fun a hE => pld (hK42 _ _ (wp_block ?_)))))))
      refine wp_loop_ghost (fun kq45 a w' => ∃ (G : Nat → Value) (x43 : Int), kq45 ≤ k37 ∧ Env 86 G a ∧ At G [(0, .slice (some ad16) x0_.length c0_0), (3, .int .i64 2147483647), (4, .int .i64 x5), (5, .pointer (some ⟨b20, 0, none⟩)), (6, .int .i64 x43)] ∧ St W (mine W []) F w' F [box b20 #[.int .i64 ((nth qI.z x0_ x5).f0), .int .i64 ((nth qI.z x0_ x5).f1), .int .i64 ((nth qI.z x0_ x5).f2), .int .i64 ((nth qI.z x0_ x5).f3), .int .i64 ((nth qI.z x0_ x5).f4)] 86] ∧  qc.l44 kq45 x0_ x5 x43 = some r) k37 ⟨_, 0, Nat.le_refl _, hE, .of, hS, H⟩ ?_
      rintro kq45 a u47 ⟨G, x43, hkq, hE, hA, hS, H⟩
      cases kq45 with
      | zero => cases (show none = some r from H)
      | succ k46 =>
       rw [qc.l44_s] at H
       obtain ⟨J, hE⟩ := hE.at hA
       refine sq fun K48 hK48 => sq fun K49 hK49 => pl0 (plc hE (.r 0 3 .nil) (fun a hE => pld (hK49 _ _ ?_)))
       rcases sp H with ⟨c50, H⟩ | ⟨c50, H⟩
       ·
        replace hE := hE.kt 72 c50
        refine ct hE (wp_skip (hK48 _ _ (sq fun K51 hK51 => wp_block (sq fun K52 hK52 => ?_))))
        refine drawn 8 ⟨[], [], fun q => False⟩ mixed rfl (by kernel_rfl) (fun hst => ?_)
        replace hS := hS.drew
        obtain ⟨c53, H⟩ := gd H
        obtain ⟨cs55, rfl, hc56⟩ := g0_0.el qI.z x43 c53.1 c53.2
        have hb20 := hS.blk_at (i := 0) rfl
        refine mny 0 hst hE (.r 0 2 <| .x 2 c53 <| .r 3 1 <| .c 4 (hS.fc hc56 0) <| .r 5 1 <| .b 6 0 hb20 <| .r 7 1 <| .nil) (fun a hE => ?_)
        refine dn ?_
        refine hK52 _ _ ?_
        rcases sp H with ⟨c57, H⟩ | ⟨c57, H⟩
        ·
         replace hE := hE.kt 82 c57
         refine ct hE (sq fun K58 hK58 => pl0 (plc hE (.r 0 1 .nil) (fun a hE => pld (hK58 _ _ (wp_ret (qCC (qCB (qCB (qCC (qCC (qCB (qCB (qCC (qCB ?_))))))))))))))
         replace hS := hS.tail
         obtain rfl := si H
         exact rt1 hE ⟨_, rfl, _, rfl, hS⟩
        ·
         replace hE := hE.kf 82 c57
         refine cf hE (wp_skip ?_)
         refine qCD ?_
         refine hK51 _ _ (pl0 (plc hE (.r 0 3 .nil) (fun a hE => pld ?_)))
         exact qCE ⟨k46, by omega, _, (w64 (x43 + 1)), by omega, hE, .of, hS, H⟩
       ·
        replace hE := hE.kf 72 c50
        refine cf hE ?_
        refine wp_exit ?_
        refine hK13 _ _ (pl0 (plc hE (.r 0 3 .nil) (fun a hE => pld ?_)))
        replace hS := hS.tail
        exact qCE ⟨k46, by omega, _, (w64 (x5 + 1)), by omega, hE, .of, hS, H⟩
   refine pl0 (plc hE (.r 0 1 <| .b 1 0 hb20 <| .r 2 2 <| .nil) (fun a hE => ?_))
   rcases sp H with ⟨c25, H⟩ | ⟨c25, H⟩
   ·
    replace hE := hE.kt 20 c25
    refine plc hE (.r 4 49 .nil) (fun a hE => pld ?_)
    exact J38 _ (by omega) _ true _ _ hE .of hS H
   ·
    replace hE := hE.kf 20 c25
    refine plc hE (.r 4 1 <| .b 5 0 hb20 <| .r 6 3 <| .nil) (fun a hE => ?_)
    rcases sp H with ⟨c26, H⟩ | ⟨c26, H⟩
    ·
     replace hE := hE.kt 25 c26
     refine plc hE (.r 9 44 .nil) (fun a hE => pld ?_)
     exact J38 _ (by omega) _ true _ _ hE .of hS H
    ·
     replace hE := hE.kf 25 c26
     refine plc hE (.r 9 1 <| .b 10 1 hb20 <| .r 11 3 <| .nil) (fun a hE => ?_)
     rcases sp H with ⟨c27, H⟩ | ⟨c27, H⟩
     ·
      replace hE := hE.kt 30 c27
      refine plc hE (.r 14 39 .nil) (fun a hE => pld ?_)
      exact J38 _ (by omega) _ true _ _ hE .of hS H
     ·
      replace hE := hE.kf 30 c27
      refine plc hE (.r 14 1 <| .b 15 1 hb20 <| .r 16 4 <| .nil) (fun a hE => ?_)
      rcases sp H with ⟨c28, H⟩ | ⟨c28, H⟩
      ·
       replace hE := hE.kt 36 c28
       refine plc hE (.r 20 33 .nil) (fun a hE => pld ?_)
       exact J38 _ (by omega) _ true _ _ hE .of hS H
      ·
       replace hE := hE.kf 36 c28
       refine plc hE (.r 20 1 <| .b 21 2 hb20 <| .r 22 3 <| .nil) (fun a hE => ?_)
       rcases sp H with ⟨c29, H⟩ | ⟨c29, H⟩
       ·
        replace hE := hE.kt 41 c29
        refine plc hE (.r 25 28 .nil) (fun a hE => pld ?_)
        exact J38 _ (by omega) _ true _ _ hE .of hS H
       ·
        replace hE := hE.kf 41 c29
        refine plc hE (.r 25 1 <| .b 26 2 hb20 <| .r 27 4 <| .nil) (fun a hE => ?_)
        rcases sp H with ⟨c30, H⟩ | ⟨c30, H⟩
        ·
         replace hE := hE.kt 47 c30
         refine plc hE (.r 31 22 .nil) (fun a hE => pld ?_)
         exact J38 _ (by omega) _ true _ _ hE .of hS H
        ·
         replace hE := hE.kf 47 c30
         refine plc hE (.r 31 1 <| .b 32 3 hb20 <| .r 33 3 <| .nil) (fun a hE => ?_)
         rcases sp H with ⟨c31, H⟩ | ⟨c31, H⟩
         ·
          replace hE := hE.kt 52 c31
          refine plc hE (.r 36 17 .nil) (fun a hE => pld ?_)
          exact J38 _ (by omega) _ true _ _ hE .of hS H
         ·
          replace hE := hE.kf 52 c31
          refine plc hE (.r 36 1 <| .b 37 3 hb20 <| .r 38 4 <| .nil) (fun a hE => ?_)
          rcases sp H with ⟨c32, H⟩ | ⟨c32, H⟩
          ·
           replace hE := hE.kt 58 c32
           refine plc hE (.r 42 11 .nil) (fun a hE => pld ?_)
           exact J38 _ (by omega) _ true _ _ hE .of hS H
          ·
           replace hE := hE.kf 58 c32
           refine plc hE (.r 42 1 <| .b 43 4 hb20 <| .r 44 3 <| .nil) (fun a hE => ?_)
           rcases sp H with ⟨c33, H⟩ | ⟨c33, H⟩
           ·
            replace hE := hE.kt 63 c33
            refine plc hE (.r 47 6 .nil) (fun a hE => pld ?_)
            exact J38 _ (by omega) _ true _ _ hE .of hS H
           ·
            replace hE := hE.kf 63 c33
            refine plc hE (.r 47 1 <| .b 48 4 hb20 <| .r 49 1 <| .b 50 3 hb20 <| .r 51 2 <| .nil) (fun a hE => pld ?_)
            exact J38 _ (by omega) _ (decide ((nth qI.z x0_ x5).f4 > (nth qI.z x0_ x5).f3)) _ _ hE .of hS H
  ·
   replace hE := hE.kf 10 c12
   refine cf hE ?_
   refine wp_exit ?_
   refine hK3 _ _ (sq fun K59 hK59 => pl0 (plc hE (.r 0 4 .nil) (fun a hE => pld (hK59 _ _ (wp_ret ?_)))))
   obtain rfl := si H
   exact rt1 hE ⟨_, rfl, _, rfl, hS⟩
def qAq.f (k : Nat) (x0_ : qJ) (x1_ : Int) (x2_ : List qI) : Option Bool := (qW.f k x0_).bind fun t6 => (if t6 = true then (if x1_ ≥ 0 then (if x1_ < x0_.f3 then ((qc.f k x2_).bind fun t12 => (some t12)) else (some false)) else (some false)) else (some false))
def qAq.Post (W F : World) (r : Bool) (v : Value) (w' : World) : Prop := ∃ (F' : World), v = .bool r ∧ St W (mine W []) F w' F' []
theorem qAq.calls (k : Nat) (x0_ : qJ) (x1_ : Int) (x2_ : List qI) (A0_4 : Option Addr) (c0_4 : Nat) (A0_5 : Option Addr) (c0_5 : Nat) (A0_6 : Option Addr) (c0_6 : Nat) (A2_0 : Option Addr) (c2_0 : Nat) (r : Bool) (W F : World) (hown : Sub F W) (g0_4 : Rd qA.k F A0_4 c0_4 x0_.f4) (g0_5 : Rd qK.k F A0_5 c0_5 x0_.f5) (g0_6 : Rd qC.k F A0_6 c0_6 x0_.f6) (g2_0 : Rd qI.k F A2_0 c2_0 x2_) (H : qAq.f k x0_ x1_ x2_ = some r) :
    Calls Tryz.prog 52 #[.agg #[.int .i64 x0_.f0, .int .i64 x0_.f1, .int .i64 x0_.f2, .int .i64 x0_.f3, .slice A0_4 x0_.f4.length c0_4, .slice A0_5 x0_.f5.length c0_5, .slice A0_6 x0_.f6.length c0_6], .int .i64 x1_, .slice A2_0 x2_.length c2_0] W fun e w' => ∃ v, e = .returned v ∧ qAq.Post W F r v w' := by
 have hS := St.start (Own.nil hown)
 unfold qAq.f at H
 refine enter (n := 23) rfl rfl rfl (Nat.le_of_ble_eq_true rfl) (fun a hE => ?_)
 refine sq fun K1 hK1 => pl0 (ple hE (.bx (t := 26) hS [.int .i64 x0_.f0, .int .i64 x0_.f1, .int .i64 x0_.f2, .int .i64 x0_.f3, .slice A0_4 x0_.f4.length c0_4, .slice A0_5 x0_.f5.length c0_5, .slice A0_6 x0_.f6.length c0_6]) ?_)
 rintro _ u3 a ⟨b2, rfl, hb2, hS, hg⟩ hE
 refine plc hE (.r 1 1 .nil) (fun a hE => pld (hK1 _ _ (sq fun K4 hK4 => pl0 (plc hE (.bn 0 0 7 hb2 .nil) (fun a hE => ?_)))))
 obtain ⟨t6, h7, H⟩ := bd H
 refine ple hE (.cl en19 (qW.calls k x0_ _ _ _ _ _ _ _ _ _ hS.own.sub g0_4 g0_5 g0_6 h7)) ?_
 rintro _ u5 a ⟨_, rfl, hC⟩ hE
 replace hS := hS.lent hC
 refine plc hE (.r 2 1 .nil) (fun a hE => ?_)
 rcases sp H with ⟨c8, H⟩ | ⟨c8, H⟩
 ·
  replace hE := hE.bt 9 c8
  refine plc hE (.r 3 4 .nil) (fun a hE => ?_)
  rcases sp H with ⟨c9, H⟩ | ⟨c9, H⟩
  ·
   replace hE := hE.kt 13 c9
   have hb2 := hS.blk_at (i := 0) rfl
   refine plc hE (.r 7 2 <| .b 9 3 hb2 <| .r 10 3 <| .nil) (fun a hE => ?_)
   rcases sp H with ⟨c10, H⟩ | ⟨c10, H⟩
   ·
    replace hE := hE.kt 19 c10
    refine plc hE (.r 13 1 .nil) (fun a hE => ?_)
    obtain ⟨t12, h13, H⟩ := bd H
    refine ple hE (.cl en59 (qc.calls k x2_ _ _ _ _ _ hS.own.sub g2_0 h13)) ?_
    rintro _ u11 a ⟨_, rfl, hC⟩ hE
    replace hS := hS.lent hC
    refine plc hE (.r 15 2 .nil) (fun a hE => pld (hK4 _ _ (wp_ret ?_)))
    replace hS := hS.tail
    obtain rfl := si H
    exact rt1 hE ⟨_, rfl, _, rfl, hS⟩
   ·
    replace hE := hE.kf 19 c10
    refine plc hE (.r 13 4 .nil) (fun a hE => pld (hK4 _ _ (wp_ret ?_)))
    replace hS := hS.tail
    obtain rfl := si H
    exact rt1 hE ⟨_, rfl, _, rfl, hS⟩
  ·
   replace hE := hE.kf 13 c9
   refine plc hE (.r 7 10 .nil) (fun a hE => pld (hK4 _ _ (wp_ret ?_)))
   replace hS := hS.tail
   obtain rfl := si H
   exact rt1 hE ⟨_, rfl, _, rfl, hS⟩
 ·
  replace hE := hE.bf 9 c8
  refine plc hE (.r 3 14 .nil) (fun a hE => pld (hK4 _ _ (wp_ret ?_)))
  replace hS := hS.tail
  obtain rfl := si H
  exact rt1 hE ⟨_, rfl, _, rfl, hS⟩
def qAW.l7 : Nat → qJ → Int → Int → Option (List Int)
  | 0, _, _, _ => none
  | k + 1, x0_, x1_, x6 => if x6 < (x0_.f5.length : Int) then (if 0 ≤ x6 ∧ x6 < (x0_.f5.length : Int) then (if (nth qK.z x0_.f5 x6).f0 = x1_ then (some ((nth qK.z x0_.f5 x6).f1)) else (qAW.l7 k x0_ x1_ (w64 (x6 + 1)))) else (none)) else (some [])
theorem qAW.l7_s (k : Nat) (x0_ : qJ) (x1_ : Int) (x6 : Int) : qAW.l7 (k + 1) x0_ x1_ x6 = (if x6 < (x0_.f5.length : Int) then (if 0 ≤ x6 ∧ x6 < (x0_.f5.length : Int) then (if (nth qK.z x0_.f5 x6).f0 = x1_ then (some ((nth qK.z x0_.f5 x6).f1)) else (qAW.l7 k x0_ x1_ (w64 (x6 + 1)))) else (none)) else (some [])) := by kernel_rfl
def qAW.f (k : Nat) (x0_ : qJ) (x1_ : Int) : Option (List Int) := qAW.l7 k x0_ x1_ 0
def qAW.Post (W F : World) (r : List Int) (v : Value) (w' : World) : Prop := ∃ (F' : World) (RA0_0 : Option Addr) (rc0_0 : Nat), v = .slice RA0_0 r.length rc0_0 ∧ St W (mine W []) F w' F' [] ∧ Rd (Kn.int .i64) F' RA0_0 rc0_0 r
theorem qAW.calls (k : Nat) (x0_ : qJ) (x1_ : Int) (A0_4 : Option Addr) (c0_4 : Nat) (A0_5 : Option Addr) (c0_5 : Nat) (A0_6 : Option Addr) (c0_6 : Nat) (r : List Int) (W F : World) (hown : Sub F W) (g0_4 : Rd qA.k F A0_4 c0_4 x0_.f4) (g0_5 : Rd qK.k F A0_5 c0_5 x0_.f5) (g0_6 : Rd qC.k F A0_6 c0_6 x0_.f6) (H : qAW.f k x0_ x1_ = some r) :
    Calls Tryz.prog 72 #[.agg #[.int .i64 x0_.f0, .int .i64 x0_.f1, .int .i64 x0_.f2, .int .i64 x0_.f3, .slice A0_4 x0_.f4.length c0_4, .slice A0_5 x0_.f5.length c0_5, .slice A0_6 x0_.f6.length c0_6], .int .i64 x1_] W fun e w' => ∃ v, e = .returned v ∧ qAW.Post W F r v w' := by
 have hS := St.start (Own.nil hown)
 unfold qAW.f at H
 refine enter (n := 27) rfl rfl rfl (Nat.le_of_ble_eq_true rfl) (fun a hE => ?_)
 refine sq fun K1 hK1 => pl0 (ple hE (.bx (t := 26) hS [.int .i64 x0_.f0, .int .i64 x0_.f1, .int .i64 x0_.f2, .int .i64 x0_.f3, .slice A0_4 x0_.f4.length c0_4, .slice A0_5 x0_.f5.length c0_5, .slice A0_6 x0_.f6.length c0_6]) ?_)
 rintro _ u3 a ⟨b2, rfl, hb2, hS, hg⟩ hE
 refine plc hE (.r 1 1 .nil) (fun a hE => pld (hK1 _ _ (sq fun K4 hK4 => sq fun K5 hK5 => pl0 (plc hE (.r 0 1 .nil) (fun a hE => pld (hK5 _ _ (wp_block ?_)))))))
 refine wp_loop_ghost (fun kq8 a w' => ∃ (G : Nat → Value) (x6 : Int), kq8 ≤ k ∧ Env 27 G a ∧ At G [(1, .int .i64 x1_), (2, .pointer (some ⟨b2, 0, none⟩)), (5, .int .i64 x6)] ∧ St W (mine W []) F w' F [box b2 #[.int .i64 x0_.f0, .int .i64 x0_.f1, .int .i64 x0_.f2, .int .i64 x0_.f3, .slice A0_4 x0_.f4.length c0_4, .slice A0_5 x0_.f5.length c0_5, .slice A0_6 x0_.f6.length c0_6] 26] ∧  qAW.l7 kq8 x0_ x1_ x6 = some r) k ⟨_, 0, Nat.le_refl _, hE, .of, hS, H⟩ ?_
 rintro kq8 a u10 ⟨G, x6, hkq, hE, hA, hS, H⟩
 cases kq8 with
 | zero => cases (show none = some r from H)
 | succ k9 =>
  rw [qAW.l7_s] at H
  obtain ⟨J, hE⟩ := hE.at hA
  refine sq fun K11 hK11 => sq fun K12 hK12 => pl0 ?_
  have hb2 := hS.blk_at (i := 0) rfl
  refine plc hE (.r 0 2 <| .b 2 5 hb2 <| .r 3 2 <| .nil) (fun a hE => pld (hK12 _ _ ?_))
  rcases sp H with ⟨c13, H⟩ | ⟨c13, H⟩
  ·
   replace hE := hE.kt 10 c13
   refine ct hE (wp_skip (hK11 _ _ (sq fun K14 hK14 => wp_block (sq fun K15 hK15 => pl0 ?_))))
   obtain ⟨c16, H⟩ := gd H
   have hE_ := hE
   obtain ⟨ad17, rfl⟩ := g0_5.addr c16.1 c16.2
   replace hE := hE_
   obtain ⟨cs19, ⟨A21, c22, rfl, g23⟩, hc20⟩ := g0_5.el qK.z x6 c16.1 c16.2
   refine plc hE (.r 0 1 <| .b 1 5 hb2 <| .r 2 1 <| .x 3 c16 <| .r 4 1 <| .c 5 (hS.fc hc20 0) <| .r 6 2 <| .nil) (fun a hE => pld (hK15 _ _ ?_))
   rcases sp H with ⟨c24, H⟩ | ⟨c24, H⟩
   ·
    replace hE := hE.kt 20 c24
    refine ct hE (sq fun K25 hK25 => pl0 (plc hE (.r 0 1 <| .b 1 5 hb2 <| .r 2 1 <| .x 3 c16 <| .r 4 1 <| .c 5 (hS.fc hc20 1) <| .r 6 1 <| .nil) (fun a hE => pld (hK25 _ _ (wp_ret (qCC (qCB (qCB (qCC (qCB ?_))))))))))
    replace hS := hS.tail
    obtain rfl := si H
    exact rt1 hE ⟨_, rfl, _, _, _, rfl, hS, g23⟩
   ·
    replace hE := hE.kf 20 c24
    refine cf hE (wp_skip ?_)
    refine qCD ?_
    refine hK14 _ _ (pl0 (plc hE (.r 0 3 .nil) (fun a hE => pld ?_)))
    exact qCE ⟨k9, by omega, _, (w64 (x6 + 1)), by omega, hE, .of, hS, H⟩
  ·
   replace hE := hE.kf 10 c13
   refine cf hE ?_
   refine wp_exit ?_
   refine hK4 _ _ (sq fun K29 hK29 => pl0 (plc hE (.r 0 1 .nil) (fun a hE => pld (hK29 _ _ (wp_ret ?_)))))
   replace hS := hS.tail
   obtain rfl := si H
   exact rt1 hE ⟨_, rfl, _, _, _, rfl, hS, (Rd.nil _ _)⟩
def qAt.f (x0_ : Int) : Option (List qH) := some [(⟨1, 0, 0⟩ : qH), (⟨2, 1, x0_⟩ : qH), (⟨2, 2, 1⟩ : qH), (⟨2, 3, 1⟩ : qH), (⟨3, 0, 0⟩ : qH)]
def qAt.Post (W F : World) (r : List qH) (v : Value) (w' : World) : Prop := ∃ (F' : World) (RA0_0 : Option Addr) (rc0_0 : Nat), v = .slice RA0_0 r.length rc0_0 ∧ St W (mine W []) F w' F' [row qH.k 175 (.slice RA0_0 r.length rc0_0) r]
theorem qAt.calls (x0_ : Int) (r : List qH) (W F : World) (hown : Sub F W) (H : qAt.f x0_ = some r) :
    Calls Tryz.prog 124 #[.int .i64 x0_] W fun e w' => ∃ v, e = .returned v ∧ qAt.Post W F r v w' := by
 have hS := St.start (Own.nil hown)
 unfold qAt.f at H
 refine enter (n := 10) rfl rfl rfl (Nat.le_of_ble_eq_true rfl) (fun a hE => ?_)
 refine sq fun K1 hK1 => pl0 (plc hE (.r 0 1 .nil) (fun a hE => pld (hK1 _ _ (sq fun K2 hK2 => pl0 (plc hE (.r 0 6 .nil) (fun a hE => ple hE (.lit (d := qH.k) (e := 175) hS [(⟨1, 0, 0⟩ : qH), (⟨2, 1, x0_⟩ : qH), (⟨2, 2, 1⟩ : qH), (⟨2, 3, 1⟩ : qH), (⟨3, 0, 0⟩ : qH)] (.cons rfl <| .cons rfl <| .cons rfl <| .cons rfl <| .cons rfl .nil)) ?_))))))
 rintro _ u3 a ⟨A4, c5, rfl, hS, hg⟩ hE
 refine plc hE (.r 7 1 .nil) (fun a hE => pld (hK2 _ _ (wp_ret ?_)))
 obtain rfl := si H
 exact rt1 hE ⟨_, rfl, _, _, _, rfl, hS⟩
def qAe.f (x0_ : qA) : Option Int := if x0_.f5 = true then (some x0_.f3) else (some 0)
def qAe.Post (W F : World) (r : Int) (v : Value) (w' : World) : Prop := ∃ (F' : World), v = .int .i64 r ∧ St W (mine W []) F w' F' []
theorem qAe.calls (x0_ : qA) (r : Int) (W F : World) (hown : Sub F W) (H : qAe.f x0_ = some r) :
    Calls Tryz.prog 205 #[.agg #[.int .i64 x0_.f0, .int .i64 x0_.f1, .int .i64 x0_.f2, .int .i64 x0_.f3, .bool x0_.f4, .bool x0_.f5]] W fun e w' => ∃ v, e = .returned v ∧ qAe.Post W F r v w' := by
 have hS := St.start (Own.nil hown)
 unfold qAe.f at H
 refine enter (n := 7) rfl rfl rfl (Nat.le_of_ble_eq_true rfl) (fun a hE => ?_)
 refine sq fun K1 hK1 => pl0 (ple hE (.bx (t := 104) hS [.int .i64 x0_.f0, .int .i64 x0_.f1, .int .i64 x0_.f2, .int .i64 x0_.f3, .bool x0_.f4, .bool x0_.f5]) ?_)
 rintro _ u3 a ⟨b2, rfl, hb2, hS, hg⟩ hE
 refine plc hE (.r 1 1 .nil) (fun a hE => pld (hK1 _ _ (sq fun K4 hK4 => sq fun K5 hK5 => pl0 (plc hE (.r 0 1 <| .b 1 5 hb2 <| .nil) (fun a hE => pld (hK5 _ _ ?_))))))
 rcases sp H with ⟨c6, H⟩ | ⟨c6, H⟩
 ·
  replace hE := hE.bt 4 c6
  refine ct hE (sq fun K7 hK7 => pl0 (plc hE (.r 0 1 <| .b 1 3 hb2 <| .r 2 1 <| .nil) (fun a hE => pld (hK7 _ _ (wp_ret (qCB ?_))))))
  replace hS := hS.tail
  obtain rfl := si H
  exact rt1 hE ⟨_, rfl, _, rfl, hS⟩
 ·
  replace hE := hE.bf 4 c6
  refine cf hE (wp_skip (hK4 _ _ (sq fun K8 hK8 => pl0 (plc hE (.r 0 1 .nil) (fun a hE => pld (hK8 _ _ (wp_ret ?_)))))))
  replace hS := hS.tail
  obtain rfl := si H
  exact rt1 hE ⟨_, rfl, _, rfl, hS⟩
mutual
def qi.l14 : Nat → List qA → Int → Int → List qB → Int → Option (List qB)
  | 0, _, _, _, _, _ => none
  | k + 1, x0_, x1_, x2_, l12, x13 => if x13 < (x0_.length : Int) then (if x1_ = 0 then (if x2_ = 0 then (qi.j41 k x0_ x1_ x2_ l12 x13 true) else (if 0 ≤ x13 ∧ x13 < (x0_.length : Int) then (qi.j41 k x0_ x1_ x2_ l12 x13 ((nth qA.z x0_ x13).f2 == x2_)) else (none))) else (if 0 ≤ x13 ∧ x13 < (x0_.length : Int) then (if (nth qA.z x0_ x13).f1 = x1_ then (if x2_ = 0 then (qi.j41 k x0_ x1_ x2_ l12 x13 true) else (qi.j41 k x0_ x1_ x2_ l12 x13 ((nth qA.z x0_ x13).f2 == x2_))) else (qi.j41 k x0_ x1_ x2_ l12 x13 false)) else (none))) else (some l12)
def qi.j41 : Nat → List qA → Int → Int → List qB → Int → Bool → Option (List qB)
  | 0, _, _, _, _, _, _ => none
  | k + 1, x0_, x1_, x2_, l12, x13, y40 => if y40 = true then (if 0 ≤ x13 ∧ x13 < (x0_.length : Int) then ((qAe.f (⟨(nth qA.z x0_ x13).f0, (nth qA.z x0_ x13).f1, (nth qA.z x0_ x13).f2, (nth qA.z x0_ x13).f3, (nth qA.z x0_ x13).f4, (nth qA.z x0_ x13).f5⟩ : qA)).bind fun t56 => (if ((l12.length : Int) + ((1 : Nat) : Int)) * 16 ≤ 140737488355328 then (qi.l14 k x0_ x1_ x2_ (l12 ++ [(⟨(nth qA.z x0_ x13).f0, t56⟩ : qB)]) (w64 (x13 + 1))) else (none))) else (none)) else (qi.l14 k x0_ x1_ x2_ l12 (w64 (x13 + 1)))
end
theorem qi.l14_s (k : Nat) (x0_ : List qA) (x1_ : Int) (x2_ : Int) (l12 : List qB) (x13 : Int) : qi.l14 (k + 1) x0_ x1_ x2_ l12 x13 = (if x13 < (x0_.length : Int) then (if x1_ = 0 then (if x2_ = 0 then (qi.j41 k x0_ x1_ x2_ l12 x13 true) else (if 0 ≤ x13 ∧ x13 < (x0_.length : Int) then (qi.j41 k x0_ x1_ x2_ l12 x13 ((nth qA.z x0_ x13).f2 == x2_)) else (none))) else (if 0 ≤ x13 ∧ x13 < (x0_.length : Int) then (if (nth qA.z x0_ x13).f1 = x1_ then (if x2_ = 0 then (qi.j41 k x0_ x1_ x2_ l12 x13 true) else (qi.j41 k x0_ x1_ x2_ l12 x13 ((nth qA.z x0_ x13).f2 == x2_))) else (qi.j41 k x0_ x1_ x2_ l12 x13 false)) else (none))) else (some l12)) := by kernel_rfl
theorem qi.j41_s (k : Nat) (x0_ : List qA) (x1_ : Int) (x2_ : Int) (l12 : List qB) (x13 : Int) (y40 : Bool) : qi.j41 (k + 1) x0_ x1_ x2_ l12 x13 y40 = (if y40 = true then (if 0 ≤ x13 ∧ x13 < (x0_.length : Int) then ((qAe.f (⟨(nth qA.z x0_ x13).f0, (nth qA.z x0_ x13).f1, (nth qA.z x0_ x13).f2, (nth qA.z x0_ x13).f3, (nth qA.z x0_ x13).f4, (nth qA.z x0_ x13).f5⟩ : qA)).bind fun t56 => (if ((l12.length : Int) + ((1 : Nat) : Int)) * 16 ≤ 140737488355328 then (qi.l14 k x0_ x1_ x2_ (l12 ++ [(⟨(nth qA.z x0_ x13).f0, t56⟩ : qB)]) (w64 (x13 + 1))) else (none))) else (none)) else (qi.l14 k x0_ x1_ x2_ l12 (w64 (x13 + 1)))) := by kernel_rfl
def qi.f (k : Nat) (x0_ : List qA) (x1_ : Int) (x2_ : Int) : Option (List qB) := qi.l14 k x0_ x1_ x2_ ([] : List qB) 0
def qi.Post (W F : World) (r : List qB) (v : Value) (w' : World) : Prop := ∃ (F' : World) (RA0_0 : Option Addr) (rc0_0 : Nat), v = .slice RA0_0 r.length rc0_0 ∧ St W (mine W []) F w' F' [row qB.k 216 (.slice RA0_0 r.length rc0_0) r]
theorem qi.calls (k : Nat) (x0_ : List qA) (x1_ : Int) (x2_ : Int) (A0_0 : Option Addr) (c0_0 : Nat) (r : List qB) (W F : World) (hown : Sub F W) (g0_0 : Rd qA.k F A0_0 c0_0 x0_) (H : qi.f k x0_ x1_ x2_ = some r) :
    Calls Tryz.prog 168 #[.slice A0_0 x0_.length c0_0, .int .i64 x1_, .int .i64 x2_] W fun e w' => ∃ v, e = .returned v ∧ qi.Post W F r v w' := by
 have hS := St.start (Own.nil hown)
 unfold qi.f at H
 refine enter (n := 55) rfl rfl rfl (Nat.le_of_ble_eq_true rfl) (fun a hE => ?_)
 refine sq fun K1 hK1 => pl0 (plc hE (.r 0 1 .nil) (fun a hE => pld (hK1 _ _ (sq fun K2 hK2 => pl0 (ple hE (.lit (d := qB.k) (e := 216) hS ([] : List qB) (.nil)) ?_)))))
 rintro _ u3 a ⟨A4, c5, rfl, hS, hg⟩ hE
 refine plc hE (.r 1 1 .nil) (fun a hE => pld (hK2 _ _ (sq fun K7 hK7 => sq fun K8 hK8 => pl0 (plc hE (.r 0 1 .nil) (fun a hE => pld (hK8 _ _ (wp_block ?_)))))))
 refine wp_loop_ghost (fun kq15 a w' => ∃ (G : Nat → Value) (A10 : Option Addr) (c11 : Nat) (l12 : List qB) (x13 : Int), kq15 ≤ k ∧ Env 55 G a ∧ At G [(0, .slice A0_0 x0_.length c0_0), (1, .int .i64 x1_), (2, .int .i64 x2_), (7, .slice A10 l12.length c11), (8, .int .i64 x13)] ∧ St W (mine W []) F w' F [row qB.k 216 (.slice A10 l12.length c11) l12] ∧  qi.l14 kq15 x0_ x1_ x2_ l12 x13 = some r) k ⟨_, A4, c5, ([] : List qB), 0, Nat.le_refl _, hE, .of, hS, H⟩ ?_
 rintro kq15 a u17 ⟨G, A10, c11, l12, x13, hkq, hE, hA, hS, H⟩
 cases kq15 with
 | zero => cases (show none = some r from H)
 | succ k16 =>
  rw [qi.l14_s] at H
  obtain ⟨J, hE⟩ := hE.at hA
  refine sq fun K18 hK18 => sq fun K19 hK19 => pl0 (plc hE (.r 0 4 .nil) (fun a hE => pld (hK19 _ _ ?_)))
  rcases sp H with ⟨c20, H⟩ | ⟨c20, H⟩
  ·
   replace hE := hE.kt 13 c20
   refine ct hE (wp_skip (hK18 _ _ (sq fun K21 hK21 => wp_block (sq fun K22 hK22 => ?_))))
   have J44 : ∀ kq42, kq42 ≤ k16 → ∀ (G : Nat → Value) (y40 : Bool) (a : Act) (w' : World), Env 55 G a → At G [(0, .slice A0_0 x0_.length c0_0), (1, .int .i64 x1_), (2, .int .i64 x2_), (7, .slice A10 l12.length c11), (8, .int .i64 x13), (39, .bool y40)] → St W (mine W []) F w' F [row qB.k 216 (.slice A10 l12.length c11) l12] → qi.j41 kq42 x0_ x1_ x2_ l12 x13 y40 = some r → K22 a w' := by
    intro kq42 hkq G y40 a u45 hE hA hS H
    cases kq42 with
    | zero => cases (show none = some r from H)
    | succ k43 =>
     rw [qi.j41_s] at H
     obtain ⟨J, hE⟩ := hE.at hA
     refine hK22 _ _ ?_
     rcases sp H with ⟨c46, H⟩ | ⟨c46, H⟩
     ·
      replace hE := hE.bt 39 c46
      refine ct hE ?_
      refine drawn 15 ⟨[13], [], fun q => False⟩ mixed rfl (by kernel_rfl) (fun hst => ?_)
      replace hS := hS.drew
      obtain ⟨c47, H⟩ := gd H
      have hE_ := hE
      obtain ⟨ad48, rfl⟩ := g0_0.addr c47.1 c47.2
      replace hE := hE_
      obtain ⟨cs50, rfl, hc51⟩ := g0_0.el qA.z x13 c47.1 c47.2
      refine mny 5 hst hE (.r 0 3 <| .x 3 c47 <| .r 4 1 <| .c 5 (hS.fc hc51 0) <| .r 6 2 <| .x 8 c47 <| .cs 9 (hS.fcs hc51) <| .nil) (fun a hE => ?_)
      obtain ⟨t56, h57, H⟩ := bd H
      refine on1 10 hE (.cl en205 (qAe.calls (⟨(nth qA.z x0_ x13).f0, (nth qA.z x0_ x13).f1, (nth qA.z x0_ x13).f2, (nth qA.z x0_ x13).f3, (nth qA.z x0_ x13).f4, (nth qA.z x0_ x13).f5⟩ : qA) _ _ _ hS.own.sub h57)) ?_
      rintro _ u55 a ⟨_, rfl, hC⟩ hE
      refine ⟨.of hC.agr, ?_⟩
      replace hS := hS.lent hC
      refine mny 3 hst hE (.r 11 1 .nil) (fun a hE => ?_)
      refine on1 12 hE (.lit (d := qB.k) (e := 216) hS [(⟨(nth qA.z x0_ x13).f0, t56⟩ : qB)] (.cons rfl .nil)) ?_
      rintro _ u58 a ⟨A59, c60, rfl, hS, hg⟩ hE
      refine ⟨.of hg, ?_⟩
      obtain ⟨c62, H⟩ := gd H
      replace hS := hS.front 1 rfl
      refine on1 13 hE (.ap (d := qB.k) 16 hS (qCM (hS.row_at (i := 1) rfl)) c62 c60) ?_
      rintro _ u65 a ⟨A63, c64, rfl, hS, hz⟩ hE
      refine ⟨.d, ?_⟩
      refine mny 0 hst hE (.r 14 1 .nil) (fun a hE => ?_)
      refine dn ?_
      refine qCD ?_
      refine hK21 _ _ (pl0 (plc hE (.r 0 3 .nil) (fun a hE => pld ?_)))
      replace hS := hS.front 1 rfl
      replace hS := hS.tail
      exact qCE ⟨k43, by omega, _, A63, c64, (l12 ++ [(⟨(nth qA.z x0_ x13).f0, t56⟩ : qB)]), (w64 (x13 + 1)), by omega, hE, .of, hS, H⟩
     ·
      replace hE := hE.bf 39 c46
      refine cf hE (wp_skip ?_)
      refine qCD ?_
      refine hK21 _ _ (pl0 (plc hE (.r 0 3 .nil) (fun a hE => pld ?_)))
      exact qCE ⟨k43, by omega, _, A10, c11, l12, (w64 (x13 + 1)), by omega, hE, .of, hS, H⟩
   refine pl0 (plc hE (.r 0 3 .nil) (fun a hE => ?_))
   rcases sp H with ⟨c23, H⟩ | ⟨c23, H⟩
   ·
    replace hE := hE.kt 18 c23
    refine plc hE (.r 3 12 .nil) (fun a hE => ?_)
    rcases sp H with ⟨c24, H⟩ | ⟨c24, H⟩
    ·
     replace hE := hE.kt 30 c24
     refine plc hE (.r 15 9 .nil) (fun a hE => pld ?_)
     exact J44 _ (by omega) _ true _ _ hE .of hS H
    ·
     replace hE := hE.kf 30 c24
     obtain ⟨c25, H⟩ := gd H
     have hE_ := hE
     obtain ⟨ad26, rfl⟩ := g0_0.addr c25.1 c25.2
     replace hE := hE_
     obtain ⟨cs28, rfl, hc29⟩ := g0_0.el qA.z x13 c25.1 c25.2
     refine plc hE (.r 15 2 <| .x 17 c25 <| .r 18 1 <| .c 19 (hS.fc hc29 2) <| .r 20 4 <| .nil) (fun a hE => pld ?_)
     exact J44 _ (by omega) _ ((nth qA.z x0_ x13).f2 == x2_) _ _ hE .of hS H
   ·
    replace hE := hE.kf 18 c23
    obtain ⟨c30, H⟩ := gd H
    have hE_ := hE
    obtain ⟨ad31, rfl⟩ := g0_0.addr c30.1 c30.2
    replace hE := hE_
    obtain ⟨cs33, rfl, hc34⟩ := g0_0.el qA.z x13 c30.1 c30.2
    refine plc hE (.r 3 2 <| .x 5 c30 <| .r 6 1 <| .c 7 (hS.fc hc34 1) <| .r 8 4 <| .nil) (fun a hE => ?_)
    rcases sp H with ⟨c35, H⟩ | ⟨c35, H⟩
    ·
     replace hE := hE.kt 27 c35
     refine plc hE (.r 12 3 .nil) (fun a hE => ?_)
     rcases sp H with ⟨c36, H⟩ | ⟨c36, H⟩
     ·
      replace hE := hE.kt 30 c36
      refine plc hE (.r 15 9 .nil) (fun a hE => pld ?_)
      exact J44 _ (by omega) _ true _ _ hE .of hS H
     ·
      replace hE := hE.kf 30 c36
      refine plc hE (.r 15 2 <| .x 17 c30 <| .r 18 1 <| .c 19 (hS.fc hc34 2) <| .r 20 4 <| .nil) (fun a hE => pld ?_)
      exact J44 _ (by omega) _ ((nth qA.z x0_ x13).f2 == x2_) _ _ hE .of hS H
    ·
     replace hE := hE.kf 27 c35
     refine plc hE (.r 12 12 .nil) (fun a hE => pld ?_)
     exact J44 _ (by omega) _ false _ _ hE .of hS H
  ·
   replace hE := hE.kf 13 c20
   refine cf hE ?_
   refine wp_exit ?_
   refine hK7 _ _ (sq fun K66 hK66 => pl0 (plc hE (.r 0 2 .nil) (fun a hE => pld (hK66 _ _ (wp_ret ?_)))))
   obtain rfl := si H
   exact rt1 hE ⟨_, rfl, _, _, _, rfl, hS⟩
mutual
def qh.l14 : Nat → List qA → List Int → List qB → Int → Option (List qB)
  | 0, _, _, _, _ => none
  | k + 1, x0_, x1_, l12, x13 => if x13 ≤ 999 then (qh.l29 k x0_ x1_ l12 x13 0 false 0) else (some l12)
def qh.l29 : Nat → List qA → List Int → List qB → Int → Int → Bool → Int → Option (List qB)
  | 0, _, _, _, _, _, _, _ => none
  | k + 1, x0_, x1_, l12, x13, x26, y27, x28 => if x28 < (x0_.length : Int) then (if 0 ≤ x28 ∧ x28 < (x1_.length : Int) then (if (nth 0 x1_ x28) = x13 then (if 0 ≤ x28 ∧ x28 < (x0_.length : Int) then ((qAe.f (⟨(nth qA.z x0_ x28).f0, (nth qA.z x0_ x28).f1, (nth qA.z x0_ x28).f2, (nth qA.z x0_ x28).f3, (nth qA.z x0_ x28).f4, (nth qA.z x0_ x28).f5⟩ : qA)).bind fun t51 => (qh.l29 k x0_ x1_ l12 x13 (w64 (x26 + t51)) true (w64 (x28 + 1)))) else (none)) else (qh.l29 k x0_ x1_ l12 x13 x26 y27 (w64 (x28 + 1)))) else (none)) else (if x26 > 65536 then (qh.j57 k x0_ x1_ l12 x13 y27 65536) else (qh.j57 k x0_ x1_ l12 x13 y27 x26))
def qh.j57 : Nat → List qA → List Int → List qB → Int → Bool → Int → Option (List qB)
  | 0, _, _, _, _, _, _ => none
  | k + 1, x0_, x1_, l12, x13, y27, x56 => if y27 = true then (if ((l12.length : Int) + ((1 : Nat) : Int)) * 16 ≤ 140737488355328 then (qh.l14 k x0_ x1_ (l12 ++ [(⟨x13, x56⟩ : qB)]) (w64 (x13 + 1))) else (none)) else (qh.l14 k x0_ x1_ l12 (w64 (x13 + 1)))
end
theorem qh.l14_s (k : Nat) (x0_ : List qA) (x1_ : List Int) (l12 : List qB) (x13 : Int) : qh.l14 (k + 1) x0_ x1_ l12 x13 = (if x13 ≤ 999 then (qh.l29 k x0_ x1_ l12 x13 0 false 0) else (some l12)) := by kernel_rfl
theorem qh.l29_s (k : Nat) (x0_ : List qA) (x1_ : List Int) (l12 : List qB) (x13 : Int) (x26 : Int) (y27 : Bool) (x28 : Int) : qh.l29 (k + 1) x0_ x1_ l12 x13 x26 y27 x28 = (if x28 < (x0_.length : Int) then (if 0 ≤ x28 ∧ x28 < (x1_.length : Int) then (if (nth 0 x1_ x28) = x13 then (if 0 ≤ x28 ∧ x28 < (x0_.length : Int) then ((qAe.f (⟨(nth qA.z x0_ x28).f0, (nth qA.z x0_ x28).f1, (nth qA.z x0_ x28).f2, (nth qA.z x0_ x28).f3, (nth qA.z x0_ x28).f4, (nth qA.z x0_ x28).f5⟩ : qA)).bind fun t51 => (qh.l29 k x0_ x1_ l12 x13 (w64 (x26 + t51)) true (w64 (x28 + 1)))) else (none)) else (qh.l29 k x0_ x1_ l12 x13 x26 y27 (w64 (x28 + 1)))) else (none)) else (if x26 > 65536 then (qh.j57 k x0_ x1_ l12 x13 y27 65536) else (qh.j57 k x0_ x1_ l12 x13 y27 x26))) := by kernel_rfl
theorem qh.j57_s (k : Nat) (x0_ : List qA) (x1_ : List Int) (l12 : List qB) (x13 : Int) (y27 : Bool) (x56 : Int) : qh.j57 (k + 1) x0_ x1_ l12 x13 y27 x56 = (if y27 = true then (if ((l12.length : Int) + ((1 : Nat) : Int)) * 16 ≤ 140737488355328 then (qh.l14 k x0_ x1_ (l12 ++ [(⟨x13, x56⟩ : qB)]) (w64 (x13 + 1))) else (none)) else (qh.l14 k x0_ x1_ l12 (w64 (x13 + 1)))) := by kernel_rfl
def qh.f (k : Nat) (x0_ : List qA) (x1_ : List Int) : Option (List qB) := qh.l14 k x0_ x1_ ([] : List qB) 1
def qh.Post (W F : World) (r : List qB) (v : Value) (w' : World) : Prop := ∃ (F' : World) (RA0_0 : Option Addr) (rc0_0 : Nat), v = .slice RA0_0 r.length rc0_0 ∧ St W (mine W []) F w' F' [row qB.k 216 (.slice RA0_0 r.length rc0_0) r]
theorem qh.calls (k : Nat) (x0_ : List qA) (x1_ : List Int) (A0_0 : Option Addr) (c0_0 : Nat) (A1_0 : Option Addr) (c1_0 : Nat) (r : List qB) (W F : World) (hown : Sub F W) (g0_0 : Rd qA.k F A0_0 c0_0 x0_) (g1_0 : Rd (Kn.int .i64) F A1_0 c1_0 x1_) (H : qh.f k x0_ x1_ = some r) :
    Calls Tryz.prog 206 #[.slice A0_0 x0_.length c0_0, .slice A1_0 x1_.length c1_0] W fun e w' => ∃ v, e = .returned v ∧ qh.Post W F r v w' := by
 have hS := St.start (Own.nil hown)
 unfold qh.f at H
 refine enter (n := 44) rfl rfl rfl (Nat.le_of_ble_eq_true rfl) (fun a hE => ?_)
 refine sq fun K1 hK1 => pl0 (plc hE (.r 0 1 .nil) (fun a hE => pld (hK1 _ _ (sq fun K2 hK2 => pl0 (ple hE (.lit (d := qB.k) (e := 216) hS ([] : List qB) (.nil)) ?_)))))
 rintro _ u3 a ⟨A4, c5, rfl, hS, hg⟩ hE
 refine plc hE (.r 1 1 .nil) (fun a hE => pld (hK2 _ _ (sq fun K7 hK7 => sq fun K8 hK8 => pl0 (plc hE (.r 0 1 .nil) (fun a hE => pld (hK8 _ _ (wp_block ?_)))))))
 refine wp_loop_ghost (fun kq15 a w' => ∃ (G : Nat → Value) (A10 : Option Addr) (c11 : Nat) (l12 : List qB) (x13 : Int), kq15 ≤ k ∧ Env 44 G a ∧ At G [(0, .slice A0_0 x0_.length c0_0), (1, .slice A1_0 x1_.length c1_0), (5, .slice A10 l12.length c11), (6, .int .i64 x13)] ∧ St W (mine W []) F w' F [row qB.k 216 (.slice A10 l12.length c11) l12] ∧  qh.l14 kq15 x0_ x1_ l12 x13 = some r) k ⟨_, A4, c5, ([] : List qB), 1, Nat.le_refl _, hE, .of, hS, H⟩ ?_
 rintro kq15 a u17 ⟨G, A10, c11, l12, x13, hkq, hE, hA, hS, H⟩
 cases kq15 with
 | zero => cases (show none = some r from H)
 | succ k16 =>
  rw [qh.l14_s] at H
  obtain ⟨J, hE⟩ := hE.at hA
  refine sq fun K18 hK18 => sq fun K19 hK19 => pl0 (plc hE (.r 0 2 .nil) (fun a hE => pld (hK19 _ _ ?_)))
  rcases sp H with ⟨c20, H⟩ | ⟨c20, H⟩
  ·
   replace hE := hE.kt 12 c20
   refine ct hE (wp_skip (hK18 _ _ (sq fun K21 hK21 => wp_block (sq fun K22 hK22 => pl0 (plc hE (.r 0 1 .nil) (fun a hE => pld (hK22 _ _ (sq fun K23 hK23 => pl0 (plc hE (.r 0 1 .nil) (fun a hE => pld (hK23 _ _ (sq fun K24 hK24 => sq fun K25 hK25 => pl0 (plc hE (.r 0 1 .nil) (fun a hE => pld (hK25 _ _ (wp_block ?_))))))))))))))))
   refine wp_loop_ghost (fun kq30 a w' => ∃ (G : Nat → Value) (x26 : Int) (y27 : Bool) (x28 : Int), kq30 ≤ k16 ∧ Env 44 G a ∧ At G [(0, .slice A0_0 x0_.length c0_0), (1, .slice A1_0 x1_.length c1_0), (5, .slice A10 l12.length c11), (6, .int .i64 x13), (7, .int .i64 x26), (8, .bool y27), (9, .int .i64 x28)] ∧ St W (mine W []) F w' F [row qB.k 216 (.slice A10 l12.length c11) l12] ∧  qh.l29 kq30 x0_ x1_ l12 x13 x26 y27 x28 = some r) k16 ⟨_, 0, false, 0, Nat.le_refl _, hE, .of, hS, H⟩ ?_
   rintro kq30 a u32 ⟨G, x26, y27, x28, hkq, hE, hA, hS, H⟩
   cases kq30 with
   | zero => cases (show none = some r from H)
   | succ k31 =>
    rw [qh.l29_s] at H
    obtain ⟨J, hE⟩ := hE.at hA
    refine sq fun K33 hK33 => sq fun K34 hK34 => pl0 (plc hE (.r 0 4 .nil) (fun a hE => pld (hK34 _ _ ?_)))
    rcases sp H with ⟨c35, H⟩ | ⟨c35, H⟩
    ·
     replace hE := hE.kt 18 c35
     refine ct hE (wp_skip (hK33 _ _ (sq fun K36 hK36 => wp_block (sq fun K37 hK37 => pl0 ?_))))
     obtain ⟨c38, H⟩ := gd H
     have hE_ := hE
     obtain ⟨ad39, rfl⟩ := g1_0.addr c38.1 c38.2
     replace hE := hE_
     obtain ⟨cs41, rfl, hc42⟩ := g1_0.el 0 x28 c38.1 c38.2
     refine plc hE (.r 0 2 <| .x 2 c38 <| .c 3 (hS.fc hc42 0) <| .r 4 2 <| .nil) (fun a hE => pld (hK37 _ _ ?_))
     rcases sp H with ⟨c43, H⟩ | ⟨c43, H⟩
     ·
      replace hE := hE.kt 26 c43
      refine ct hE (sq fun K44 hK44 => pl0 ?_)
      obtain ⟨c45, H⟩ := gd H
      have hE_ := hE
      obtain ⟨ad46, rfl⟩ := g0_0.addr c45.1 c45.2
      replace hE := hE_
      obtain ⟨cs48, rfl, hc49⟩ := g0_0.el qA.z x28 c45.1 c45.2
      refine plc hE (.r 0 3 <| .x 3 c45 <| .cs 4 (hS.fcs hc49) <| .nil) (fun a hE => ?_)
      obtain ⟨t51, h52, H⟩ := bd H
      refine ple hE (.cl en205 (qAe.calls (⟨(nth qA.z x0_ x28).f0, (nth qA.z x0_ x28).f1, (nth qA.z x0_ x28).f2, (nth qA.z x0_ x28).f3, (nth qA.z x0_ x28).f4, (nth qA.z x0_ x28).f5⟩ : qA) _ _ _ hS.own.sub h52)) ?_
      rintro _ u50 a ⟨_, rfl, hC⟩ hE
      replace hS := hS.lent hC
      refine plc hE (.r 6 2 .nil) (fun a hE => pld (hK44 _ _ (pl0 (plc hE (.r 0 1 .nil) (fun a hE => pld ?_)))))
      refine qCD ?_
      refine hK36 _ _ (pl0 (plc hE (.r 0 3 .nil) (fun a hE => pld ?_)))
      exact qCE ⟨k31, by omega, _, (w64 (x26 + t51)), true, (w64 (x28 + 1)), by omega, hE, .of, hS, H⟩
     ·
      replace hE := hE.kf 26 c43
      refine cf hE (wp_skip ?_)
      refine qCD ?_
      refine hK36 _ _ (pl0 (plc hE (.r 0 3 .nil) (fun a hE => pld ?_)))
      exact qCE ⟨k31, by omega, _, x26, y27, (w64 (x28 + 1)), by omega, hE, .of, hS, H⟩
    ·
     replace hE := hE.kf 18 c35
     refine cf hE ?_
     refine wp_exit ?_
     refine hK24 _ _ (sq fun K53 hK53 => ?_)
     have J60 : ∀ kq58, kq58 ≤ k31 → ∀ (G : Nat → Value) (x56 : Int) (a : Act) (w' : World), Env 44 G a → At G [(0, .slice A0_0 x0_.length c0_0), (1, .slice A1_0 x1_.length c1_0), (5, .slice A10 l12.length c11), (6, .int .i64 x13), (7, .int .i64 x56), (8, .bool y27)] → St W (mine W []) F w' F [row qB.k 216 (.slice A10 l12.length c11) l12] → qh.j57 kq58 x0_ x1_ l12 x13 y27 x56 = some r → K53 a w' := by
      intro kq58 hkq G x56 a u61 hE hA hS H
      cases kq58 with
      | zero => cases (show none = some r from H)
      | succ k59 =>
       rw [qh.j57_s] at H
       obtain ⟨J, hE⟩ := hE.at hA
       refine hK53 _ _ (sq fun K62 hK62 => pl0 (plc hE (.r 0 1 .nil) (fun a hE => pld (hK62 _ _ ?_))))
       rcases sp H with ⟨c63, H⟩ | ⟨c63, H⟩
       ·
        replace hE := hE.bt 36 c63
        refine ct hE (pl0 (plc hE (.r 0 4 .nil) (fun a hE => ple hE (.lit (d := qB.k) (e := 216) hS [(⟨x13, x56⟩ : qB)] (.cons rfl .nil)) ?_)))
        rintro _ u64 a ⟨A65, c66, rfl, hS, hg⟩ hE
        obtain ⟨c68, H⟩ := gd H
        replace hS := hS.front 1 rfl
        refine ple hE (.ap (d := qB.k) 16 hS (qCM (hS.row_at (i := 1) rfl)) c68 c66) ?_
        rintro _ u71 a ⟨A69, c70, rfl, hS, hz⟩ hE
        refine plc hE (.r 6 1 .nil) (fun a hE => pld ?_)
        refine qCD ?_
        refine hK21 _ _ (pl0 (plc hE (.r 0 3 .nil) (fun a hE => pld ?_)))
        replace hS := hS.front 1 rfl
        replace hS := hS.tail
        exact qCE ⟨k59, by omega, _, A69, c70, (l12 ++ [(⟨x13, x56⟩ : qB)]), (w64 (x13 + 1)), by omega, hE, .of, hS, H⟩
       ·
        replace hE := hE.bf 36 c63
        refine cf hE (wp_skip ?_)
        refine qCD ?_
        refine hK21 _ _ (pl0 (plc hE (.r 0 3 .nil) (fun a hE => pld ?_)))
        exact qCE ⟨k59, by omega, _, A10, c11, l12, (w64 (x13 + 1)), by omega, hE, .of, hS, H⟩
     refine sq fun K54 hK54 => pl0 (plc hE (.r 0 2 .nil) (fun a hE => pld (hK54 _ _ ?_)))
     rcases sp H with ⟨c55, H⟩ | ⟨c55, H⟩
     ·
      replace hE := hE.kt 35 c55
      refine ct hE (pl0 (plc hE (.r 0 1 .nil) (fun a hE => pld ?_)))
      exact J60 _ (by omega) _ 65536 _ _ hE .of hS H
     ·
      replace hE := hE.kf 35 c55
      refine cf hE (wp_skip ?_)
      exact J60 _ (by omega) _ x26 _ _ hE .of hS H
  ·
   replace hE := hE.kf 12 c20
   refine cf hE ?_
   refine wp_exit ?_
   refine hK7 _ _ (sq fun K72 hK72 => pl0 (plc hE (.r 0 2 .nil) (fun a hE => pld (hK72 _ _ (wp_ret ?_)))))
   obtain rfl := si H
   exact rt1 hE ⟨_, rfl, _, _, _, rfl, hS⟩
def qAQ.l12 : Nat → List qA → List Int → Int → Option (List qB)
  | 0, _, _, _ => none
  | k + 1, x0_, l10, x11 => if x11 < (x0_.length : Int) then (if 0 ≤ x11 ∧ x11 < (x0_.length : Int) then (if 0 ≤ x11 ∧ x11 < ((List.replicate ((x0_.length : Int)).toNat (0 : Int)).length : Int) then (qAQ.l12 k x0_ (l10.set (x11).toNat ((nth qA.z x0_ x11).f1)) (w64 (x11 + 1))) else (none)) else (none)) else ((qh.f k x0_ l10).bind fun t40 => (some t40))
theorem qAQ.l12_s (k : Nat) (x0_ : List qA) (l10 : List Int) (x11 : Int) : qAQ.l12 (k + 1) x0_ l10 x11 = (if x11 < (x0_.length : Int) then (if 0 ≤ x11 ∧ x11 < (x0_.length : Int) then (if 0 ≤ x11 ∧ x11 < ((List.replicate ((x0_.length : Int)).toNat (0 : Int)).length : Int) then (qAQ.l12 k x0_ (l10.set (x11).toNat ((nth qA.z x0_ x11).f1)) (w64 (x11 + 1))) else (none)) else (none)) else ((qh.f k x0_ l10).bind fun t40 => (some t40))) := by kernel_rfl
def qAQ.f (k : Nat) (x0_ : List qA) : Option (List qB) := if 0 ≤ (x0_.length : Int) ∧ (x0_.length : Int) * 8 ≤ 140737488355328 then (qAQ.l12 k x0_ (List.replicate ((x0_.length : Int)).toNat (0 : Int)) 0) else (none)
def qAQ.Post (W F : World) (r : List qB) (v : Value) (w' : World) : Prop := ∃ (F' : World) (RA0_0 : Option Addr) (rc0_0 : Nat), v = .slice RA0_0 r.length rc0_0 ∧ St W (mine W []) F w' F' [row qB.k 216 (.slice RA0_0 r.length rc0_0) r]
theorem qAQ.calls (k : Nat) (x0_ : List qA) (A0_0 : Option Addr) (c0_0 : Nat) (r : List qB) (W F : World) (hown : Sub F W) (g0_0 : Rd qA.k F A0_0 c0_0 x0_) (H : qAQ.f k x0_ = some r) :
    Calls Tryz.prog 169 #[.slice A0_0 x0_.length c0_0] W fun e w' => ∃ v, e = .returned v ∧ qAQ.Post W F r v w' := by
 have hS := St.start (Own.nil hown)
 unfold qAQ.f at H
 refine enter (n := 25) rfl rfl rfl (Nat.le_of_ble_eq_true rfl) (fun a hE => ?_)
 refine sq fun K1 hK1 => pl0 (plc hE (.r 0 1 .nil) (fun a hE => pld (hK1 _ _ (sq fun K2 hK2 => pl0 (plc hE (.r 0 2 .nil) (fun a hE => ?_))))))
 obtain ⟨c3, H⟩ := gd H
 refine ple hE (.mk (d := (Kn.int .i64)) (e := 3) 8 0 hS c3 (by rw [zr3]; exact rfl)) ?_
 rintro _ u6 a ⟨A4, c5, rfl, hS, hg⟩ hE
 refine plc hE (.r 3 1 .nil) (fun a hE => pld (hK2 _ _ (sq fun K8 hK8 => sq fun K9 hK9 => pl0 (plc hE (.r 0 1 .nil) (fun a hE => pld (hK9 _ _ (wp_block ?_)))))))
 refine wp_loop_ghost (fun kq13 a w' => ∃ (G : Nat → Value) (l10 : List Int) (x11 : Int), kq13 ≤ k ∧ Env 25 G a ∧ At G [(0, .slice A0_0 x0_.length c0_0), (3, .slice A4 ((List.replicate ((x0_.length : Int)).toNat (0 : Int)).length) c5), (4, .int .i64 x11)] ∧ St W (mine W []) F w' F [row (Kn.int .i64) 3 (.slice A4 ((List.replicate ((x0_.length : Int)).toNat (0 : Int)).length) c5) l10] ∧  qAQ.l12 kq13 x0_ l10 x11 = some r) k ⟨_, (List.replicate ((x0_.length : Int)).toNat (0 : Int)), 0, Nat.le_refl _, hE, .of, hS, H⟩ ?_
 rintro kq13 a u15 ⟨G, l10, x11, hkq, hE, hA, hS, H⟩
 cases kq13 with
 | zero => cases (show none = some r from H)
 | succ k14 =>
  rw [qAQ.l12_s] at H
  obtain ⟨J, hE⟩ := hE.at hA
  refine sq fun K16 hK16 => sq fun K17 hK17 => pl0 (plc hE (.r 0 4 .nil) (fun a hE => pld (hK17 _ _ ?_)))
  rcases sp H with ⟨c18, H⟩ | ⟨c18, H⟩
  ·
   replace hE := hE.kt 11 c18
   refine ct hE (wp_skip (hK16 _ _ (sq fun K19 hK19 => wp_block (pl0 ?_))))
   obtain ⟨c20, H⟩ := gd H
   have hE_ := hE
   obtain ⟨ad21, rfl⟩ := g0_0.addr c20.1 c20.2
   replace hE := hE_
   obtain ⟨cs23, rfl, hc24⟩ := g0_0.el qA.z x11 c20.1 c20.2
   obtain ⟨c25, H⟩ := gd H
   have hr26 := hS.row_at (i := 0) rfl
   have c27 : 0 ≤ x11 ∧ x11 < (l10.length : Int) := by rw [← (qCF hr26).1]; exact c25
   have hE_ := hE
   obtain ⟨b28, rfl⟩ := qCI hr26 c27.1 c27.2
   replace hE := hE_
   have hr_ := hS.row_at (i := 0) rfl
   obtain ⟨cs30, rfl, hc31⟩ := qCG hr_ 0 x11 c27.1 c27.2
   refine plc hE (.r 0 4 <| .x 4 c20 <| .r 5 1 <| .c 6 (hS.fc hc24 1) <| .x 7 c25 <| .nil) (fun a hE => ?_)
   obtain ⟨cs33, rfl, hc34⟩ := qCG (hS.row_at (i := 0) rfl) 0 x11 c27.1 c27.2
   refine ple hE (.set (d := (Kn.int .i64)) (n := (List.replicate ((x0_.length : Int)).toNat (0 : Int)).length) (i := x11) ((nth qA.z x0_ x11).f1) (0) (ea0 _ _) hS c27 [.int .i64 (nth 0 l10 x11)] hc34 [.int .i64 ((nth qA.z x0_ x11).f1)] rfl) ?_
   rintro _ u32 a ⟨rfl, hS, hz⟩ hE
   refine pld ?_
   refine qCD ?_
   refine hK19 _ _ (pl0 (plc hE (.r 0 3 .nil) (fun a hE => pld ?_)))
   exact qCE ⟨k14, by omega, _, (l10.set (x11).toNat ((nth qA.z x0_ x11).f1)), (w64 (x11 + 1)), by omega, hE, .of, hS, H⟩
  ·
   replace hE := hE.kf 11 c18
   refine cf hE ?_
   refine wp_exit ?_
   refine hK8 _ _ (sq fun K35 hK35 => pl0 (plc hE (.r 0 2 .nil) (fun a hE => ?_)))
   have hn36 := (qCF (hS.row_at (i := 0) rfl)).1
   replace hE := hE.set (d := 3) (v := .slice A4 l10.length c5) (Eq.trans (b := .slice A4 ((List.replicate ((x0_.length : Int)).toNat (0 : Int)).length) c5) (by kernel_rfl) (by rw [← hn36]))
   replace hE := hE.set (d := 23) (v := .slice A4 l10.length c5) (Eq.trans (b := .slice A4 ((List.replicate ((x0_.length : Int)).toNat (0 : Int)).length) c5) (by kernel_rfl) (by rw [← hn36]))
   replace hS : St W (mine W []) F u15 F [row (Kn.int .i64) 3 (.slice A4 l10.length c5) l10] := by rw [← hn36]; exact hS
   obtain ⟨F37, hs, g38, hS⟩ := hS.give
   replace g0_0 := g0_0.mono hs
   obtain ⟨t40, h41, H⟩ := bd H
   refine ple hE (.cl en206 (qh.calls k14 x0_ l10 _ _ _ _ _ _ _ hS.own.sub g0_0 g38 h41)) ?_
   rintro _ u39 a ⟨F42, A43, c44, rfl, hC⟩ hE
   have hs := hC.sub
   replace hS := hS.called (X := []) hC
   replace g0_0 := g0_0.mono hs
   replace g38 := g38.mono hs
   refine plc hE (.r 3 1 .nil) (fun a hE => pld (hK35 _ _ (wp_ret ?_)))
   obtain rfl := si H
   exact rt1 hE ⟨_, rfl, _, _, _, rfl, hS⟩
def qAI.l12 : Nat → List qA → Int → List Int → Int → Option (List qB)
  | 0, _, _, _, _ => none
  | k + 1, x0_, x1_, l10, x11 => if x11 < (x0_.length : Int) then (if 0 ≤ x11 ∧ x11 < (x0_.length : Int) then (if (nth qA.z x0_ x11).f1 = x1_ then (if 0 ≤ x11 ∧ x11 < ((List.replicate ((x0_.length : Int)).toNat (0 : Int)).length : Int) then (qAI.l12 k x0_ x1_ (l10.set (x11).toNat ((nth qA.z x0_ x11).f2)) (w64 (x11 + 1))) else (none)) else (qAI.l12 k x0_ x1_ l10 (w64 (x11 + 1)))) else (none)) else ((qh.f k x0_ l10).bind fun t45 => (some t45))
theorem qAI.l12_s (k : Nat) (x0_ : List qA) (x1_ : Int) (l10 : List Int) (x11 : Int) : qAI.l12 (k + 1) x0_ x1_ l10 x11 = (if x11 < (x0_.length : Int) then (if 0 ≤ x11 ∧ x11 < (x0_.length : Int) then (if (nth qA.z x0_ x11).f1 = x1_ then (if 0 ≤ x11 ∧ x11 < ((List.replicate ((x0_.length : Int)).toNat (0 : Int)).length : Int) then (qAI.l12 k x0_ x1_ (l10.set (x11).toNat ((nth qA.z x0_ x11).f2)) (w64 (x11 + 1))) else (none)) else (qAI.l12 k x0_ x1_ l10 (w64 (x11 + 1)))) else (none)) else ((qh.f k x0_ l10).bind fun t45 => (some t45))) := by kernel_rfl
def qAI.f (k : Nat) (x0_ : List qA) (x1_ : Int) : Option (List qB) := if 0 ≤ (x0_.length : Int) ∧ (x0_.length : Int) * 8 ≤ 140737488355328 then (qAI.l12 k x0_ x1_ (List.replicate ((x0_.length : Int)).toNat (0 : Int)) 0) else (none)
def qAI.Post (W F : World) (r : List qB) (v : Value) (w' : World) : Prop := ∃ (F' : World) (RA0_0 : Option Addr) (rc0_0 : Nat), v = .slice RA0_0 r.length rc0_0 ∧ St W (mine W []) F w' F' [row qB.k 216 (.slice RA0_0 r.length rc0_0) r]
theorem qAI.calls (k : Nat) (x0_ : List qA) (x1_ : Int) (A0_0 : Option Addr) (c0_0 : Nat) (r : List qB) (W F : World) (hown : Sub F W) (g0_0 : Rd qA.k F A0_0 c0_0 x0_) (H : qAI.f k x0_ x1_ = some r) :
    Calls Tryz.prog 170 #[.slice A0_0 x0_.length c0_0, .int .i64 x1_] W fun e w' => ∃ v, e = .returned v ∧ qAI.Post W F r v w' := by
 have hS := St.start (Own.nil hown)
 unfold qAI.f at H
 refine enter (n := 34) rfl rfl rfl (Nat.le_of_ble_eq_true rfl) (fun a hE => ?_)
 refine sq fun K1 hK1 => pl0 (plc hE (.r 0 1 .nil) (fun a hE => pld (hK1 _ _ (sq fun K2 hK2 => pl0 (plc hE (.r 0 2 .nil) (fun a hE => ?_))))))
 obtain ⟨c3, H⟩ := gd H
 refine ple hE (.mk (d := (Kn.int .i64)) (e := 3) 8 0 hS c3 (by rw [zr3]; exact rfl)) ?_
 rintro _ u6 a ⟨A4, c5, rfl, hS, hg⟩ hE
 refine plc hE (.r 3 1 .nil) (fun a hE => pld (hK2 _ _ (sq fun K8 hK8 => sq fun K9 hK9 => pl0 (plc hE (.r 0 1 .nil) (fun a hE => pld (hK9 _ _ (wp_block ?_)))))))
 refine wp_loop_ghost (fun kq13 a w' => ∃ (G : Nat → Value) (l10 : List Int) (x11 : Int), kq13 ≤ k ∧ Env 34 G a ∧ At G [(0, .slice A0_0 x0_.length c0_0), (1, .int .i64 x1_), (5, .slice A4 ((List.replicate ((x0_.length : Int)).toNat (0 : Int)).length) c5), (6, .int .i64 x11)] ∧ St W (mine W []) F w' F [row (Kn.int .i64) 3 (.slice A4 ((List.replicate ((x0_.length : Int)).toNat (0 : Int)).length) c5) l10] ∧  qAI.l12 kq13 x0_ x1_ l10 x11 = some r) k ⟨_, (List.replicate ((x0_.length : Int)).toNat (0 : Int)), 0, Nat.le_refl _, hE, .of, hS, H⟩ ?_
 rintro kq13 a u15 ⟨G, l10, x11, hkq, hE, hA, hS, H⟩
 cases kq13 with
 | zero => cases (show none = some r from H)
 | succ k14 =>
  rw [qAI.l12_s] at H
  obtain ⟨J, hE⟩ := hE.at hA
  refine sq fun K16 hK16 => sq fun K17 hK17 => pl0 (plc hE (.r 0 4 .nil) (fun a hE => pld (hK17 _ _ ?_)))
  rcases sp H with ⟨c18, H⟩ | ⟨c18, H⟩
  ·
   replace hE := hE.kt 13 c18
   refine ct hE (wp_skip (hK16 _ _ (sq fun K19 hK19 => wp_block (sq fun K20 hK20 => pl0 ?_))))
   obtain ⟨c21, H⟩ := gd H
   have hE_ := hE
   obtain ⟨ad22, rfl⟩ := g0_0.addr c21.1 c21.2
   replace hE := hE_
   obtain ⟨cs24, rfl, hc25⟩ := g0_0.el qA.z x11 c21.1 c21.2
   refine plc hE (.r 0 2 <| .x 2 c21 <| .r 3 1 <| .c 4 (hS.fc hc25 1) <| .r 5 2 <| .nil) (fun a hE => pld (hK20 _ _ ?_))
   rcases sp H with ⟨c26, H⟩ | ⟨c26, H⟩
   ·
    replace hE := hE.kt 22 c26
    refine ct hE (pl0 ?_)
    obtain ⟨c30, H⟩ := gd H
    have hr31 := hS.row_at (i := 0) rfl
    have c32 : 0 ≤ x11 ∧ x11 < (l10.length : Int) := by rw [← (qCF hr31).1]; exact c30
    have hE_ := hE
    obtain ⟨b33, rfl⟩ := qCI hr31 c32.1 c32.2
    replace hE := hE_
    have hr_ := hS.row_at (i := 0) rfl
    obtain ⟨cs35, rfl, hc36⟩ := qCG hr_ 0 x11 c32.1 c32.2
    refine plc hE (.r 0 4 <| .x 4 c21 <| .r 5 1 <| .c 6 (hS.fc hc25 2) <| .x 7 c30 <| .nil) (fun a hE => ?_)
    obtain ⟨cs38, rfl, hc39⟩ := qCG (hS.row_at (i := 0) rfl) 0 x11 c32.1 c32.2
    refine ple hE (.set (d := (Kn.int .i64)) (n := (List.replicate ((x0_.length : Int)).toNat (0 : Int)).length) (i := x11) ((nth qA.z x0_ x11).f2) (0) (ea0 _ _) hS c32 [.int .i64 (nth 0 l10 x11)] hc39 [.int .i64 ((nth qA.z x0_ x11).f2)] rfl) ?_
    rintro _ u37 a ⟨rfl, hS, hz⟩ hE
    refine pld ?_
    refine qCD ?_
    refine hK19 _ _ (pl0 (plc hE (.r 0 3 .nil) (fun a hE => pld ?_)))
    exact qCE ⟨k14, by omega, _, (l10.set (x11).toNat ((nth qA.z x0_ x11).f2)), (w64 (x11 + 1)), by omega, hE, .of, hS, H⟩
   ·
    replace hE := hE.kf 22 c26
    refine cf hE (wp_skip ?_)
    refine qCD ?_
    refine hK19 _ _ (pl0 (plc hE (.r 0 3 .nil) (fun a hE => pld ?_)))
    exact qCE ⟨k14, by omega, _, l10, (w64 (x11 + 1)), by omega, hE, .of, hS, H⟩
  ·
   replace hE := hE.kf 13 c18
   refine cf hE ?_
   refine wp_exit ?_
   refine hK8 _ _ (sq fun K40 hK40 => pl0 (plc hE (.r 0 2 .nil) (fun a hE => ?_)))
   have hn41 := (qCF (hS.row_at (i := 0) rfl)).1
   replace hE := hE.set (d := 5) (v := .slice A4 l10.length c5) (Eq.trans (b := .slice A4 ((List.replicate ((x0_.length : Int)).toNat (0 : Int)).length) c5) (by kernel_rfl) (by rw [← hn41]))
   replace hE := hE.set (d := 32) (v := .slice A4 l10.length c5) (Eq.trans (b := .slice A4 ((List.replicate ((x0_.length : Int)).toNat (0 : Int)).length) c5) (by kernel_rfl) (by rw [← hn41]))
   replace hS : St W (mine W []) F u15 F [row (Kn.int .i64) 3 (.slice A4 l10.length c5) l10] := by rw [← hn41]; exact hS
   obtain ⟨F42, hs, g43, hS⟩ := hS.give
   replace g0_0 := g0_0.mono hs
   obtain ⟨t45, h46, H⟩ := bd H
   refine ple hE (.cl en206 (qh.calls k14 x0_ l10 _ _ _ _ _ _ _ hS.own.sub g0_0 g43 h46)) ?_
   rintro _ u44 a ⟨F47, A48, c49, rfl, hC⟩ hE
   have hs := hC.sub
   replace hS := hS.called (X := []) hC
   replace g0_0 := g0_0.mono hs
   replace g43 := g43.mono hs
   refine plc hE (.r 3 1 .nil) (fun a hE => pld (hK40 _ _ (wp_ret ?_)))
   obtain rfl := si H
   exact rt1 hE ⟨_, rfl, _, _, _, rfl, hS⟩
def qAj.f (x0_ : Int) : Option Int := some (IntKind.u64.wrap ((IntKind.u64.wrap ((IntKind.u64.wrap (x0_.tdiv 4294967296)) * 4294967296)) + (IntKind.u64.wrap (((BitVec.ofInt 64 (x0_.tmod 4294967296) ^^^ BitVec.ofInt 64 (IntKind.u64.wrap (x0_.tdiv 4294967296))).toNat : Int)))))
def qAj.Post (W F : World) (r : Int) (v : Value) (w' : World) : Prop := ∃ (F' : World), v = .int .u64 r ∧ St W (mine W []) F w' F' []
theorem qAj.calls (x0_ : Int) (r : Int) (W F : World) (hown : Sub F W) (H : qAj.f x0_ = some r) :
    Calls Tryz.prog 231 #[.int .u64 x0_] W fun e w' => ∃ v, e = .returned v ∧ qAj.Post W F r v w' := by
 have hS := St.start (Own.nil hown)
 unfold qAj.f at H
 refine enter (n := 15) rfl rfl rfl (Nat.le_of_ble_eq_true rfl) (fun a hE => ?_)
 refine sq fun K1 hK1 => pl0 (plc hE (.r 0 1 .nil) (fun a hE => pld (hK1 _ _ (sq fun K2 hK2 => pl0 (plc hE (.r 0 6 .nil) (fun a hE => pld (hK2 _ _ (sq fun K3 hK3 => pl0 (plc hE (.r 0 7 .nil) (fun a hE => pld (hK3 _ _ (wp_ret ?_))))))))))))
 obtain rfl := si H
 exact rt1 hE ⟨_, rfl, _, rfl, hS⟩
def qAn.f (x0_ : Int) : Option Int := (qAj.f x0_).bind fun t4 => ((qAj.f (IntKind.u64.wrap (t4 * 15485907386658061715))).bind fun t8 => ((qAj.f (IntKind.u64.wrap (t8 * 15485907386658061715))).bind fun t12 => (some t12)))
def qAn.Post (W F : World) (r : Int) (v : Value) (w' : World) : Prop := ∃ (F' : World), v = .int .u64 r ∧ St W (mine W []) F w' F' []
theorem qAn.calls (x0_ : Int) (r : Int) (W F : World) (hown : Sub F W) (H : qAn.f x0_ = some r) :
    Calls Tryz.prog 209 #[.int .u64 x0_] W fun e w' => ∃ v, e = .returned v ∧ qAn.Post W F r v w' := by
 have hS := St.start (Own.nil hown)
 unfold qAn.f at H
 refine enter (n := 11) rfl rfl rfl (Nat.le_of_ble_eq_true rfl) (fun a hE => ?_)
 refine sq fun K1 hK1 => pl0 (plc hE (.r 0 1 .nil) (fun a hE => pld (hK1 _ _ (sq fun K2 hK2 => pl0 (plc hE (.r 0 1 .nil) (fun a hE => ?_))))))
 obtain ⟨t4, h5, H⟩ := bd H
 refine ple hE (.cl en231 (qAj.calls x0_ _ _ _ hS.own.sub h5)) ?_
 rintro _ u3 a ⟨_, rfl, hC⟩ hE
 replace hS := hS.lent hC
 refine plc hE (.r 2 2 .nil) (fun a hE => pld (hK2 _ _ (sq fun K6 hK6 => pl0 (plc hE (.r 0 1 .nil) (fun a hE => ?_)))))
 obtain ⟨t8, h9, H⟩ := bd H
 refine ple hE (.cl en231 (qAj.calls (IntKind.u64.wrap (t4 * 15485907386658061715)) _ _ _ hS.own.sub h9)) ?_
 rintro _ u7 a ⟨_, rfl, hC⟩ hE
 replace hS := hS.lent hC
 refine plc hE (.r 2 2 .nil) (fun a hE => pld (hK6 _ _ (sq fun K10 hK10 => pl0 (plc hE (.r 0 1 .nil) (fun a hE => ?_)))))
 obtain ⟨t12, h13, H⟩ := bd H
 refine ple hE (.cl en231 (qAj.calls (IntKind.u64.wrap (t8 * 15485907386658061715)) _ _ _ hS.own.sub h13)) ?_
 rintro _ u11 a ⟨_, rfl, hC⟩ hE
 replace hS := hS.lent hC
 refine plc hE (.r 2 1 .nil) (fun a hE => pld (hK10 _ _ (wp_ret ?_)))
 obtain rfl := si H
 exact rt1 hE ⟨_, rfl, _, rfl, hS⟩
def qAM.l10 : Nat → List Int → Int → Int → Option Int
  | 0, _, _, _ => none
  | k + 1, x1_, x8, x9 => if x9 < (x1_.length : Int) then (if 0 ≤ x9 ∧ x9 < (x1_.length : Int) then ((qAn.f (IntKind.u64.wrap ((IntKind.u64.wrap (((BitVec.ofInt 64 x8 ^^^ BitVec.ofInt 64 (nth 0 x1_ x9)).toNat : Int))) + 11400714819323198485))).bind fun t24 => (qAM.l10 k x1_ t24 (w64 (x9 + 1)))) else (none)) else (some x8)
theorem qAM.l10_s (k : Nat) (x1_ : List Int) (x8 : Int) (x9 : Int) : qAM.l10 (k + 1) x1_ x8 x9 = (if x9 < (x1_.length : Int) then (if 0 ≤ x9 ∧ x9 < (x1_.length : Int) then ((qAn.f (IntKind.u64.wrap ((IntKind.u64.wrap (((BitVec.ofInt 64 x8 ^^^ BitVec.ofInt 64 (nth 0 x1_ x9)).toNat : Int))) + 11400714819323198485))).bind fun t24 => (qAM.l10 k x1_ t24 (w64 (x9 + 1)))) else (none)) else (some x8)) := by kernel_rfl
def qAM.f (k : Nat) (x0_ : Int) (x1_ : List Int) : Option Int := (qAn.f x0_).bind fun t4 => (qAM.l10 k x1_ t4 0)
def qAM.Post (W F : World) (r : Int) (v : Value) (w' : World) : Prop := ∃ (F' : World), v = .int .u64 r ∧ St W (mine W []) F w' F' []
theorem qAM.calls (k : Nat) (x0_ : Int) (x1_ : List Int) (A1_0 : Option Addr) (c1_0 : Nat) (r : Int) (W F : World) (hown : Sub F W) (g1_0 : Rd (Kn.int .u64) F A1_0 c1_0 x1_) (H : qAM.f k x0_ x1_ = some r) :
    Calls Tryz.prog 172 #[.int .u64 x0_, .slice A1_0 x1_.length c1_0] W fun e w' => ∃ v, e = .returned v ∧ qAM.Post W F r v w' := by
 have hS := St.start (Own.nil hown)
 unfold qAM.f at H
 refine enter (n := 24) rfl rfl rfl (Nat.le_of_ble_eq_true rfl) (fun a hE => ?_)
 refine sq fun K1 hK1 => pl0 (plc hE (.r 0 1 .nil) (fun a hE => pld (hK1 _ _ (sq fun K2 hK2 => pl0 (plc hE (.r 0 1 .nil) (fun a hE => ?_))))))
 obtain ⟨t4, h5, H⟩ := bd H
 refine ple hE (.cl en209 (qAn.calls x0_ _ _ _ hS.own.sub h5)) ?_
 rintro _ u3 a ⟨_, rfl, hC⟩ hE
 replace hS := hS.lent hC
 refine plc hE (.r 2 1 .nil) (fun a hE => pld (hK2 _ _ (sq fun K6 hK6 => sq fun K7 hK7 => pl0 (plc hE (.r 0 1 .nil) (fun a hE => pld (hK7 _ _ (wp_block ?_)))))))
 refine wp_loop_ghost (fun kq11 a w' => ∃ (G : Nat → Value) (x8 : Int) (x9 : Int), kq11 ≤ k ∧ Env 24 G a ∧ At G [(1, .slice A1_0 x1_.length c1_0), (5, .int .u64 x8), (6, .int .i64 x9)] ∧ St W (mine W []) F w' F [] ∧  qAM.l10 kq11 x1_ x8 x9 = some r) k ⟨_, t4, 0, Nat.le_refl _, hE, .of, hS, H⟩ ?_
 rintro kq11 a u13 ⟨G, x8, x9, hkq, hE, hA, hS, H⟩
 cases kq11 with
 | zero => cases (show none = some r from H)
 | succ k12 =>
  rw [qAM.l10_s] at H
  obtain ⟨J, hE⟩ := hE.at hA
  refine sq fun K14 hK14 => sq fun K15 hK15 => pl0 (plc hE (.r 0 4 .nil) (fun a hE => pld (hK15 _ _ ?_)))
  rcases sp H with ⟨c16, H⟩ | ⟨c16, H⟩
  ·
   replace hE := hE.kt 12 c16
   refine ct hE (wp_skip (hK14 _ _ (sq fun K17 hK17 => wp_block (pl0 ?_))))
   obtain ⟨c18, H⟩ := gd H
   have hE_ := hE
   obtain ⟨ad19, rfl⟩ := g1_0.addr c18.1 c18.2
   replace hE := hE_
   obtain ⟨cs21, rfl, hc22⟩ := g1_0.el 0 x9 c18.1 c18.2
   refine plc hE (.r 0 3 <| .x 3 c18 <| .c 4 (hS.fc hc22 0) <| .r 5 2 <| .nil) (fun a hE => ?_)
   obtain ⟨t24, h25, H⟩ := bd H
   refine ple hE (.cl en209 (qAn.calls (IntKind.u64.wrap ((IntKind.u64.wrap (((BitVec.ofInt 64 x8 ^^^ BitVec.ofInt 64 (nth 0 x1_ x9)).toNat : Int))) + 11400714819323198485)) _ _ _ hS.own.sub h25)) ?_
   rintro _ u23 a ⟨_, rfl, hC⟩ hE
   replace hS := hS.lent hC
   refine plc hE (.r 8 1 .nil) (fun a hE => pld ?_)
   refine qCD ?_
   refine hK17 _ _ (pl0 (plc hE (.r 0 3 .nil) (fun a hE => pld ?_)))
   exact qCE ⟨k12, by omega, _, t24, (w64 (x9 + 1)), by omega, hE, .of, hS, H⟩
  ·
   replace hE := hE.kf 12 c16
   refine cf hE ?_
   refine wp_exit ?_
   refine hK6 _ _ (sq fun K26 hK26 => pl0 (plc hE (.r 0 2 .nil) (fun a hE => pld (hK26 _ _ (wp_ret ?_)))))
   obtain rfl := si H
   exact rt1 hE ⟨_, rfl, _, rfl, hS⟩
mutual
def qj.j6 : Nat → Int → Bool → Option Int
  | 0, _, _ => none
  | k + 1, x0_, y5 => if y5 = true then (some 0) else (if x0_ ≤ 32768 then ((qj.f k (w64 (2 * x0_))).bind fun t18 => (some (w64 (65536 + t18)))) else (qj.l27 k (IntKind.u64.wrap ((IntKind.u64.wrap x0_) * 32768)) 0 0))
def qj.l27 : Nat → Int → Int → Int → Option Int
  | 0, _, _, _ => none
  | k + 1, x24, x25, x26 => if x26 < 16 then (if (IntKind.u64.wrap ((IntKind.u64.wrap (x24 * x24)).tdiv 2147483648)) ≤ 1073741824 then (qj.l27 k (IntKind.u64.wrap (2 * (IntKind.u64.wrap ((IntKind.u64.wrap (x24 * x24)).tdiv 2147483648)))) (w64 ((w64 (2 * x25)) + 1)) (w64 (x26 + 1))) else (qj.l27 k (IntKind.u64.wrap ((IntKind.u64.wrap (x24 * x24)).tdiv 2147483648)) (w64 (2 * x25)) (w64 (x26 + 1)))) else (some x25)
def qj.f : Nat → Int → Option Int
  | 0, _ => none
  | k + 1, x0_ => if x0_ < 1 then (qj.j6 k x0_ true) else (qj.j6 k x0_ (decide (x0_ > 65536)))
end
theorem qj.j6_s (k : Nat) (x0_ : Int) (y5 : Bool) : qj.j6 (k + 1) x0_ y5 = (if y5 = true then (some 0) else (if x0_ ≤ 32768 then ((qj.f k (w64 (2 * x0_))).bind fun t18 => (some (w64 (65536 + t18)))) else (qj.l27 k (IntKind.u64.wrap ((IntKind.u64.wrap x0_) * 32768)) 0 0))) := by kernel_rfl
theorem qj.l27_s (k : Nat) (x24 : Int) (x25 : Int) (x26 : Int) : qj.l27 (k + 1) x24 x25 x26 = (if x26 < 16 then (if (IntKind.u64.wrap ((IntKind.u64.wrap (x24 * x24)).tdiv 2147483648)) ≤ 1073741824 then (qj.l27 k (IntKind.u64.wrap (2 * (IntKind.u64.wrap ((IntKind.u64.wrap (x24 * x24)).tdiv 2147483648)))) (w64 ((w64 (2 * x25)) + 1)) (w64 (x26 + 1))) else (qj.l27 k (IntKind.u64.wrap ((IntKind.u64.wrap (x24 * x24)).tdiv 2147483648)) (w64 (2 * x25)) (w64 (x26 + 1)))) else (some x25)) := by kernel_rfl
theorem qj.f_s (k : Nat) (x0_ : Int) : qj.f (k + 1) x0_ = (if x0_ < 1 then (qj.j6 k x0_ true) else (qj.j6 k x0_ (decide (x0_ > 65536)))) := by kernel_rfl
def qj.Post (W F : World) (r : Int) (v : Value) (w' : World) : Prop := ∃ (F' : World), v = .int .i64 r ∧ St W (mine W []) F w' F' []
theorem qj.calls : ∀ (k : Nat) (x0_ : Int) (r : Int) (W F : World) (hown : Sub F W) (H : qj.f k x0_ = some r),
    Calls Tryz.prog 251 #[.int .i64 x0_] W fun e w' => ∃ v, e = .returned v ∧ qj.Post W F r v w' := by
 intro k
 induction k using Nat.strongRecOn
 rename_i k ih
 intro x0_ r W F hown H
 obtain _ | k1 := k
 ·
  cases (show none = some r from H)
 have hS := St.start (Own.nil hown)
 rw [qj.f_s] at H
 refine enter (n := 38) rfl rfl rfl (Nat.le_of_ble_eq_true rfl) (fun a hE => ?_)
 refine sq fun K1 hK1 => pl0 (plc hE (.r 0 1 .nil) (fun a hE => pld (hK1 _ _ (sq fun K2 hK2 => sq fun K3 hK3 => ?_))))
 have J9 : ∀ kq7, kq7 ≤ k1 → ∀ (G : Nat → Value) (y5 : Bool) (a : Act) (w' : World), Env 38 G a → At G [(0, .int .i64 x0_), (11, .bool y5)] → St W (mine W []) F w' F [] → qj.j6 kq7 x0_ y5 = some r → K3 a w' := by
  intro kq7 hkq G y5 a u10 hE hA hS H
  cases kq7 with
  | zero => cases (show none = some r from H)
  | succ k8 =>
   rw [qj.j6_s] at H
   obtain ⟨J, hE⟩ := hE.at hA
   refine hK3 _ _ ?_
   rcases sp H with ⟨c11, H⟩ | ⟨c11, H⟩
   ·
    replace hE := hE.bt 11 c11
    refine ct hE (sq fun K12 hK12 => pl0 (plc hE (.r 0 1 .nil) (fun a hE => pld (hK12 _ _ (wp_ret (qCB ?_))))))
    obtain rfl := si H
    exact rt1 hE ⟨_, rfl, _, rfl, hS⟩
   ·
    replace hE := hE.bf 11 c11
    refine cf hE (wp_skip (hK2 _ _ (sq fun K13 hK13 => sq fun K14 hK14 => pl0 (plc hE (.r 0 2 .nil) (fun a hE => pld (hK14 _ _ ?_))))))
    rcases sp H with ⟨c15, H⟩ | ⟨c15, H⟩
    ·
     replace hE := hE.kt 13 c15
     refine ct hE (sq fun K16 hK16 => pl0 (plc hE (.r 0 2 .nil) (fun a hE => ?_)))
     obtain ⟨t18, h19, H⟩ := bd H
     refine ple hE (.cl en251 (ih k8 (by omega) (w64 (2 * x0_)) _ _ _ hS.own.sub h19)) ?_
     rintro _ u17 a ⟨_, rfl, hC⟩ hE
     replace hS := hS.lent hC
     refine plc hE (.r 3 2 .nil) (fun a hE => pld (hK16 _ _ (wp_ret (qCB ?_))))
     obtain rfl := si H
     exact rt1 hE ⟨_, rfl, _, rfl, hS⟩
    ·
     replace hE := hE.kf 13 c15
     refine cf hE (wp_skip (hK13 _ _ (sq fun K20 hK20 => pl0 (plc hE (.r 0 4 .nil) (fun a hE => pld (hK20 _ _ (sq fun K21 hK21 => pl0 (plc hE (.r 0 1 .nil) (fun a hE => pld (hK21 _ _ (sq fun K22 hK22 => sq fun K23 hK23 => pl0 (plc hE (.r 0 1 .nil) (fun a hE => pld (hK23 _ _ (wp_block ?_)))))))))))))))
     refine wp_loop_ghost (fun kq28 a w' => ∃ (G : Nat → Value) (x24 : Int) (x25 : Int) (x26 : Int), kq28 ≤ k8 ∧ Env 38 G a ∧ At G [(3, .int .u64 x24), (4, .int .i64 x25), (5, .int .i64 x26)] ∧ St W (mine W []) F w' F [] ∧  qj.l27 kq28 x24 x25 x26 = some r) k8 ⟨_, (IntKind.u64.wrap ((IntKind.u64.wrap x0_) * 32768)), 0, 0, Nat.le_refl _, hE, .of, hS, H⟩ ?_
     rintro kq28 a u30 ⟨G, x24, x25, x26, hkq, hE, hA, hS, H⟩
     cases kq28 with
     | zero => cases (show none = some r from H)
     | succ k29 =>
      rw [qj.l27_s] at H
      obtain ⟨J, hE⟩ := hE.at hA
      refine sq fun K31 hK31 => sq fun K32 hK32 => pl0 (plc hE (.r 0 2 .nil) (fun a hE => pld (hK32 _ _ ?_)))
      rcases sp H with ⟨c33, H⟩ | ⟨c33, H⟩
      ·
       replace hE := hE.kt 22 c33
       refine ct hE (wp_skip (hK31 _ _ (sq fun K34 hK34 => wp_block (sq fun K35 hK35 => pl0 (plc hE (.r 0 5 .nil) (fun a hE => pld (hK35 _ _ (sq fun K36 hK36 => pl0 (plc hE (.r 0 3 .nil) (fun a hE => pld (hK36 _ _ (sq fun K37 hK37 => pl0 (plc hE (.r 0 2 .nil) (fun a hE => pld (hK37 _ _ ?_)))))))))))))))
       rcases sp H with ⟨c38, H⟩ | ⟨c38, H⟩
       ·
        replace hE := hE.kt 32 c38
        refine ct hE (sq fun K39 hK39 => pl0 (plc hE (.r 0 3 .nil) (fun a hE => pld (hK39 _ _ (pl0 (plc hE (.r 0 3 .nil) (fun a hE => pld ?_)))))))
        refine qCD ?_
        refine hK34 _ _ (pl0 (plc hE (.r 0 3 .nil) (fun a hE => pld ?_)))
        exact qCE ⟨k29, by omega, _, (IntKind.u64.wrap (2 * (IntKind.u64.wrap ((IntKind.u64.wrap (x24 * x24)).tdiv 2147483648)))), (w64 ((w64 (2 * x25)) + 1)), (w64 (x26 + 1)), by omega, hE, .of, hS, H⟩
       ·
        replace hE := hE.kf 32 c38
        refine cf hE (wp_skip ?_)
        refine qCD ?_
        refine hK34 _ _ (pl0 (plc hE (.r 0 3 .nil) (fun a hE => pld ?_)))
        exact qCE ⟨k29, by omega, _, (IntKind.u64.wrap ((IntKind.u64.wrap (x24 * x24)).tdiv 2147483648)), (w64 (2 * x25)), (w64 (x26 + 1)), by omega, hE, .of, hS, H⟩
      ·
       replace hE := hE.kf 22 c33
       refine cf hE ?_
       refine wp_exit ?_
       refine hK22 _ _ (sq fun K40 hK40 => pl0 (plc hE (.r 0 2 .nil) (fun a hE => pld (hK40 _ _ (wp_ret ?_)))))
       obtain rfl := si H
       exact rt1 hE ⟨_, rfl, _, rfl, hS⟩
 refine pl0 (plc hE (.r 0 3 .nil) (fun a hE => ?_))
 rcases sp H with ⟨c4, H⟩ | ⟨c4, H⟩
 ·
  replace hE := hE.kt 8 c4
  refine plc hE (.r 3 3 .nil) (fun a hE => pld ?_)
  exact J9 _ (by omega) _ true _ _ hE .of hS H
 ·
  replace hE := hE.kf 8 c4
  refine plc hE (.r 3 3 .nil) (fun a hE => pld ?_)
  exact J9 _ (by omega) _ (decide (x0_ > 65536)) _ _ hE .of hS H
def qAl.f (k : Nat) (x0_ : Int) (x1_ : Int) : Option Int := (qAM.f k x0_ [(IntKind.u64.wrap x1_)]).bind fun t8 => ((qj.f k (w64 (1 + (w64 (IntKind.u64.wrap (t8.tdiv 281474976710656)))))).bind fun t11 => (some t11))
def qAl.Post (W F : World) (r : Int) (v : Value) (w' : World) : Prop := ∃ (F' : World), v = .int .i64 r ∧ St W (mine W []) F w' F' []
theorem qAl.calls (k : Nat) (x0_ : Int) (x1_ : Int) (r : Int) (W F : World) (hown : Sub F W) (H : qAl.f k x0_ x1_ = some r) :
    Calls Tryz.prog 230 #[.int .u64 x0_, .int .i64 x1_] W fun e w' => ∃ v, e = .returned v ∧ qAl.Post W F r v w' := by
 have hS := St.start (Own.nil hown)
 unfold qAl.f at H
 refine enter (n := 14) rfl rfl rfl (Nat.le_of_ble_eq_true rfl) (fun a hE => ?_)
 refine sq fun K1 hK1 => pl0 (plc hE (.r 0 1 .nil) (fun a hE => pld (hK1 _ _ (sq fun K2 hK2 => pl0 (plc hE (.r 0 3 .nil) (fun a hE => ple hE (.lit (d := (Kn.int .u64)) (e := 182) hS [(IntKind.u64.wrap x1_)] (.cons rfl .nil)) ?_))))))
 rintro _ u3 a ⟨A4, c5, rfl, hS, hg⟩ hE
 obtain ⟨t8, h9, H⟩ := bd H
 refine ple hE (.cl en172 (qAM.calls k x0_ [(IntKind.u64.wrap x1_)] _ _ _ _ _ (Sub.refl _) (hS.rd_at (i := 0) rfl) h9)) ?_
 rintro _ u7 a ⟨_, rfl, hC⟩ hE
 replace hS := hS.lent hC
 refine plc hE (.r 5 3 .nil) (fun a hE => ?_)
 obtain ⟨t11, h12, H⟩ := bd H
 refine ple hE (.cl en251 (qj.calls k (w64 (1 + (w64 (IntKind.u64.wrap (t8.tdiv 281474976710656))))) _ _ _ hS.own.sub h12)) ?_
 rintro _ u10 a ⟨_, rfl, hC⟩ hE
 replace hS := hS.lent hC
 refine plc hE (.r 9 1 .nil) (fun a hE => pld (hK2 _ _ (wp_ret ?_)))
 replace hS := hS.tail
 obtain rfl := si H
 exact rt1 hE ⟨_, rfl, _, rfl, hS⟩
mutual
def qu.l7 : Nat → Int → List qB → Int → Int → Option (Int × Bool)
  | 0, _, _, _, _ => none
  | k + 1, x0_, x1_, x5, x6 => if x6 < (x1_.length : Int) then (if 0 ≤ x6 ∧ x6 < (x1_.length : Int) then (if (nth qB.z x1_ x6).f1 = 0 then (qu.l7 k x0_ x1_ x5 (w64 (x6 + 1))) else (if x5 < 0 then (qu.j45 k x0_ x1_ x5 x6 true) else (if 0 ≤ x5 ∧ x5 < (x1_.length : Int) then ((qAl.f k x0_ ((nth qB.z x1_ x6).f0)).bind fun t39 => ((qAl.f k x0_ ((nth qB.z x1_ x5).f0)).bind fun t42 => (qu.j45 k x0_ x1_ x5 x6 (decide ((w64 (t39 * (nth qB.z x1_ x5).f1)) < (w64 (t42 * (nth qB.z x1_ x6).f1))))))) else (none)))) else (none)) else (if x5 < 0 then (some (0, false)) else (if 0 ≤ x5 ∧ x5 < (x1_.length : Int) then (some ((nth qB.z x1_ x5).f0, true)) else (none)))
def qu.j45 : Nat → Int → List qB → Int → Int → Bool → Option (Int × Bool)
  | 0, _, _, _, _, _ => none
  | k + 1, x0_, x1_, x5, x6, y44 => if y44 = true then (qu.l7 k x0_ x1_ x6 (w64 (x6 + 1))) else (qu.l7 k x0_ x1_ x5 (w64 (x6 + 1)))
end
theorem qu.l7_s (k : Nat) (x0_ : Int) (x1_ : List qB) (x5 : Int) (x6 : Int) : qu.l7 (k + 1) x0_ x1_ x5 x6 = (if x6 < (x1_.length : Int) then (if 0 ≤ x6 ∧ x6 < (x1_.length : Int) then (if (nth qB.z x1_ x6).f1 = 0 then (qu.l7 k x0_ x1_ x5 (w64 (x6 + 1))) else (if x5 < 0 then (qu.j45 k x0_ x1_ x5 x6 true) else (if 0 ≤ x5 ∧ x5 < (x1_.length : Int) then ((qAl.f k x0_ ((nth qB.z x1_ x6).f0)).bind fun t39 => ((qAl.f k x0_ ((nth qB.z x1_ x5).f0)).bind fun t42 => (qu.j45 k x0_ x1_ x5 x6 (decide ((w64 (t39 * (nth qB.z x1_ x5).f1)) < (w64 (t42 * (nth qB.z x1_ x6).f1))))))) else (none)))) else (none)) else (if x5 < 0 then (some (0, false)) else (if 0 ≤ x5 ∧ x5 < (x1_.length : Int) then (some ((nth qB.z x1_ x5).f0, true)) else (none)))) := by kernel_rfl
theorem qu.j45_s (k : Nat) (x0_ : Int) (x1_ : List qB) (x5 : Int) (x6 : Int) (y44 : Bool) : qu.j45 (k + 1) x0_ x1_ x5 x6 y44 = (if y44 = true then (qu.l7 k x0_ x1_ x6 (w64 (x6 + 1))) else (qu.l7 k x0_ x1_ x5 (w64 (x6 + 1)))) := by kernel_rfl
def qu.f (k : Nat) (x0_ : Int) (x1_ : List qB) : Option (Int × Bool) := qu.l7 k x0_ x1_ (-1) 0
def qu.Post (W F : World) (r : Int × Bool) (v : Value) (w' : World) : Prop := ∃ (F' : World), v = .tuple #[.int .i64 r.1, .bool r.2] ∧ St W (mine W []) F w' F' []
theorem qu.calls (k : Nat) (x0_ : Int) (x1_ : List qB) (A1_0 : Option Addr) (c1_0 : Nat) (r : Int × Bool) (W F : World) (hown : Sub F W) (g1_0 : Rd qB.k F A1_0 c1_0 x1_) (H : qu.f k x0_ x1_ = some r) :
    Calls Tryz.prog 207 #[.int .u64 x0_, .slice A1_0 x1_.length c1_0] W fun e w' => ∃ v, e = .returned v ∧ qu.Post W F r v w' := by
 have hS := St.start (Own.nil hown)
 unfold qu.f at H
 refine enter (n := 59) rfl rfl rfl (Nat.le_of_ble_eq_true rfl) (fun a hE => ?_)
 refine sq fun K1 hK1 => pl0 (plc hE (.r 0 2 .nil) (fun a hE => pld (hK1 _ _ (sq fun K2 hK2 => pl0 (plc hE (.r 0 1 .nil) (fun a hE => pld (hK2 _ _ (sq fun K3 hK3 => sq fun K4 hK4 => pl0 (plc hE (.r 0 1 .nil) (fun a hE => pld (hK4 _ _ (wp_block ?_))))))))))))
 refine wp_loop_ghost (fun kq8 a w' => ∃ (G : Nat → Value) (x5 : Int) (x6 : Int), kq8 ≤ k ∧ Env 59 G a ∧ At G [(0, .int .u64 x0_), (1, .slice A1_0 x1_.length c1_0), (6, .int .i64 x5), (7, .int .i64 x6)] ∧ St W (mine W []) F w' F [] ∧  qu.l7 kq8 x0_ x1_ x5 x6 = some r) k ⟨_, (-1), 0, Nat.le_refl _, hE, .of, hS, H⟩ ?_
 rintro kq8 a u10 ⟨G, x5, x6, hkq, hE, hA, hS, H⟩
 cases kq8 with
 | zero => cases (show none = some r from H)
 | succ k9 =>
  rw [qu.l7_s] at H
  obtain ⟨J, hE⟩ := hE.at hA
  refine sq fun K11 hK11 => sq fun K12 hK12 => pl0 (plc hE (.r 0 4 .nil) (fun a hE => pld (hK12 _ _ ?_)))
  rcases sp H with ⟨c13, H⟩ | ⟨c13, H⟩
  ·
   replace hE := hE.kt 11 c13
   refine ct hE (wp_skip (hK11 _ _ (sq fun K14 hK14 => wp_block (sq fun K15 hK15 => sq fun K16 hK16 => pl0 ?_))))
   obtain ⟨c17, H⟩ := gd H
   have hE_ := hE
   obtain ⟨ad18, rfl⟩ := g1_0.addr c17.1 c17.2
   replace hE := hE_
   obtain ⟨cs20, rfl, hc21⟩ := g1_0.el qB.z x6 c17.1 c17.2
   refine plc hE (.r 0 2 <| .x 2 c17 <| .r 3 1 <| .c 4 (hS.fc hc21 1) <| .r 5 1 <| .nil) (fun a hE => pld (hK16 _ _ ?_))
   rcases sp H with ⟨c22, H⟩ | ⟨c22, H⟩
   ·
    replace hE := hE.kt 19 c22
    refine ct hE ?_
    refine wp_exit ?_
    refine hK14 _ _ (pl0 (plc hE (.r 0 3 .nil) (fun a hE => pld ?_)))
    exact qCE ⟨k9, by omega, _, x5, (w64 (x6 + 1)), by omega, hE, .of, hS, H⟩
   ·
    replace hE := hE.kf 19 c22
    refine cf hE (wp_skip (hK15 _ _ (sq fun K23 hK23 => ?_)))
    have J48 : ∀ kq46, kq46 ≤ k9 → ∀ (G : Nat → Value) (y44 : Bool) (a : Act) (w' : World), Env 59 G a → At G [(0, .int .u64 x0_), (1, .slice (some ad18) x1_.length c1_0), (6, .int .i64 x5), (7, .int .i64 x6), (50, .bool y44)] → St W (mine W []) F w' F [] → qu.j45 kq46 x0_ x1_ x5 x6 y44 = some r → K23 a w' := by
     intro kq46 hkq G y44 a u49 hE hA hS H
     cases kq46 with
     | zero => cases (show none = some r from H)
     | succ k47 =>
      rw [qu.j45_s] at H
      obtain ⟨J, hE⟩ := hE.at hA
      refine hK23 _ _ ?_
      rcases sp H with ⟨c50, H⟩ | ⟨c50, H⟩
      ·
       replace hE := hE.bt 50 c50
       refine ct hE (pl0 (plc hE (.r 0 2 .nil) (fun a hE => pld ?_)))
       refine qCD ?_
       refine hK14 _ _ (pl0 (plc hE (.r 0 3 .nil) (fun a hE => pld ?_)))
       exact qCE ⟨k47, by omega, _, x6, (w64 (x6 + 1)), by omega, hE, .of, hS, H⟩
      ·
       replace hE := hE.bf 50 c50
       refine cf hE (wp_skip ?_)
       refine qCD ?_
       refine hK14 _ _ (pl0 (plc hE (.r 0 3 .nil) (fun a hE => pld ?_)))
       exact qCE ⟨k47, by omega, _, x5, (w64 (x6 + 1)), by omega, hE, .of, hS, H⟩
    refine drawn 31 ⟨[], [], fun q => False⟩ mixed rfl (by kernel_rfl) (fun hst => ?_)
    replace hS := hS.drew
    refine mny 28 hst hE (.r 0 3 .nil) (fun a hE => ?_)
    rcases sp H with ⟨c24, H⟩ | ⟨c24, H⟩
    ·
     replace hE := hE.kt 22 c24
     refine mny 0 hst hE (.r 3 28 .nil) (fun a hE => ?_)
     refine dn ?_
     exact J48 _ (by omega) _ true _ _ hE .of hS H
    ·
     replace hE := hE.kf 22 c24
     obtain ⟨c28, H⟩ := gd H
     obtain ⟨cs30, rfl, hc31⟩ := g1_0.el qB.z x5 c28.1 c28.2
     refine mny 6 hst hE (.r 3 3 <| .x 6 c17 <| .r 7 1 <| .c 8 (hS.fc hc21 0) <| .r 10 2 <| .x 12 c28 <| .r 13 1 <| .c 14 (hS.fc hc31 1) <| .r 16 3 <| .x 19 c28 <| .r 20 1 <| .c 21 (hS.fc hc31 0) <| .r 23 2 <| .x 25 c17 <| .r 26 1 <| .c 27 (hS.fc hc21 1) <| .nil) (fun a hE => ?_)
     obtain ⟨t39, h40, H⟩ := bd H
     refine on1 9 hE (.cl en230 (qAl.calls k9 x0_ ((nth qB.z x1_ x6).f0) _ _ _ hS.own.sub h40)) ?_
     rintro _ u38 a ⟨_, rfl, hC⟩ hE
     refine ⟨.of hC.agr, ?_⟩
     replace hS := hS.lent hC
     refine mny 4 hst hE (.r 15 1 .nil) (fun a hE => ?_)
     obtain ⟨t42, h43, H⟩ := bd H
     refine on1 22 hE (.cl en230 (qAl.calls k9 x0_ ((nth qB.z x1_ x5).f0) _ _ _ hS.own.sub h43)) ?_
     rintro _ u41 a ⟨_, rfl, hC⟩ hE
     refine ⟨.of hC.agr, ?_⟩
     replace hS := hS.lent hC
     refine mny 0 hst hE (.r 28 3 .nil) (fun a hE => ?_)
     refine dn ?_
     exact J48 _ (by omega) _ (decide ((w64 (t39 * (nth qB.z x1_ x5).f1)) < (w64 (t42 * (nth qB.z x1_ x6).f1)))) _ _ hE .of hS H
  ·
   replace hE := hE.kf 11 c13
   refine cf hE ?_
   refine wp_exit ?_
   refine hK3 _ _ (sq fun K51 hK51 => sq fun K52 hK52 => pl0 (plc hE (.r 0 2 .nil) (fun a hE => pld (hK52 _ _ ?_))))
   rcases sp H with ⟨c53, H⟩ | ⟨c53, H⟩
   ·
    replace hE := hE.kt 53 c53
    refine ct hE (sq fun K54 hK54 => pl0 (plc hE (.r 0 2 .nil) (fun a hE => pld (hK54 _ _ (wp_ret (qCB ?_))))))
    obtain rfl := si H
    exact rtN hE ⟨_, rfl, _, rfl, hS⟩
   ·
    replace hE := hE.kf 53 c53
    refine cf hE (wp_skip (hK51 _ _ (sq fun K55 hK55 => pl0 ?_)))
    obtain ⟨c56, H⟩ := gd H
    have hE_ := hE
    obtain ⟨ad57, rfl⟩ := g1_0.addr c56.1 c56.2
    replace hE := hE_
    obtain ⟨cs59, rfl, hc60⟩ := g1_0.el qB.z x5 c56.1 c56.2
    refine plc hE (.r 0 2 <| .x 2 c56 <| .r 3 1 <| .c 4 (hS.fc hc60 0) <| .r 5 2 <| .nil) (fun a hE => pld (hK55 _ _ (wp_ret ?_)))
    obtain rfl := si H
    exact rtN hE ⟨_, rfl, _, rfl, hS⟩
def qAB.l14 : Nat → List qB → Int → List qB → Int → Option (List qB)
  | 0, _, _, _, _ => none
  | k + 1, x0_, x1_, l12, x13 => if x13 < (x0_.length : Int) then (if 0 ≤ x13 ∧ x13 < (x0_.length : Int) then (if (nth qB.z x0_ x13).f0 = x1_ then (qAB.l14 k x0_ x1_ l12 (w64 (x13 + 1))) else (if ((l12.length : Int) + ((1 : Nat) : Int)) * 16 ≤ 140737488355328 then (qAB.l14 k x0_ x1_ (l12 ++ [(⟨(nth qB.z x0_ x13).f0, (nth qB.z x0_ x13).f1⟩ : qB)]) (w64 (x13 + 1))) else (none))) else (none)) else (some l12)
theorem qAB.l14_s (k : Nat) (x0_ : List qB) (x1_ : Int) (l12 : List qB) (x13 : Int) : qAB.l14 (k + 1) x0_ x1_ l12 x13 = (if x13 < (x0_.length : Int) then (if 0 ≤ x13 ∧ x13 < (x0_.length : Int) then (if (nth qB.z x0_ x13).f0 = x1_ then (qAB.l14 k x0_ x1_ l12 (w64 (x13 + 1))) else (if ((l12.length : Int) + ((1 : Nat) : Int)) * 16 ≤ 140737488355328 then (qAB.l14 k x0_ x1_ (l12 ++ [(⟨(nth qB.z x0_ x13).f0, (nth qB.z x0_ x13).f1⟩ : qB)]) (w64 (x13 + 1))) else (none))) else (none)) else (some l12)) := by kernel_rfl
def qAB.f (k : Nat) (x0_ : List qB) (x1_ : Int) : Option (List qB) := qAB.l14 k x0_ x1_ ([] : List qB) 0
def qAB.Post (W F : World) (r : List qB) (v : Value) (w' : World) : Prop := ∃ (F' : World) (RA0_0 : Option Addr) (rc0_0 : Nat), v = .slice RA0_0 r.length rc0_0 ∧ St W (mine W []) F w' F' [row qB.k 216 (.slice RA0_0 r.length rc0_0) r]
theorem qAB.calls (k : Nat) (x0_ : List qB) (x1_ : Int) (A0_0 : Option Addr) (c0_0 : Nat) (r : List qB) (W F : World) (hown : Sub F W) (g0_0 : Rd qB.k F A0_0 c0_0 x0_) (H : qAB.f k x0_ x1_ = some r) :
    Calls Tryz.prog 208 #[.slice A0_0 x0_.length c0_0, .int .i64 x1_] W fun e w' => ∃ v, e = .returned v ∧ qAB.Post W F r v w' := by
 have hS := St.start (Own.nil hown)
 unfold qAB.f at H
 refine enter (n := 29) rfl rfl rfl (Nat.le_of_ble_eq_true rfl) (fun a hE => ?_)
 refine sq fun K1 hK1 => pl0 (plc hE (.r 0 1 .nil) (fun a hE => pld (hK1 _ _ (sq fun K2 hK2 => pl0 (ple hE (.lit (d := qB.k) (e := 216) hS ([] : List qB) (.nil)) ?_)))))
 rintro _ u3 a ⟨A4, c5, rfl, hS, hg⟩ hE
 refine plc hE (.r 1 1 .nil) (fun a hE => pld (hK2 _ _ (sq fun K7 hK7 => sq fun K8 hK8 => pl0 (plc hE (.r 0 1 .nil) (fun a hE => pld (hK8 _ _ (wp_block ?_)))))))
 refine wp_loop_ghost (fun kq15 a w' => ∃ (G : Nat → Value) (A10 : Option Addr) (c11 : Nat) (l12 : List qB) (x13 : Int), kq15 ≤ k ∧ Env 29 G a ∧ At G [(0, .slice A0_0 x0_.length c0_0), (1, .int .i64 x1_), (5, .slice A10 l12.length c11), (6, .int .i64 x13)] ∧ St W (mine W []) F w' F [row qB.k 216 (.slice A10 l12.length c11) l12] ∧  qAB.l14 kq15 x0_ x1_ l12 x13 = some r) k ⟨_, A4, c5, ([] : List qB), 0, Nat.le_refl _, hE, .of, hS, H⟩ ?_
 rintro kq15 a u17 ⟨G, A10, c11, l12, x13, hkq, hE, hA, hS, H⟩
 cases kq15 with
 | zero => cases (show none = some r from H)
 | succ k16 =>
  rw [qAB.l14_s] at H
  obtain ⟨J, hE⟩ := hE.at hA
  refine sq fun K18 hK18 => sq fun K19 hK19 => pl0 (plc hE (.r 0 4 .nil) (fun a hE => pld (hK19 _ _ ?_)))
  rcases sp H with ⟨c20, H⟩ | ⟨c20, H⟩
  ·
   replace hE := hE.kt 11 c20
   refine ct hE (wp_skip (hK18 _ _ (sq fun K21 hK21 => wp_block (sq fun K22 hK22 => pl0 ?_))))
   obtain ⟨c23, H⟩ := gd H
   have hE_ := hE
   obtain ⟨ad24, rfl⟩ := g0_0.addr c23.1 c23.2
   replace hE := hE_
   obtain ⟨cs26, rfl, hc27⟩ := g0_0.el qB.z x13 c23.1 c23.2
   refine plc hE (.r 0 2 <| .x 2 c23 <| .r 3 1 <| .c 4 (hS.fc hc27 0) <| .r 5 2 <| .nil) (fun a hE => pld (hK22 _ _ ?_))
   rcases sp H with ⟨c28, H⟩ | ⟨c28, H⟩
   ·
    replace hE := hE.ktn 20 c28
    refine cf hE (wp_skip ?_)
    refine qCD ?_
    refine hK21 _ _ (pl0 (plc hE (.r 0 3 .nil) (fun a hE => pld ?_)))
    exact qCE ⟨k16, by omega, _, A10, c11, l12, (w64 (x13 + 1)), by omega, hE, .of, hS, H⟩
   ·
    replace hE := hE.kfn 20 c28
    refine ct hE (pl0 (plc hE (.r 0 3 <| .x 3 c23 <| .cs 4 (hS.fcs hc27) <| .nil) (fun a hE => ple hE (.lit (d := qB.k) (e := 216) hS [(⟨(nth qB.z x0_ x13).f0, (nth qB.z x0_ x13).f1⟩ : qB)] (.cons rfl .nil)) ?_)))
    rintro _ u32 a ⟨A33, c34, rfl, hS, hg⟩ hE
    obtain ⟨c36, H⟩ := gd H
    replace hS := hS.front 1 rfl
    refine ple hE (.ap (d := qB.k) 16 hS (qCM (hS.row_at (i := 1) rfl)) c36 c34) ?_
    rintro _ u39 a ⟨A37, c38, rfl, hS, hz⟩ hE
    refine plc hE (.r 7 1 .nil) (fun a hE => pld ?_)
    refine qCD ?_
    refine hK21 _ _ (pl0 (plc hE (.r 0 3 .nil) (fun a hE => pld ?_)))
    replace hS := hS.front 1 rfl
    replace hS := hS.tail
    exact qCE ⟨k16, by omega, _, A37, c38, (l12 ++ [(⟨(nth qB.z x0_ x13).f0, (nth qB.z x0_ x13).f1⟩ : qB)]), (w64 (x13 + 1)), by omega, hE, .of, hS, H⟩
  ·
   replace hE := hE.kf 11 c20
   refine cf hE ?_
   refine wp_exit ?_
   refine hK7 _ _ (sq fun K40 hK40 => pl0 (plc hE (.r 0 2 .nil) (fun a hE => pld (hK40 _ _ (wp_ret ?_)))))
   obtain rfl := si H
   exact rt1 hE ⟨_, rfl, _, _, _, rfl, hS⟩
def qAU.l20 : Nat → Int → List qB → List qB → List Int → Int → Option (List Int)
  | 0, _, _, _, _, _ => none
  | k + 1, x0_, x1_, l13, l17, x18 => if x18 < (x1_.length : Int) then ((qu.f k x0_ l13).bind fun t30 => (if t30.2 = true then (if ((l17.length : Int) + ((1 : Nat) : Int)) * 8 ≤ 140737488355328 then ((qAB.f k l13 t30.1).bind fun t46 => (qAU.l20 k x0_ x1_ t46 (l17 ++ [t30.1]) (w64 (x18 + 1)))) else (none)) else (some l17))) else (some l17)
theorem qAU.l20_s (k : Nat) (x0_ : Int) (x1_ : List qB) (l13 : List qB) (l17 : List Int) (x18 : Int) : qAU.l20 (k + 1) x0_ x1_ l13 l17 x18 = (if x18 < (x1_.length : Int) then ((qu.f k x0_ l13).bind fun t30 => (if t30.2 = true then (if ((l17.length : Int) + ((1 : Nat) : Int)) * 8 ≤ 140737488355328 then ((qAB.f k l13 t30.1).bind fun t46 => (qAU.l20 k x0_ x1_ t46 (l17 ++ [t30.1]) (w64 (x18 + 1)))) else (none)) else (some l17))) else (some l17)) := by kernel_rfl
def qAU.f (k : Nat) (x0_ : Int) (x1_ : List qB) : Option (List Int) := qAU.l20 k x0_ x1_ x1_ ([] : List Int) 0
def qAU.Post (W F : World) (r : List Int) (v : Value) (w' : World) : Prop := ∃ (F' : World) (RA0_0 : Option Addr) (rc0_0 : Nat), v = .slice RA0_0 r.length rc0_0 ∧ St W (mine W []) F w' F' [row (Kn.int .i64) 3 (.slice RA0_0 r.length rc0_0) r]
theorem qAU.calls (k : Nat) (x0_ : Int) (x1_ : List qB) (A1_0 : Option Addr) (c1_0 : Nat) (r : List Int) (W F : World) (hown : Sub F W) (g1_0 : Rd qB.k F A1_0 c1_0 x1_) (H : qAU.f k x0_ x1_ = some r) :
    Calls Tryz.prog 171 #[.int .u64 x0_, .slice A1_0 x1_.length c1_0] W fun e w' => ∃ v, e = .returned v ∧ qAU.Post W F r v w' := by
 have hS := St.start (Own.nil hown)
 unfold qAU.f at H
 refine enter (n := 35) rfl rfl rfl (Nat.le_of_ble_eq_true rfl) (fun a hE => ?_)
 refine sq fun K1 hK1 => pl0 (plc hE (.r 0 1 .nil) (fun a hE => pld (hK1 _ _ (sq fun K2 hK2 => pl0 (ple hE (.lit (d := (Kn.int .i64)) (e := 3) hS ([] : List Int) (.nil)) ?_)))))
 rintro _ u3 a ⟨A4, c5, rfl, hS, hg⟩ hE
 refine plc hE (.r 1 1 .nil) (fun a hE => pld (hK2 _ _ (sq fun K7 hK7 => pl0 (plc hE (.r 0 3 .nil) (fun a hE => pld (hK7 _ _ (sq fun K8 hK8 => sq fun K9 hK9 => pl0 (plc hE (.r 0 1 .nil) (fun a hE => pld (hK9 _ _ (wp_block ?_)))))))))))
 refine wp_loop_ghost (fun kq21 a w' => ∃ (G : Nat → Value) (A11 : Option Addr) (c12 : Nat) (l13 : List qB) (A15 : Option Addr) (c16 : Nat) (l17 : List Int) (x18 : Int) (F19 : World), kq21 ≤ k ∧ Env 35 G a ∧ At G [(0, .int .u64 x0_), (1, .slice A11 l13.length c12), (5, .slice A15 l17.length c16), (6, .int .i64 (x1_.length : Int)), (7, .int .i64 x18)] ∧ St W (mine W []) F w' F19 [row (Kn.int .i64) 3 (.slice A15 l17.length c16) l17] ∧ Rd qB.k F19 A11 c12 l13 ∧  qAU.l20 kq21 x0_ x1_ l13 l17 x18 = some r) k ⟨_, A1_0, c1_0, x1_, A4, c5, ([] : List Int), 0, F, Nat.le_refl _, hE, .of, hS, g1_0, H⟩ ?_
 rintro kq21 a u23 ⟨G, A11, c12, l13, A15, c16, l17, x18, F19, hkq, hE, hA, hS, g14, H⟩
 cases kq21 with
 | zero => cases (show none = some r from H)
 | succ k22 =>
  rw [qAU.l20_s] at H
  obtain ⟨J, hE⟩ := hE.at hA
  refine sq fun K24 hK24 => sq fun K25 hK25 => pl0 (plc hE (.r 0 3 .nil) (fun a hE => pld (hK25 _ _ ?_)))
  rcases sp H with ⟨c26, H⟩ | ⟨c26, H⟩
  ·
   replace hE := hE.kt 15 c26
   refine ct hE (wp_skip (hK24 _ _ (sq fun K27 hK27 => wp_block (sq fun K28 hK28 => pl0 (plc hE (.r 0 2 .nil) (fun a hE => ?_))))))
   obtain ⟨t30, h31, H⟩ := bd H
   refine ple hE (.cl en207 (qu.calls k22 x0_ l13 _ _ _ _ _ hS.own.sub g14 h31)) ?_
   rintro _ u29 a ⟨_, rfl, hC⟩ hE
   replace hS := hS.lent hC
   refine plc hE (.r 3 5 .nil) (fun a hE => pld (hK28 _ _ (sq fun K32 hK32 => sq fun K33 hK33 => pl0 (plc hE (.r 0 2 .nil) (fun a hE => pld (hK33 _ _ ?_))))))
   rcases sp H with ⟨c34, H⟩ | ⟨c34, H⟩
   ·
    replace hE := hE.btn 25 c34
    refine cf hE (wp_skip (hK32 _ _ (sq fun K36 hK36 => pl0 (plc hE (.r 0 2 .nil) (fun a hE => ple hE (.lit (d := (Kn.int .i64)) (e := 3) hS [t30.1] (.cons rfl .nil)) ?_)))))
    rintro _ u37 a ⟨A38, c39, rfl, hS, hg⟩ hE
    obtain ⟨c41, H⟩ := gd H
    replace hS := hS.front 1 rfl
    refine ple hE (.ap (d := (Kn.int .i64)) 8 hS (qCM (hS.row_at (i := 1) rfl)) c41 c39) ?_
    rintro _ u44 a ⟨A42, c43, rfl, hS, hz⟩ hE
    refine plc hE (.r 4 1 .nil) (fun a hE => pld (hK36 _ _ (pl0 (plc hE (.r 0 2 .nil) (fun a hE => ?_)))))
    obtain ⟨t46, h47, H⟩ := bd H
    refine ple hE (.cl en208 (qAB.calls k22 l13 t30.1 _ _ _ _ _ hS.own.sub g14 h47)) ?_
    rintro _ u45 a ⟨F48, A49, c50, rfl, hC⟩ hE
    have hs := hC.sub
    replace hS := hS.called (X := []) hC
    replace g14 := g14.mono hs
    refine plc hE (.r 3 1 .nil) (fun a hE => pld ?_)
    refine qCD ?_
    refine hK27 _ _ (pl0 (plc hE (.r 0 3 .nil) (fun a hE => pld ?_)))
    obtain ⟨F53, hs, g54, hS⟩ := hS.give
    replace g14 := g14.mono hs
    replace hS := hS.front 1 rfl
    replace hS := hS.tail
    exact qCE ⟨k22, by omega, _, A49, c50, t46, A42, c43, (l17 ++ [t30.1]), (w64 (x18 + 1)), F53, by omega, hE, .of, hS, g54, H⟩
   ·
    replace hE := hE.bfn 25 c34
    refine ct hE (sq fun K35 hK35 => pl0 (plc hE (.r 0 2 .nil) (fun a hE => pld (hK35 _ _ (wp_ret (qCB (qCC (qCB (qCB (qCC (qCB ?_)))))))))))
    obtain rfl := si H
    exact rt1 hE ⟨_, rfl, _, _, _, rfl, hS⟩
  ·
   replace hE := hE.kf 15 c26
   refine cf hE ?_
   refine wp_exit ?_
   refine hK8 _ _ (sq fun K55 hK55 => pl0 (plc hE (.r 0 2 .nil) (fun a hE => pld (hK55 _ _ (wp_ret ?_)))))
   obtain rfl := si H
   exact rt1 hE ⟨_, rfl, _, _, _, rfl, hS⟩
end Go.Proofs.YtpohepinmjmbkaaGreat.QS
