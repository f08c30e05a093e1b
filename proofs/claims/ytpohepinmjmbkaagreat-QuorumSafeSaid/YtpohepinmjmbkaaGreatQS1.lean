import Derived.Test.YtpohepinmjmbkaaGreatQS0
namespace Go.Proofs.YtpohepinmjmbkaaGreat.QS
open Go Go.RowKit Go.Proofs.YtpohepinmjmbkaaGreat.Sl
set_option linter.unusedVariables false
set_option linter.unusedSimpArgs false
set_option maxHeartbeats 4000000
set_option maxRecDepth 100000
mutual
def qT.l7 : Nat → qJ → Int → Option Bool
  | 0, _, _ => none
  | k + 1, x0_, x6 => if x6 < (x0_.f5.length : Int) then (qT.j15 k x0_ x6 (decide (x6 < 20))) else (qT.j15 k x0_ x6 false)
def qT.j15 : Nat → qJ → Int → Bool → Option Bool
  | 0, _, _, _ => none
  | k + 1, x0_, x6, y14 => if y14 = true then (if 0 ≤ x6 ∧ x6 < (x0_.f5.length : Int) then (if (((nth qK.z x0_.f5 x6).f1).length : Int) > 20 then (some false) else (qT.l7 k x0_ (w64 (x6 + 1)))) else (none)) else (qT.l36 k x0_ 0)
def qT.l36 : Nat → qJ → Int → Option Bool
  | 0, _, _ => none
  | k + 1, x0_, x35 => if x35 < (x0_.f6.length : Int) then (qT.j44 k x0_ x35 (decide (x35 < 20))) else (qT.j44 k x0_ x35 false)
def qT.j44 : Nat → qJ → Int → Bool → Option Bool
  | 0, _, _, _ => none
  | k + 1, x0_, x35, y43 => if y43 = true then (if 0 ≤ x35 ∧ x35 < (x0_.f6.length : Int) then (if (((nth qC.z x0_.f6 x35).f1).length : Int) > 20 then (some false) else (qT.l65 k x0_ x35 0)) else (none)) else (if (x0_.f4.length : Int) ≤ 30 then (if (x0_.f5.length : Int) ≤ 20 then (some (decide ((x0_.f6.length : Int) ≤ 20))) else (some false)) else (some false))
def qT.l65 : Nat → qJ → Int → Int → Option Bool
  | 0, _, _, _ => none
  | k + 1, x0_, x35, x64 => if x64 < (((nth qC.z x0_.f6 x35).f1).length : Int) then (if 0 ≤ x64 ∧ x64 < (((nth qC.z x0_.f6 x35).f1).length : Int) then (if (((nth qD.z ((nth qC.z x0_.f6 x35).f1) x64).f1).length : Int) > 20 then (some false) else (qT.l65 k x0_ x35 (w64 (x64 + 1)))) else (none)) else (qT.l36 k x0_ (w64 (x35 + 1)))
end
theorem qT.l7_s (k : Nat) (x0_ : qJ) (x6 : Int) : qT.l7 (k + 1) x0_ x6 = (if x6 < (x0_.f5.length : Int) then (qT.j15 k x0_ x6 (decide (x6 < 20))) else (qT.j15 k x0_ x6 false)) := by kernel_rfl
theorem qT.j15_s (k : Nat) (x0_ : qJ) (x6 : Int) (y14 : Bool) : qT.j15 (k + 1) x0_ x6 y14 = (if y14 = true then (if 0 ≤ x6 ∧ x6 < (x0_.f5.length : Int) then (if (((nth qK.z x0_.f5 x6).f1).length : Int) > 20 then (some false) else (qT.l7 k x0_ (w64 (x6 + 1)))) else (none)) else (qT.l36 k x0_ 0)) := by kernel_rfl
theorem qT.l36_s (k : Nat) (x0_ : qJ) (x35 : Int) : qT.l36 (k + 1) x0_ x35 = (if x35 < (x0_.f6.length : Int) then (qT.j44 k x0_ x35 (decide (x35 < 20))) else (qT.j44 k x0_ x35 false)) := by kernel_rfl
theorem qT.j44_s (k : Nat) (x0_ : qJ) (x35 : Int) (y43 : Bool) : qT.j44 (k + 1) x0_ x35 y43 = (if y43 = true then (if 0 ≤ x35 ∧ x35 < (x0_.f6.length : Int) then (if (((nth qC.z x0_.f6 x35).f1).length : Int) > 20 then (some false) else (qT.l65 k x0_ x35 0)) else (none)) else (if (x0_.f4.length : Int) ≤ 30 then (if (x0_.f5.length : Int) ≤ 20 then (some (decide ((x0_.f6.length : Int) ≤ 20))) else (some false)) else (some false))) := by kernel_rfl
theorem qT.l65_s (k : Nat) (x0_ : qJ) (x35 : Int) (x64 : Int) : qT.l65 (k + 1) x0_ x35 x64 = (if x64 < (((nth qC.z x0_.f6 x35).f1).length : Int) then (if 0 ≤ x64 ∧ x64 < (((nth qC.z x0_.f6 x35).f1).length : Int) then (if (((nth qD.z ((nth qC.z x0_.f6 x35).f1) x64).f1).length : Int) > 20 then (some false) else (qT.l65 k x0_ x35 (w64 (x64 + 1)))) else (none)) else (qT.l36 k x0_ (w64 (x35 + 1)))) := by kernel_rfl
def qT.f (k : Nat) (x0_ : qJ) : Option Bool := qT.l7 k x0_ 0
def qT.Post (W F : World) (r : Bool) (v : Value) (w' : World) : Prop := ∃ (F' : World), v = .bool r ∧ St W (mine W []) F w' F' []
theorem qT.calls (k : Nat) (x0_ : qJ) (A0_4 : Option Addr) (c0_4 : Nat) (A0_5 : Option Addr) (c0_5 : Nat) (A0_6 : Option Addr) (c0_6 : Nat) (r : Bool) (W F : World) (hown : Sub F W) (g0_4 : Rd qA.k F A0_4 c0_4 x0_.f4) (g0_5 : Rd qK.k F A0_5 c0_5 x0_.f5) (g0_6 : Rd qC.k F A0_6 c0_6 x0_.f6) (H : qT.f k x0_ = some r) :
    Calls Tryz.prog 20 #[.agg #[.int .i64 x0_.f0, .int .i64 x0_.f1, .int .i64 x0_.f2, .int .i64 x0_.f3, .slice A0_4 x0_.f4.length c0_4, .slice A0_5 x0_.f5.length c0_5, .slice A0_6 x0_.f6.length c0_6]] W fun e w' => ∃ v, e = .returned v ∧ qT.Post W F r v w' := by
 have hS := St.start (Own.nil hown)
 unfold qT.f at H
 refine enter (n := 83) rfl rfl rfl (Nat.le_of_ble_eq_true rfl) (fun a hE => ?_)
 refine sq fun K1 hK1 => pl0 (ple hE (.bx (t := 26) hS [.int .i64 x0_.f0, .int .i64 x0_.f1, .int .i64 x0_.f2, .int .i64 x0_.f3, .slice A0_4 x0_.f4.length c0_4, .slice A0_5 x0_.f5.length c0_5, .slice A0_6 x0_.f6.length c0_6]) ?_)
 rintro _ u3 a ⟨b2, rfl, hb2, hS, hg⟩ hE
 refine plc hE (.r 1 1 .nil) (fun a hE => pld (hK1 _ _ (sq fun K4 hK4 => sq fun K5 hK5 => pl0 (plc hE (.r 0 1 .nil) (fun a hE => pld (hK5 _ _ (wp_block ?_)))))))
 refine wp_loop_ghost (fun kq8 a w' => ∃ (G : Nat → Value) (x6 : Int), kq8 ≤ k ∧ Env 83 G a ∧ At G [(1, .pointer (some ⟨b2, 0, none⟩)), (3, .int .i64 x6)] ∧ St W (mine W []) F w' F [box b2 #[.int .i64 x0_.f0, .int .i64 x0_.f1, .int .i64 x0_.f2, .int .i64 x0_.f3, .slice A0_4 x0_.f4.length c0_4, .slice A0_5 x0_.f5.length c0_5, .slice A0_6 x0_.f6.length c0_6] 26] ∧  qT.l7 kq8 x0_ x6 = some r) k ⟨_, 0, Nat.le_refl _, hE, .of, hS, H⟩ ?_
 rintro kq8 a u10 ⟨G, x6, hkq, hE, hA, hS, H⟩
 cases kq8 with
 | zero => cases (show none = some r from H)
 | succ k9 =>
  rw [qT.l7_s] at H
  obtain ⟨J, hE⟩ := hE.at hA
  refine sq fun K11 hK11 => sq fun K12 hK12 => ?_
  have J18 : ∀ kq16, kq16 ≤ k9 → ∀ (G : Nat → Value) (y14 : Bool) (a : Act) (w' : World), Env 83 G a → At G [(1, .pointer (some ⟨b2, 0, none⟩)), (3, .int .i64 x6), (14, .bool y14)] → St W (mine W []) F w' F [box b2 #[.int .i64 x0_.f0, .int .i64 x0_.f1, .int .i64 x0_.f2, .int .i64 x0_.f3, .slice A0_4 x0_.f4.length c0_4, .slice A0_5 x0_.f5.length c0_5, .slice A0_6 x0_.f6.length c0_6] 26] → qT.j15 kq16 x0_ x6 y14 = some r → K12 a w' := by
   intro kq16 hkq G y14 a u19 hE hA hS H
   cases kq16 with
   | zero => cases (show none = some r from H)
   | succ k17 =>
    rw [qT.j15_s] at H
    obtain ⟨J, hE⟩ := hE.at hA
    refine hK12 _ _ ?_
    rcases sp H with ⟨c20, H⟩ | ⟨c20, H⟩
    ·
     replace hE := hE.bt 14 c20
     refine ct hE (wp_skip (hK11 _ _ (sq fun K21 hK21 => wp_block (sq fun K22 hK22 => pl0 ?_))))
     have hb2 := hS.blk_at (i := 0) rfl
     obtain ⟨c23, H⟩ := gd H
     have hE_ := hE
     obtain ⟨ad24, rfl⟩ := g0_5.addr c23.1 c23.2
     replace hE := hE_
     obtain ⟨cs26, ⟨A28, c29, rfl, g30⟩, hc27⟩ := g0_5.el qK.z x6 c23.1 c23.2
     refine plc hE (.r 0 1 <| .b 1 5 hb2 <| .r 2 1 <| .x 3 c23 <| .r 4 1 <| .c 5 (hS.fc hc27 1) <| .r 6 2 <| .nil) (fun a hE => pld (hK22 _ _ ?_))
     rcases sp H with ⟨c31, H⟩ | ⟨c31, H⟩
     ·
      replace hE := hE.kt 24 c31
      refine ct hE (sq fun K32 hK32 => pl0 (plc hE (.r 0 1 .nil) (fun a hE => pld (hK32 _ _ (wp_ret (qCC (qCB (qCB (qCC (qCB ?_))))))))))
      replace hS := hS.tail
      obtain rfl := si H
      exact rt1 hE ⟨_, rfl, _, rfl, hS⟩
     ·
      replace hE := hE.kf 24 c31
      refine cf hE (wp_skip ?_)
      refine qCD ?_
      refine hK21 _ _ (pl0 (plc hE (.r 0 3 .nil) (fun a hE => pld ?_)))
      exact qCE ⟨k17, by omega, _, (w64 (x6 + 1)), by omega, hE, .of, hS, H⟩
    ·
     replace hE := hE.bf 14 c20
     refine cf hE ?_
     refine wp_exit ?_
     refine hK4 _ _ (sq fun K33 hK33 => sq fun K34 hK34 => pl0 (plc hE (.r 0 1 .nil) (fun a hE => pld (hK34 _ _ (wp_block ?_)))))
     refine wp_loop_ghost (fun kq37 a w' => ∃ (G : Nat → Value) (x35 : Int), kq37 ≤ k17 ∧ Env 83 G a ∧ At G [(1, .pointer (some ⟨b2, 0, none⟩)), (4, .int .i64 x35)] ∧ St W (mine W []) F w' F [box b2 #[.int .i64 x0_.f0, .int .i64 x0_.f1, .int .i64 x0_.f2, .int .i64 x0_.f3, .slice A0_4 x0_.f4.length c0_4, .slice A0_5 x0_.f5.length c0_5, .slice A0_6 x0_.f6.length c0_6] 26] ∧  qT.l36 kq37 x0_ x35 = some r) k17 ⟨_, 0, Nat.le_refl _, hE, .of, hS, H⟩ ?_
     rintro kq37 a u39 ⟨G, x35, hkq, hE, hA, hS, H⟩
     cases kq37 with
     | zero => cases (show none = some r from H)
     | succ k38 =>
      rw [qT.l36_s] at H
      obtain ⟨J, hE⟩ := hE.at hA
      refine sq fun K40 hK40 => sq fun K41 hK41 => ?_
      have J47 : ∀ kq45, kq45 ≤ k38 → ∀ (G : Nat → Value) (y43 : Bool) (a : Act) (w' : World), Env 83 G a → At G [(1, .pointer (some ⟨b2, 0, none⟩)), (4, .int .i64 x35), (33, .bool y43)] → St W (mine W []) F w' F [box b2 #[.int .i64 x0_.f0, .int .i64 x0_.f1, .int .i64 x0_.f2, .int .i64 x0_.f3, .slice A0_4 x0_.f4.length c0_4, .slice A0_5 x0_.f5.length c0_5, .slice A0_6 x0_.f6.length c0_6] 26] → qT.j44 kq45 x0_ x35 y43 = some r → K41 a w' := by
       intro kq45 hkq G y43 a u48 hE hA hS H
       cases kq45 with
       | zero => cases (show none = some r from H)
       | succ k46 =>
        rw [qT.j44_s] at H
        obtain ⟨J, hE⟩ := hE.at hA
        refine hK41 _ _ ?_
        rcases sp H with ⟨c49, H⟩ | ⟨c49, H⟩
        ·
         replace hE := hE.bt 33 c49
         refine ct hE (wp_skip (hK40 _ _ (sq fun K50 hK50 => wp_block (sq fun K51 hK51 => sq fun K52 hK52 => pl0 ?_))))
         have hb2 := hS.blk_at (i := 0) rfl
         obtain ⟨c53, H⟩ := gd H
         have hE_ := hE
         obtain ⟨ad54, rfl⟩ := g0_6.addr c53.1 c53.2
         replace hE := hE_
         obtain ⟨cs56, ⟨A58, c59, rfl, g60⟩, hc57⟩ := g0_6.el qC.z x35 c53.1 c53.2
         refine plc hE (.r 0 1 <| .b 1 6 hb2 <| .r 2 1 <| .x 3 c53 <| .r 4 1 <| .c 5 (hS.fc hc57 1) <| .r 6 2 <| .nil) (fun a hE => pld (hK52 _ _ ?_))
         rcases sp H with ⟨c61, H⟩ | ⟨c61, H⟩
         ·
          replace hE := hE.kt 43 c61
          refine ct hE (sq fun K62 hK62 => pl0 (plc hE (.r 0 1 .nil) (fun a hE => pld (hK62 _ _ (wp_ret (qCB (qCC (qCB (qCB (qCC (qCB ?_)))))))))))
          replace hS := hS.tail
          obtain rfl := si H
          exact rt1 hE ⟨_, rfl, _, rfl, hS⟩
         ·
          replace hE := hE.kf 43 c61
          refine cf hE (wp_skip (hK51 _ _ (sq fun K63 hK63 => pl0 (plc hE (.r 0 1 .nil) (fun a hE => pld (hK63 _ _ (wp_block ?_)))))))
          refine wp_loop_ghost (fun kq66 a w' => ∃ (G : Nat → Value) (x64 : Int), kq66 ≤ k46 ∧ Env 83 G a ∧ At G [(1, .pointer (some ⟨b2, 0, none⟩)), (4, .int .i64 x35), (5, .int .i64 x64)] ∧ St W (mine W []) F w' F [box b2 #[.int .i64 x0_.f0, .int .i64 x0_.f1, .int .i64 x0_.f2, .int .i64 x0_.f3, .slice A0_4 x0_.f4.length c0_4, .slice A0_5 x0_.f5.length c0_5, .slice (some ad54) x0_.f6.length c0_6] 26] ∧  qT.l65 kq66 x0_ x35 x64 = some r) k46 ⟨_, 0, Nat.le_refl _, hE, .of, hS, H⟩ ?_
          rintro kq66 a u68 ⟨G, x64, hkq, hE, hA, hS, H⟩
          cases kq66 with
          | zero => cases (show none = some r from H)
          | succ k67 =>
           rw [qT.l65_s] at H
           obtain ⟨J, hE⟩ := hE.at hA
           refine sq fun K69 hK69 => sq fun K70 hK70 => pl0 ?_
           have hb2 := hS.blk_at (i := 0) rfl
           obtain ⟨cs72, ⟨A74, c75, rfl, g76⟩, hc73⟩ := g0_6.el qC.z x35 c53.1 c53.2
           refine plc hE (.r 0 2 <| .b 2 6 hb2 <| .r 3 1 <| .x 4 c53 <| .r 5 1 <| .c 6 (hS.fc hc73 1) <| .r 7 2 <| .nil) (fun a hE => pld (hK70 _ _ ?_))
           rcases sp H with ⟨c77, H⟩ | ⟨c77, H⟩
           ·
            replace hE := hE.kt 52 c77
            refine ct hE (wp_skip (hK69 _ _ (sq fun K78 hK78 => wp_block (sq fun K79 hK79 => pl0 ?_))))
            obtain ⟨c83, H⟩ := gd H
            have hE_ := hE
            obtain ⟨ad84, rfl⟩ := g76.addr c83.1 c83.2
            replace hE := hE_
            obtain ⟨cs86, ⟨A88, c89, rfl, g90⟩, hc87⟩ := g76.el qD.z x64 c83.1 c83.2
            refine plc hE (.r 0 1 <| .b 1 6 hb2 <| .r 2 1 <| .x 3 c53 <| .r 4 1 <| .c 5 (hS.fc hc73 1) <| .r 6 1 <| .x 7 c83 <| .r 8 1 <| .c 9 (hS.fc hc87 1) <| .r 10 2 <| .nil) (fun a hE => pld (hK79 _ _ ?_))
            rcases sp H with ⟨c91, H⟩ | ⟨c91, H⟩
            ·
             replace hE := hE.kt 66 c91
             refine ct hE (sq fun K92 hK92 => pl0 (plc hE (.r 0 1 .nil) (fun a hE => pld (hK92 _ _ (wp_ret (qCC (qCB (qCB (qCC (qCC (qCB (qCB (qCC (qCB ?_))))))))))))))
             replace hS := hS.tail
             obtain rfl := si H
             exact rt1 hE ⟨_, rfl, _, rfl, hS⟩
            ·
             replace hE := hE.kf 66 c91
             refine cf hE (wp_skip ?_)
             refine qCD ?_
             refine hK78 _ _ (pl0 (plc hE (.r 0 3 .nil) (fun a hE => pld ?_)))
             exact qCE ⟨k67, by omega, _, (w64 (x64 + 1)), by omega, hE, .of, hS, H⟩
           ·
            replace hE := hE.kf 52 c77
            refine cf hE ?_
            refine wp_exit ?_
            refine hK50 _ _ (pl0 (plc hE (.r 0 3 .nil) (fun a hE => pld ?_)))
            exact qCE ⟨k67, by omega, _, (w64 (x35 + 1)), by omega, hE, .of, hS, H⟩
        ·
         replace hE := hE.bf 33 c49
         refine cf hE ?_
         refine wp_exit ?_
         refine hK33 _ _ (sq fun K93 hK93 => pl0 ?_)
         have hb2 := hS.blk_at (i := 0) rfl
         refine plc hE (.r 0 1 <| .b 1 4 hb2 <| .r 2 3 <| .nil) (fun a hE => ?_)
         rcases sp H with ⟨c94, H⟩ | ⟨c94, H⟩
         ·
          replace hE := hE.kt 71 c94
          refine plc hE (.r 5 1 <| .b 6 5 hb2 <| .r 7 4 <| .nil) (fun a hE => ?_)
          rcases sp H with ⟨c95, H⟩ | ⟨c95, H⟩
          ·
           replace hE := hE.kt 77 c95
           refine plc hE (.r 11 1 <| .b 12 6 hb2 <| .r 13 4 <| .nil) (fun a hE => pld (hK93 _ _ (wp_ret ?_)))
           replace hS := hS.tail
           obtain rfl := si H
           exact rt1 hE ⟨_, rfl, _, rfl, hS⟩
          ·
           replace hE := hE.kf 77 c95
           refine plc hE (.r 11 6 .nil) (fun a hE => pld (hK93 _ _ (wp_ret ?_)))
           replace hS := hS.tail
           obtain rfl := si H
           exact rt1 hE ⟨_, rfl, _, rfl, hS⟩
         ·
          replace hE := hE.kf 71 c94
          refine plc hE (.r 5 12 .nil) (fun a hE => pld (hK93 _ _ (wp_ret ?_)))
          replace hS := hS.tail
          obtain rfl := si H
          exact rt1 hE ⟨_, rfl, _, rfl, hS⟩
      refine pl0 ?_
      have hb2 := hS.blk_at (i := 0) rfl
      refine plc hE (.r 0 2 <| .b 2 6 hb2 <| .r 3 3 <| .nil) (fun a hE => ?_)
      rcases sp H with ⟨c42, H⟩ | ⟨c42, H⟩
      ·
       replace hE := hE.kt 30 c42
       refine plc hE (.r 6 3 .nil) (fun a hE => pld ?_)
       exact J47 _ (by omega) _ (decide (x35 < 20)) _ _ hE .of hS H
      ·
       replace hE := hE.kf 30 c42
       refine plc hE (.r 6 3 .nil) (fun a hE => pld ?_)
       exact J47 _ (by omega) _ false _ _ hE .of hS H
  refine pl0 ?_
  have hb2 := hS.blk_at (i := 0) rfl
  refine plc hE (.r 0 2 <| .b 2 5 hb2 <| .r 3 3 <| .nil) (fun a hE => ?_)
  rcases sp H with ⟨c13, H⟩ | ⟨c13, H⟩
  ·
   replace hE := hE.kt 11 c13
   refine plc hE (.r 6 3 .nil) (fun a hE => pld ?_)
   exact J18 _ (by omega) _ (decide (x6 < 20)) _ _ hE .of hS H
  ·
   replace hE := hE.kf 11 c13
   refine plc hE (.r 6 3 .nil) (fun a hE => pld ?_)
   exact J18 _ (by omega) _ false _ _ hE .of hS H
def qAp.f (x0_ : Int) (x1_ : Int) (x2_ : Int) : Option Bool := if x0_ ≥ x1_ then (some (decide (x0_ ≤ x2_))) else (some false)
def qAp.Post (W F : World) (r : Bool) (v : Value) (w' : World) : Prop := ∃ (F' : World), v = .bool r ∧ St W (mine W []) F w' F' []
theorem qAp.calls (x0_ : Int) (x1_ : Int) (x2_ : Int) (r : Bool) (W F : World) (hown : Sub F W) (H : qAp.f x0_ x1_ x2_ = some r) :
    Calls Tryz.prog 70 #[.int .i64 x0_, .int .i64 x1_, .int .i64 x2_] W fun e w' => ∃ v, e = .returned v ∧ qAp.Post W F r v w' := by
 have hS := St.start (Own.nil hown)
 unfold qAp.f at H
 refine enter (n := 15) rfl rfl rfl (Nat.le_of_ble_eq_true rfl) (fun a hE => ?_)
 refine sq fun K1 hK1 => pl0 (plc hE (.r 0 1 .nil) (fun a hE => pld (hK1 _ _ (sq fun K2 hK2 => pl0 (plc hE (.r 0 4 .nil) (fun a hE => ?_))))))
 rcases sp H with ⟨c3, H⟩ | ⟨c3, H⟩
 ·
  replace hE := hE.kt 10 c3
  refine plc hE (.r 4 5 .nil) (fun a hE => pld (hK2 _ _ (wp_ret ?_)))
  obtain rfl := si H
  exact rt1 hE ⟨_, rfl, _, rfl, hS⟩
 ·
  replace hE := hE.kf 10 c3
  refine plc hE (.r 4 5 .nil) (fun a hE => pld (hK2 _ _ (wp_ret ?_)))
  obtain rfl := si H
  exact rt1 hE ⟨_, rfl, _, rfl, hS⟩
def qBj.f (x0_ : Int) (x1_ : Int) (x2_ : Int) : Option Bool := if x0_ ≥ x1_ then (some (decide (x0_ ≤ x2_))) else (some false)
def qBj.Post (W F : World) (r : Bool) (v : Value) (w' : World) : Prop := ∃ (F' : World), v = .bool r ∧ St W (mine W []) F w' F' []
theorem qBj.calls (x0_ : Int) (x1_ : Int) (x2_ : Int) (r : Bool) (W F : World) (hown : Sub F W) (H : qBj.f x0_ x1_ x2_ = some r) :
    Calls Tryz.prog 141 #[.int .i64 x0_, .int .i64 x1_, .int .i64 x2_] W fun e w' => ∃ v, e = .returned v ∧ qBj.Post W F r v w' := by
 have hS := St.start (Own.nil hown)
 unfold qBj.f at H
 refine enter (n := 15) rfl rfl rfl (Nat.le_of_ble_eq_true rfl) (fun a hE => ?_)
 refine sq fun K1 hK1 => pl0 (plc hE (.r 0 1 .nil) (fun a hE => pld (hK1 _ _ (sq fun K2 hK2 => pl0 (plc hE (.r 0 4 .nil) (fun a hE => ?_))))))
 rcases sp H with ⟨c3, H⟩ | ⟨c3, H⟩
 ·
  replace hE := hE.kt 10 c3
  refine plc hE (.r 4 5 .nil) (fun a hE => pld (hK2 _ _ (wp_ret ?_)))
  obtain rfl := si H
  exact rt1 hE ⟨_, rfl, _, rfl, hS⟩
 ·
  replace hE := hE.kf 10 c3
  refine plc hE (.r 4 5 .nil) (fun a hE => pld (hK2 _ _ (wp_ret ?_)))
  obtain rfl := si H
  exact rt1 hE ⟨_, rfl, _, rfl, hS⟩
mutual
def qAG.l9 : Nat → List qA → Int → Option Int
  | 0, _, _ => none
  | k + 1, x0_, x8 => if x8 < (x0_.length : Int) then (if 0 ≤ x8 ∧ x8 < (x0_.length : Int) then ((qBj.f ((nth qA.z x0_ x8).f0) 1 999).bind fun t28 => (if t28 = true then ((qBj.f ((nth qA.z x0_ x8).f1) 1 9).bind fun t32 => (if t32 = true then ((qBj.f ((nth qA.z x0_ x8).f2) 1 9).bind fun t36 => (if t36 = true then ((qBj.f ((nth qA.z x0_ x8).f3) 0 65536).bind fun t40 => (if t40 = true then (if x8 > 0 then (if 0 ≤ (w64 (x8 - 1)) ∧ (w64 (x8 - 1)) < (x0_.length : Int) then (qAG.j49 k x0_ x8 (decide ((nth qA.z x0_ x8).f0 ≤ (nth qA.z x0_ (w64 (x8 - 1))).f0))) else (none)) else (qAG.j49 k x0_ x8 false)) else (qAG.j49 k x0_ x8 true))) else (qAG.j49 k x0_ x8 true))) else (qAG.j49 k x0_ x8 true))) else (qAG.j49 k x0_ x8 true))) else (none)) else (some 0)
def qAG.j49 : Nat → List qA → Int → Bool → Option Int
  | 0, _, _, _ => none
  | k + 1, x0_, x8, y48 => if y48 = true then (some 1) else (qAG.l9 k x0_ (w64 (x8 + 1)))
end
theorem qAG.l9_s (k : Nat) (x0_ : List qA) (x8 : Int) : qAG.l9 (k + 1) x0_ x8 = (if x8 < (x0_.length : Int) then (if 0 ≤ x8 ∧ x8 < (x0_.length : Int) then ((qBj.f ((nth qA.z x0_ x8).f0) 1 999).bind fun t28 => (if t28 = true then ((qBj.f ((nth qA.z x0_ x8).f1) 1 9).bind fun t32 => (if t32 = true then ((qBj.f ((nth qA.z x0_ x8).f2) 1 9).bind fun t36 => (if t36 = true then ((qBj.f ((nth qA.z x0_ x8).f3) 0 65536).bind fun t40 => (if t40 = true then (if x8 > 0 then (if 0 ≤ (w64 (x8 - 1)) ∧ (w64 (x8 - 1)) < (x0_.length : Int) then (qAG.j49 k x0_ x8 (decide ((nth qA.z x0_ x8).f0 ≤ (nth qA.z x0_ (w64 (x8 - 1))).f0))) else (none)) else (qAG.j49 k x0_ x8 false)) else (qAG.j49 k x0_ x8 true))) else (qAG.j49 k x0_ x8 true))) else (qAG.j49 k x0_ x8 true))) else (qAG.j49 k x0_ x8 true))) else (none)) else (some 0)) := by kernel_rfl
theorem qAG.j49_s (k : Nat) (x0_ : List qA) (x8 : Int) (y48 : Bool) : qAG.j49 (k + 1) x0_ x8 y48 = (if y48 = true then (some 1) else (qAG.l9 k x0_ (w64 (x8 + 1)))) := by kernel_rfl
def qAG.f (k : Nat) (x0_ : List qA) : Option Int := if (x0_.length : Int) > 12 then (some 1) else (qAG.l9 k x0_ 0)
def qAG.Post (W F : World) (r : Int) (v : Value) (w' : World) : Prop := ∃ (F' : World), v = .int .i64 r ∧ St W (mine W []) F w' F' []
theorem qAG.calls (k : Nat) (x0_ : List qA) (A0_0 : Option Addr) (c0_0 : Nat) (r : Int) (W F : World) (hown : Sub F W) (g0_0 : Rd qA.k F A0_0 c0_0 x0_) (H : qAG.f k x0_ = some r) :
    Calls Tryz.prog 80 #[.slice A0_0 x0_.length c0_0] W fun e w' => ∃ v, e = .returned v ∧ qAG.Post W F r v w' := by
 have hS := St.start (Own.nil hown)
 unfold qAG.f at H
 refine enter (n := 53) rfl rfl rfl (Nat.le_of_ble_eq_true rfl) (fun a hE => ?_)
 refine sq fun K1 hK1 => pl0 (plc hE (.r 0 1 .nil) (fun a hE => pld (hK1 _ _ (sq fun K2 hK2 => sq fun K3 hK3 => pl0 (plc hE (.r 0 3 .nil) (fun a hE => pld (hK3 _ _ ?_)))))))
 rcases sp H with ⟨c4, H⟩ | ⟨c4, H⟩
 ·
  replace hE := hE.kt 7 c4
  refine ct hE (sq fun K5 hK5 => pl0 (plc hE (.r 0 1 .nil) (fun a hE => pld (hK5 _ _ (wp_ret (qCB ?_))))))
  obtain rfl := si H
  exact rt1 hE ⟨_, rfl, _, rfl, hS⟩
 ·
  replace hE := hE.kf 7 c4
  refine cf hE (wp_skip (hK2 _ _ (sq fun K6 hK6 => sq fun K7 hK7 => pl0 (plc hE (.r 0 3 .nil) (fun a hE => pld (hK7 _ _ (wp_block ?_)))))))
  refine wp_loop_ghost (fun kq10 a w' => ∃ (G : Nat → Value) (x8 : Int), kq10 ≤ k ∧ Env 53 G a ∧ At G [(0, .slice A0_0 x0_.length c0_0), (8, .slice A0_0 x0_.length c0_0), (9, .int .i64 (x0_.length : Int)), (10, .int .i64 x8)] ∧ St W (mine W []) F w' F [] ∧  qAG.l9 kq10 x0_ x8 = some r) k ⟨_, 0, Nat.le_refl _, hE, .of, hS, H⟩ ?_
  rintro kq10 a u12 ⟨G, x8, hkq, hE, hA, hS, H⟩
  cases kq10 with
  | zero => cases (show none = some r from H)
  | succ k11 =>
   rw [qAG.l9_s] at H
   obtain ⟨J, hE⟩ := hE.at hA
   refine sq fun K13 hK13 => pl0 (plc hE (.r 0 1 .nil) (fun a hE => pld (hK13 _ _ (sq fun K14 hK14 => ?_))))
   rcases sp H with ⟨c15, H⟩ | ⟨c15, H⟩
   ·
    replace hE := hE.kt 11 c15
    refine ct hE (wp_skip (hK14 _ _ (sq fun K16 hK16 => wp_block (sq fun K17 hK17 => pl0 ?_))))
    obtain ⟨c18, H⟩ := gd H
    have hE_ := hE
    obtain ⟨ad19, rfl⟩ := g0_0.addr c18.1 c18.2
    replace hE := hE_
    obtain ⟨cs21, rfl, hc22⟩ := g0_0.el qA.z x8 c18.1 c18.2
    refine plc hE (.r 0 1 <| .x 1 c18 <| .cs 2 (hS.fcs hc22) <| .nil) (fun a hE => ple hE (.al (t := 104) hS [.int .i64 0, .int .i64 0, .int .i64 0, .int .i64 0, .bool false, .bool false]) ?_)
    rintro _ u24 a ⟨b23, rfl, hb23, hS, hg⟩ hE
    refine plc hE (.r 4 1 .nil) (fun a hE => ple hE (.sto hS [.int .i64 ((nth qA.z x0_ x8).f0), .int .i64 ((nth qA.z x0_ x8).f1), .int .i64 ((nth qA.z x0_ x8).f2), .int .i64 ((nth qA.z x0_ x8).f3), .bool ((nth qA.z x0_ x8).f4), .bool ((nth qA.z x0_ x8).f5)]) ?_)
    rintro _ u25 a ⟨rfl, hb23, hS, hz⟩ hE
    refine pld (hK17 _ _ (sq fun K26 hK26 => ?_))
    have J52 : ∀ kq50, kq50 ≤ k11 → ∀ (G : Nat → Value) (y48 : Bool) (a : Act) (w' : World), Env 53 G a → At G [(0, .slice (some ad19) x0_.length c0_0), (8, .slice (some ad19) x0_.length c0_0), (9, .int .i64 (x0_.length : Int)), (10, .int .i64 x8), (51, .bool y48)] → St W (mine W []) F w' F [box b23 #[.int .i64 ((nth qA.z x0_ x8).f0), .int .i64 ((nth qA.z x0_ x8).f1), .int .i64 ((nth qA.z x0_ x8).f2), .int .i64 ((nth qA.z x0_ x8).f3), .bool ((nth qA.z x0_ x8).f4), .bool ((nth qA.z x0_ x8).f5)] 104] → qAG.j49 kq50 x0_ x8 y48 = some r → K26 a w' := by
     intro kq50 hkq G y48 a u53 hE hA hS H
     cases kq50 with
     | zero => cases (show none = some r from H)
     | succ k51 =>
      rw [qAG.j49_s] at H
      obtain ⟨J, hE⟩ := hE.at hA
      refine hK26 _ _ ?_
      rcases sp H with ⟨c54, H⟩ | ⟨c54, H⟩
      ·
       replace hE := hE.bt 51 c54
       refine ct hE (sq fun K55 hK55 => pl0 (plc hE (.r 0 1 .nil) (fun a hE => pld (hK55 _ _ (wp_ret (qCC (qCB (qCB (qCC (qCB ?_))))))))))
       replace hS := hS.tail
       obtain rfl := si H
       exact rt1 hE ⟨_, rfl, _, rfl, hS⟩
      ·
       replace hE := hE.bf 51 c54
       refine cf hE (wp_skip ?_)
       refine qCD ?_
       refine hK16 _ _ (pl0 (plc hE (.r 0 2 .nil) (fun a hE => pld ?_)))
       replace hS := hS.tail
       exact qCE ⟨k51, by omega, _, (w64 (x8 + 1)), by omega, hE, .of, hS, H⟩
    refine drawn 37 ⟨[], [], fun q => False⟩ mixed rfl (by kernel_rfl) (fun hst => ?_)
    replace hS := hS.drew
    have hb23 := hS.blk_at (i := 0) rfl
    refine mny 35 hst hE (.r 0 1 <| .b 1 0 hb23 <| .nil) (fun a hE => ?_)
    obtain ⟨t28, h29, H⟩ := bd H
    refine on1 2 hE (.cl en141 (qBj.calls ((nth qA.z x0_ x8).f0) 1 999 _ _ _ hS.own.sub h29)) ?_
    rintro _ u27 a ⟨_, rfl, hC⟩ hE
    refine ⟨.of hC.agr, ?_⟩
    replace hS := hS.lent hC
    refine mny 32 hst hE (.r 3 2 .nil) (fun a hE => ?_)
    rcases sp H with ⟨c30, H⟩ | ⟨c30, H⟩
    ·
     replace hE := hE.btn 19 c30
     have hb23 := hS.blk_at (i := 0) rfl
     refine mny 30 hst hE (.r 5 1 <| .b 6 1 hb23 <| .nil) (fun a hE => ?_)
     obtain ⟨t32, h33, H⟩ := bd H
     refine on1 7 hE (.cl en141 (qBj.calls ((nth qA.z x0_ x8).f1) 1 9 _ _ _ hS.own.sub h33)) ?_
     rintro _ u31 a ⟨_, rfl, hC⟩ hE
     refine ⟨.of hC.agr, ?_⟩
     replace hS := hS.lent hC
     refine mny 26 hst hE (.r 8 3 .nil) (fun a hE => ?_)
     rcases sp H with ⟨c34, H⟩ | ⟨c34, H⟩
     ·
      replace hE := hE.btn 25 c34
      have hb23 := hS.blk_at (i := 0) rfl
      refine mny 24 hst hE (.r 11 1 <| .b 12 2 hb23 <| .nil) (fun a hE => ?_)
      obtain ⟨t36, h37, H⟩ := bd H
      refine on1 13 hE (.cl en141 (qBj.calls ((nth qA.z x0_ x8).f2) 1 9 _ _ _ hS.own.sub h37)) ?_
      rintro _ u35 a ⟨_, rfl, hC⟩ hE
      refine ⟨.of hC.agr, ?_⟩
      replace hS := hS.lent hC
      refine mny 20 hst hE (.r 14 3 .nil) (fun a hE => ?_)
      rcases sp H with ⟨c38, H⟩ | ⟨c38, H⟩
      ·
       replace hE := hE.btn 31 c38
       have hb23 := hS.blk_at (i := 0) rfl
       refine mny 18 hst hE (.r 17 1 <| .b 18 3 hb23 <| .nil) (fun a hE => ?_)
       obtain ⟨t40, h41, H⟩ := bd H
       refine on1 19 hE (.cl en141 (qBj.calls ((nth qA.z x0_ x8).f3) 0 65536 _ _ _ hS.own.sub h41)) ?_
       rintro _ u39 a ⟨_, rfl, hC⟩ hE
       refine ⟨.of hC.agr, ?_⟩
       replace hS := hS.lent hC
       refine mny 14 hst hE (.r 20 3 .nil) (fun a hE => ?_)
       rcases sp H with ⟨c42, H⟩ | ⟨c42, H⟩
       ·
        replace hE := hE.btn 37 c42
        refine mny 11 hst hE (.r 23 3 .nil) (fun a hE => ?_)
        rcases sp H with ⟨c43, H⟩ | ⟨c43, H⟩
        ·
         replace hE := hE.kt 40 c43
         have hb23 := hS.blk_at (i := 0) rfl
         obtain ⟨c44, H⟩ := gd H
         obtain ⟨cs46, rfl, hc47⟩ := g0_0.el qA.z (w64 (x8 - 1)) c44.1 c44.2
         refine mny 0 hst hE (.r 26 1 <| .b 27 0 hb23 <| .r 28 3 <| .x 31 c44 <| .r 32 1 <| .c 33 (hS.fc hc47 0) <| .r 34 3 <| .nil) (fun a hE => ?_)
         refine dn ?_
         exact J52 _ (by omega) _ (decide ((nth qA.z x0_ x8).f0 ≤ (nth qA.z x0_ (w64 (x8 - 1))).f0)) _ _ hE .of hS H
        ·
         replace hE := hE.kf 40 c43
         refine mny 0 hst hE (.r 26 11 .nil) (fun a hE => ?_)
         refine dn ?_
         exact J52 _ (by omega) _ false _ _ hE .of hS H
       ·
        replace hE := hE.bfn 37 c42
        refine mny 0 hst hE (.r 23 14 .nil) (fun a hE => ?_)
        refine dn ?_
        exact J52 _ (by omega) _ true _ _ hE .of hS H
      ·
       replace hE := hE.bfn 31 c38
       refine mny 0 hst hE (.r 17 20 .nil) (fun a hE => ?_)
       refine dn ?_
       exact J52 _ (by omega) _ true _ _ hE .of hS H
     ·
      replace hE := hE.bfn 25 c34
      refine mny 0 hst hE (.r 11 26 .nil) (fun a hE => ?_)
      refine dn ?_
      exact J52 _ (by omega) _ true _ _ hE .of hS H
    ·
     replace hE := hE.bfn 19 c30
     refine mny 0 hst hE (.r 5 32 .nil) (fun a hE => ?_)
     refine dn ?_
     exact J52 _ (by omega) _ true _ _ hE .of hS H
   ·
    replace hE := hE.kf 11 c15
    refine cf hE ?_
    refine wp_exit ?_
    refine hK6 _ _ (sq fun K56 hK56 => pl0 (plc hE (.r 0 1 .nil) (fun a hE => pld (hK56 _ _ (wp_ret ?_)))))
    obtain rfl := si H
    exact rt1 hE ⟨_, rfl, _, rfl, hS⟩
def qAJ.l5 : Nat → List Int → Int → Int → Option Int
  | 0, _, _, _ => none
  | k + 1, x0_, x1_, x4 => if x4 < (x0_.length : Int) then (if 0 ≤ x4 ∧ x4 < (x0_.length : Int) then (if x1_ = (nth 0 x0_ x4) then (some x4) else (qAJ.l5 k x0_ x1_ (w64 (x4 + 1)))) else (none)) else (some (-1))
theorem qAJ.l5_s (k : Nat) (x0_ : List Int) (x1_ : Int) (x4 : Int) : qAJ.l5 (k + 1) x0_ x1_ x4 = (if x4 < (x0_.length : Int) then (if 0 ≤ x4 ∧ x4 < (x0_.length : Int) then (if x1_ = (nth 0 x0_ x4) then (some x4) else (qAJ.l5 k x0_ x1_ (w64 (x4 + 1)))) else (none)) else (some (-1))) := by kernel_rfl
def qAJ.f (k : Nat) (x0_ : List Int) (x1_ : Int) : Option Int := qAJ.l5 k x0_ x1_ 0
def qAJ.Post (W F : World) (r : Int) (v : Value) (w' : World) : Prop := ∃ (F' : World), v = .int .i64 r ∧ St W (mine W []) F w' F' []
theorem qAJ.calls (k : Nat) (x0_ : List Int) (x1_ : Int) (A0_0 : Option Addr) (c0_0 : Nat) (r : Int) (W F : World) (hown : Sub F W) (g0_0 : Rd (Kn.int .i64) F A0_0 c0_0 x0_) (H : qAJ.f k x0_ x1_ = some r) :
    Calls Tryz.prog 162 #[.slice A0_0 x0_.length c0_0, .int .i64 x1_] W fun e w' => ∃ v, e = .returned v ∧ qAJ.Post W F r v w' := by
 have hS := St.start (Own.nil hown)
 unfold qAJ.f at H
 refine enter (n := 19) rfl rfl rfl (Nat.le_of_ble_eq_true rfl) (fun a hE => ?_)
 refine sq fun K1 hK1 => pl0 (plc hE (.r 0 1 .nil) (fun a hE => pld (hK1 _ _ (sq fun K2 hK2 => sq fun K3 hK3 => pl0 (plc hE (.r 0 3 .nil) (fun a hE => pld (hK3 _ _ (wp_block ?_))))))))
 refine wp_loop_ghost (fun kq6 a w' => ∃ (G : Nat → Value) (x4 : Int), kq6 ≤ k ∧ Env 19 G a ∧ At G [(0, .slice A0_0 x0_.length c0_0), (1, .int .i64 x1_), (7, .int .i64 (x0_.length : Int)), (8, .int .i64 x4)] ∧ St W (mine W []) F w' F [] ∧  qAJ.l5 kq6 x0_ x1_ x4 = some r) k ⟨_, 0, Nat.le_refl _, hE, .of, hS, H⟩ ?_
 rintro kq6 a u8 ⟨G, x4, hkq, hE, hA, hS, H⟩
 cases kq6 with
 | zero => cases (show none = some r from H)
 | succ k7 =>
  rw [qAJ.l5_s] at H
  obtain ⟨J, hE⟩ := hE.at hA
  refine sq fun K9 hK9 => pl0 (plc hE (.r 0 1 .nil) (fun a hE => pld (hK9 _ _ (sq fun K10 hK10 => ?_))))
  rcases sp H with ⟨c11, H⟩ | ⟨c11, H⟩
  ·
   replace hE := hE.kt 9 c11
   refine ct hE (wp_skip (hK10 _ _ (sq fun K12 hK12 => wp_block (sq fun K13 hK13 => pl0 (plc hE (.r 0 2 .nil) (fun a hE => pld (hK13 _ _ (sq fun K14 hK14 => pl0 ?_))))))))
   obtain ⟨c15, H⟩ := gd H
   have hE_ := hE
   obtain ⟨ad16, rfl⟩ := g0_0.addr c15.1 c15.2
   replace hE := hE_
   obtain ⟨cs18, rfl, hc19⟩ := g0_0.el 0 x4 c15.1 c15.2
   refine plc hE (.r 0 3 <| .x 3 c15 <| .c 4 (hS.fc hc19 0) <| .r 5 1 <| .nil) (fun a hE => pld (hK14 _ _ ?_))
   rcases sp H with ⟨c20, H⟩ | ⟨c20, H⟩
   ·
    replace hE := hE.kt 16 c20
    refine ct hE (sq fun K21 hK21 => pl0 (plc hE (.r 0 2 .nil) (fun a hE => pld (hK21 _ _ (wp_ret (qCC (qCB (qCB (qCC (qCB ?_))))))))))
    obtain rfl := si H
    exact rt1 hE ⟨_, rfl, _, rfl, hS⟩
   ·
    replace hE := hE.kf 16 c20
    refine cf hE (wp_skip ?_)
    refine qCD ?_
    refine hK12 _ _ (pl0 (plc hE (.r 0 2 .nil) (fun a hE => pld ?_)))
    exact qCE ⟨k7, by omega, _, (w64 (x4 + 1)), by omega, hE, .of, hS, H⟩
  ·
   replace hE := hE.kf 9 c11
   refine cf hE ?_
   refine wp_exit ?_
   refine hK2 _ _ (sq fun K22 hK22 => pl0 (plc hE (.r 0 1 .nil) (fun a hE => pld (hK22 _ _ (wp_ret ?_)))))
   obtain rfl := si H
   exact rt1 hE ⟨_, rfl, _, rfl, hS⟩
def qAT.f (k : Nat) (x0_ : List Int) (x1_ : Int) : Option Bool := (qAJ.f k x0_ x1_).bind fun t4 => (some (decide (t4 ≥ 0)))
def qAT.Post (W F : World) (r : Bool) (v : Value) (w' : World) : Prop := ∃ (F' : World), v = .bool r ∧ St W (mine W []) F w' F' []
theorem qAT.calls (k : Nat) (x0_ : List Int) (x1_ : Int) (A0_0 : Option Addr) (c0_0 : Nat) (r : Bool) (W F : World) (hown : Sub F W) (g0_0 : Rd (Kn.int .i64) F A0_0 c0_0 x0_) (H : qAT.f k x0_ x1_ = some r) :
    Calls Tryz.prog 118 #[.slice A0_0 x0_.length c0_0, .int .i64 x1_] W fun e w' => ∃ v, e = .returned v ∧ qAT.Post W F r v w' := by
 have hS := St.start (Own.nil hown)
 unfold qAT.f at H
 refine enter (n := 9) rfl rfl rfl (Nat.le_of_ble_eq_true rfl) (fun a hE => ?_)
 refine sq fun K1 hK1 => pl0 (plc hE (.r 0 1 .nil) (fun a hE => pld (hK1 _ _ (sq fun K2 hK2 => pl0 (plc hE (.r 0 2 .nil) (fun a hE => ?_))))))
 obtain ⟨t4, h5, H⟩ := bd H
 refine ple hE (.cl en162 (qAJ.calls k x0_ x1_ _ _ _ _ _ hS.own.sub g0_0 h5)) ?_
 rintro _ u3 a ⟨_, rfl, hC⟩ hE
 replace hS := hS.lent hC
 refine plc hE (.r 3 2 .nil) (fun a hE => pld (hK2 _ _ (wp_ret ?_)))
 obtain rfl := si H
 exact rt1 hE ⟨_, rfl, _, rfl, hS⟩
mutual
def qAR.l18 : Nat → List qA → List Int → List Int → Int → Option Bool
  | 0, _, _, _, _ => none
  | k + 1, x0_, x1_, l16, x17 => if x17 < (x1_.length : Int) then (if 0 ≤ x17 ∧ x17 < (x1_.length : Int) then (qAR.l35 k x0_ x1_ l16 x17 0) else (none)) else (some true)
def qAR.l35 : Nat → List qA → List Int → List Int → Int → Int → Option Bool
  | 0, _, _, _, _, _ => none
  | k + 1, x0_, x1_, l16, x17, x34 => if x34 < (x0_.length : Int) then (if 0 ≤ x34 ∧ x34 < (x0_.length : Int) then (if (nth qA.z x0_ x34).f0 = (nth 0 x1_ x17) then ((qAT.f k l16 ((nth qA.z x0_ x34).f1)).bind fun t55 => (qAR.j58 k x0_ x1_ l16 x17 x34 (!t55))) else (qAR.j58 k x0_ x1_ l16 x17 x34 false)) else (none)) else (some false)
def qAR.j58 : Nat → List qA → List Int → List Int → Int → Int → Bool → Option Bool
  | 0, _, _, _, _, _, _ => none
  | k + 1, x0_, x1_, l16, x17, x34, y57 => if y57 = true then (if ((l16.length : Int) + ((1 : Nat) : Int)) * 8 ≤ 140737488355328 then (qAR.l18 k x0_ x1_ (l16 ++ [(nth qA.z x0_ x34).f1]) (w64 (x17 + 1))) else (none)) else (qAR.l35 k x0_ x1_ l16 x17 (w64 (x34 + 1)))
end
theorem qAR.l18_s (k : Nat) (x0_ : List qA) (x1_ : List Int) (l16 : List Int) (x17 : Int) : qAR.l18 (k + 1) x0_ x1_ l16 x17 = (if x17 < (x1_.length : Int) then (if 0 ≤ x17 ∧ x17 < (x1_.length : Int) then (qAR.l35 k x0_ x1_ l16 x17 0) else (none)) else (some true)) := by kernel_rfl
theorem qAR.l35_s (k : Nat) (x0_ : List qA) (x1_ : List Int) (l16 : List Int) (x17 : Int) (x34 : Int) : qAR.l35 (k + 1) x0_ x1_ l16 x17 x34 = (if x34 < (x0_.length : Int) then (if 0 ≤ x34 ∧ x34 < (x0_.length : Int) then (if (nth qA.z x0_ x34).f0 = (nth 0 x1_ x17) then ((qAT.f k l16 ((nth qA.z x0_ x34).f1)).bind fun t55 => (qAR.j58 k x0_ x1_ l16 x17 x34 (!t55))) else (qAR.j58 k x0_ x1_ l16 x17 x34 false)) else (none)) else (some false)) := by kernel_rfl
theorem qAR.j58_s (k : Nat) (x0_ : List qA) (x1_ : List Int) (l16 : List Int) (x17 : Int) (x34 : Int) (y57 : Bool) : qAR.j58 (k + 1) x0_ x1_ l16 x17 x34 y57 = (if y57 = true then (if ((l16.length : Int) + ((1 : Nat) : Int)) * 8 ≤ 140737488355328 then (qAR.l18 k x0_ x1_ (l16 ++ [(nth qA.z x0_ x34).f1]) (w64 (x17 + 1))) else (none)) else (qAR.l35 k x0_ x1_ l16 x17 (w64 (x34 + 1)))) := by kernel_rfl
def qAR.f (k : Nat) (x0_ : List qA) (x1_ : List Int) : Option Bool := (qAG.f k x0_).bind fun t5 => (if t5 = 0 then (qAR.l18 k x0_ x1_ [] 0) else (some false))
def qAR.Post (W F : World) (r : Bool) (v : Value) (w' : World) : Prop := ∃ (F' : World), v = .bool r ∧ St W (mine W []) F w' F' []
theorem qAR.calls (k : Nat) (x0_ : List qA) (x1_ : List Int) (A0_0 : Option Addr) (c0_0 : Nat) (A1_0 : Option Addr) (c1_0 : Nat) (r : Bool) (W F : World) (hown : Sub F W) (g0_0 : Rd qA.k F A0_0 c0_0 x0_) (g1_0 : Rd (Kn.int .i64) F A1_0 c1_0 x1_) (H : qAR.f k x0_ x1_ = some r) :
    Calls Tryz.prog 81 #[.slice A0_0 x0_.length c0_0, .slice A1_0 x1_.length c1_0] W fun e w' => ∃ v, e = .returned v ∧ qAR.Post W F r v w' := by
 have hS := St.start (Own.nil hown)
 unfold qAR.f at H
 refine enter (n := 43) rfl rfl rfl (Nat.le_of_ble_eq_true rfl) (fun a hE => ?_)
 refine sq fun K1 hK1 => pl0 (plc hE (.r 0 1 .nil) (fun a hE => pld (hK1 _ _ ?_)))
 refine wp_scope_straight ?_
 refine sq fun K2 hK2 => sq fun K3 hK3 => pl0 (plc hE (.r 0 1 .nil) (fun a hE => ?_))
 obtain ⟨t5, h6, H⟩ := bd H
 refine ple hE (.cl en80 (qAG.calls k x0_ _ _ _ _ _ hS.own.sub g0_0 h6)) ?_
 rintro _ u4 a ⟨_, rfl, hC⟩ hE
 replace hS := hS.lent hC
 refine plc hE (.r 2 1 .nil) (fun a hE => pld (hK3 _ _ ?_))
 rcases sp H with ⟨c7, H⟩ | ⟨c7, H⟩
 ·
  replace hE := hE.ktn 12 c7
  refine cf hE (wp_skip (hK2 _ _ (sq fun K9 hK9 => pl0 (plc hE (.r 0 1 .nil) (fun a hE => pld (hK9 _ _ (sq fun K10 hK10 => ?_)))))))
  refine wp_label ?_
  refine hK10 _ _ (sq fun K11 hK11 => sq fun K12 hK12 => pl0 (plc hE (.r 0 3 .nil) (fun a hE => pld (hK12 _ _ (wp_block ?_)))))
  replace hS := hS.nilrow (Kn.int .i64) 3
  refine wp_loop_ghost (fun kq19 a w' => ∃ (G : Nat → Value) (A14 : Option Addr) (c15 : Nat) (l16 : List Int) (x17 : Int), kq19 ≤ k ∧ Env 43 G a ∧ At G [(0, .slice A0_0 x0_.length c0_0), (5, .slice A14 l16.length c15), (13, .slice A1_0 x1_.length c1_0), (14, .int .i64 (x1_.length : Int)), (15, .int .i64 x17)] ∧ St W (mine W []) F w' F [row (Kn.int .i64) 3 (.slice A14 l16.length c15) l16] ∧  qAR.l18 kq19 x0_ x1_ l16 x17 = some r) k ⟨_, none, 0, [], 0, Nat.le_refl _, hE, .of, hS, H⟩ ?_
  rintro kq19 a u21 ⟨G, A14, c15, l16, x17, hkq, hE, hA, hS, H⟩
  cases kq19 with
  | zero => cases (show none = some r from H)
  | succ k20 =>
   rw [qAR.l18_s] at H
   obtain ⟨J, hE⟩ := hE.at hA
   refine sq fun K22 hK22 => pl0 (plc hE (.r 0 1 .nil) (fun a hE => pld (hK22 _ _ (sq fun K23 hK23 => ?_))))
   rcases sp H with ⟨c24, H⟩ | ⟨c24, H⟩
   ·
    replace hE := hE.kt 16 c24
    refine ct hE (wp_skip (hK23 _ _ (sq fun K25 hK25 => wp_block (sq fun K26 hK26 => pl0 ?_))))
    obtain ⟨c27, H⟩ := gd H
    have hE_ := hE
    obtain ⟨ad28, rfl⟩ := g1_0.addr c27.1 c27.2
    replace hE := hE_
    obtain ⟨cs30, rfl, hc31⟩ := g1_0.el 0 x17 c27.1 c27.2
    refine plc hE (.x 0 c27 <| .c 1 (hS.fc hc31 0) <| .r 2 1 <| .nil) (fun a hE => pld (hK26 _ _ (sq fun K32 hK32 => sq fun K33 hK33 => pl0 (plc hE (.r 0 3 .nil) (fun a hE => pld (hK33 _ _ (wp_block ?_)))))))
    refine wp_loop_ghost (fun kq36 a w' => ∃ (G : Nat → Value) (x34 : Int), kq36 ≤ k20 ∧ Env 43 G a ∧ At G [(0, .slice A0_0 x0_.length c0_0), (5, .slice A14 l16.length c15), (7, .int .i64 (nth 0 x1_ x17)), (13, .slice (some ad28) x1_.length c1_0), (14, .int .i64 (x1_.length : Int)), (15, .int .i64 x17), (19, .slice A0_0 x0_.length c0_0), (20, .int .i64 (x0_.length : Int)), (21, .int .i64 x34)] ∧ St W (mine W []) F w' F [row (Kn.int .i64) 3 (.slice A14 l16.length c15) l16] ∧  qAR.l35 kq36 x0_ x1_ l16 x17 x34 = some r) k20 ⟨_, 0, Nat.le_refl _, hE, .of, hS, H⟩ ?_
    rintro kq36 a u38 ⟨G, x34, hkq, hE, hA, hS, H⟩
    cases kq36 with
    | zero => cases (show none = some r from H)
    | succ k37 =>
     rw [qAR.l35_s] at H
     obtain ⟨J, hE⟩ := hE.at hA
     refine sq fun K39 hK39 => pl0 (plc hE (.r 0 1 .nil) (fun a hE => pld (hK39 _ _ (sq fun K40 hK40 => ?_))))
     rcases sp H with ⟨c41, H⟩ | ⟨c41, H⟩
     ·
      replace hE := hE.kt 22 c41
      refine ct hE (wp_skip (hK40 _ _ (sq fun K42 hK42 => wp_block (sq fun K43 hK43 => pl0 ?_))))
      obtain ⟨c44, H⟩ := gd H
      have hE_ := hE
      obtain ⟨ad45, rfl⟩ := g0_0.addr c44.1 c44.2
      replace hE := hE_
      obtain ⟨cs47, rfl, hc48⟩ := g0_0.el qA.z x34 c44.1 c44.2
      refine plc hE (.x 0 c44 <| .cs 1 (hS.fcs hc48) <| .nil) (fun a hE => ple hE (.al (t := 104) hS [.int .i64 0, .int .i64 0, .int .i64 0, .int .i64 0, .bool false, .bool false]) ?_)
      rintro _ u50 a ⟨b49, rfl, hb49, hS, hg⟩ hE
      refine ple hE (.sto hS [.int .i64 ((nth qA.z x0_ x34).f0), .int .i64 ((nth qA.z x0_ x34).f1), .int .i64 ((nth qA.z x0_ x34).f2), .int .i64 ((nth qA.z x0_ x34).f3), .bool ((nth qA.z x0_ x34).f4), .bool ((nth qA.z x0_ x34).f5)]) ?_
      rintro _ u51 a ⟨rfl, hb49, hS, hz⟩ hE
      refine pld (hK43 _ _ (sq fun K52 hK52 => ?_))
      have J61 : ∀ kq59, kq59 ≤ k37 → ∀ (G : Nat → Value) (y57 : Bool) (a : Act) (w' : World), Env 43 G a → At G [(0, .slice (some ad45) x0_.length c0_0), (5, .slice A14 l16.length c15), (7, .int .i64 (nth 0 x1_ x17)), (9, .pointer (some ⟨b49, 0, none⟩)), (13, .slice (some ad28) x1_.length c1_0), (14, .int .i64 (x1_.length : Int)), (15, .int .i64 x17), (19, .slice (some ad45) x0_.length c0_0), (20, .int .i64 (x0_.length : Int)), (21, .int .i64 x34), (35, .bool y57)] → St W (mine W []) F w' F [box b49 #[.int .i64 ((nth qA.z x0_ x34).f0), .int .i64 ((nth qA.z x0_ x34).f1), .int .i64 ((nth qA.z x0_ x34).f2), .int .i64 ((nth qA.z x0_ x34).f3), .bool ((nth qA.z x0_ x34).f4), .bool ((nth qA.z x0_ x34).f5)] 104, row (Kn.int .i64) 3 (.slice A14 l16.length c15) l16] → qAR.j58 kq59 x0_ x1_ l16 x17 x34 y57 = some r → K52 a w' := by
       intro kq59 hkq G y57 a u62 hE hA hS H
       cases kq59 with
       | zero => cases (show none = some r from H)
       | succ k60 =>
        rw [qAR.j58_s] at H
        obtain ⟨J, hE⟩ := hE.at hA
        refine hK52 _ _ ?_
        rcases sp H with ⟨c63, H⟩ | ⟨c63, H⟩
        ·
         replace hE := hE.bt 35 c63
         refine ct hE (sq fun K64 hK64 => pl0 ?_)
         have hb49 := hS.blk_at (i := 0) rfl
         refine plc hE (.r 0 2 <| .b 2 1 hb49 <| .nil) (fun a hE => ple hE (.lit (d := (Kn.int .i64)) (e := 3) hS [(nth qA.z x0_ x34).f1] (.cons rfl .nil)) ?_)
         rintro _ u65 a ⟨A66, c67, rfl, hS, hg⟩ hE
         obtain ⟨c69, H⟩ := gd H
         replace hS := hS.front 2 rfl
         refine ple hE (.ap (d := (Kn.int .i64)) 8 hS (qCM (hS.row_at (i := 1) rfl)) c69 c67) ?_
         rintro _ u72 a ⟨A70, c71, rfl, hS, hz⟩ hE
         refine plc hE (.r 5 1 .nil) (fun a hE => pld (hK64 _ _ ?_))
         refine wp_exit ?_
         refine hK25 _ _ (pl0 (plc hE (.r 0 2 .nil) (fun a hE => pld ?_)))
         replace hS := hS.front 1 rfl
         replace hS := hS.tail
         replace hS := hS.front 1 rfl
         replace hS := hS.tail
         exact qCE ⟨k60, by omega, _, A70, c71, (l16 ++ [(nth qA.z x0_ x34).f1]), (w64 (x17 + 1)), by omega, hE, .of, hS, H⟩
        ·
         replace hE := hE.bf 35 c63
         refine cf hE (wp_skip ?_)
         refine qCD ?_
         refine hK42 _ _ (pl0 (plc hE (.r 0 2 .nil) (fun a hE => pld ?_)))
         replace hS := hS.tail
         exact qCE ⟨k60, by omega, _, (w64 (x34 + 1)), by omega, hE, .of, hS, H⟩
      refine pl0 (plc hE (.r 0 1 <| .b 1 0 hb49 <| .r 2 3 <| .nil) (fun a hE => ?_))
      rcases sp H with ⟨c53, H⟩ | ⟨c53, H⟩
      ·
       replace hE := hE.kt 29 c53
       refine plc hE (.r 5 2 <| .b 7 1 hb49 <| .nil) (fun a hE => ?_)
       obtain ⟨t55, h56, H⟩ := bd H
       refine ple hE (.cl en118 (qAT.calls k37 l16 ((nth qA.z x0_ x34).f1) _ _ _ _ _ (Sub.refl _) (hS.rd_at (i := 1) rfl) h56)) ?_
       rintro _ u54 a ⟨_, rfl, hC⟩ hE
       replace hS := hS.lent hC
       refine plc hE (.r 9 2 .nil) (fun a hE => pld ?_)
       exact J61 _ (by omega) _ (!t55) _ _ hE .of hS H
      ·
       replace hE := hE.kf 29 c53
       refine plc hE (.r 5 6 .nil) (fun a hE => pld ?_)
       exact J61 _ (by omega) _ false _ _ hE .of hS H
     ·
      replace hE := hE.kf 22 c41
      refine cf hE ?_
      refine wp_exit ?_
      refine hK32 _ _ (sq fun K73 hK73 => pl0 (plc hE (.r 0 1 .nil) (fun a hE => pld (hK73 _ _ (wp_ret (qCC (qCB (qCB (qCC (qCB (qDH ?_)))))))))))
      replace hS := hS.tail
      obtain rfl := si H
      exact rt1 hE ⟨_, rfl, _, rfl, hS⟩
   ·
    replace hE := hE.kf 16 c24
    refine cf hE ?_
    refine wp_exit ?_
    refine hK11 _ _ (sq fun K75 hK75 => pl0 (plc hE (.r 0 1 .nil) (fun a hE => pld (hK75 _ _ (wp_ret (qDH ?_))))))
    replace hS := hS.tail
    obtain rfl := si H
    exact rt1 hE ⟨_, rfl, _, rfl, hS⟩
 ·
  replace hE := hE.kfn 12 c7
  refine ct hE (sq fun K8 hK8 => pl0 (plc hE (.r 0 1 .nil) (fun a hE => pld (hK8 _ _ (wp_ret (qCB (qDH ?_)))))))
  obtain rfl := si H
  exact rt1 hE ⟨_, rfl, _, rfl, hS⟩
def qz.l9 : Nat → List Int → List Int → Int → Option Bool
  | 0, _, _, _ => none
  | k + 1, x0_, x1_, x8 => if x8 < (x0_.length : Int) then (if 0 ≤ x8 ∧ x8 < (x0_.length : Int) then (if 0 ≤ x8 ∧ x8 < (x1_.length : Int) then (if (nth 0 x0_ x8) = (nth 0 x1_ x8) then (qz.l9 k x0_ x1_ (w64 (x8 + 1))) else (some false)) else (none)) else (none)) else (some true)
theorem qz.l9_s (k : Nat) (x0_ : List Int) (x1_ : List Int) (x8 : Int) : qz.l9 (k + 1) x0_ x1_ x8 = (if x8 < (x0_.length : Int) then (if 0 ≤ x8 ∧ x8 < (x0_.length : Int) then (if 0 ≤ x8 ∧ x8 < (x1_.length : Int) then (if (nth 0 x0_ x8) = (nth 0 x1_ x8) then (qz.l9 k x0_ x1_ (w64 (x8 + 1))) else (some false)) else (none)) else (none)) else (some true)) := by kernel_rfl
def qz.f (k : Nat) (x0_ : List Int) (x1_ : List Int) : Option Bool := if (x0_.length : Int) = (x1_.length : Int) then (qz.l9 k x0_ x1_ 0) else (some false)
def qz.Post (W F : World) (r : Bool) (v : Value) (w' : World) : Prop := ∃ (F' : World), v = .bool r ∧ St W (mine W []) F w' F' []
theorem qz.calls (k : Nat) (x0_ : List Int) (x1_ : List Int) (A0_0 : Option Addr) (c0_0 : Nat) (A1_0 : Option Addr) (c1_0 : Nat) (r : Bool) (W F : World) (hown : Sub F W) (g0_0 : Rd (Kn.int .i64) F A0_0 c0_0 x0_) (g1_0 : Rd (Kn.int .i64) F A1_0 c1_0 x1_) (H : qz.f k x0_ x1_ = some r) :
    Calls Tryz.prog 90 #[.slice A0_0 x0_.length c0_0, .slice A1_0 x1_.length c1_0] W fun e w' => ∃ v, e = .returned v ∧ qz.Post W F r v w' := by
 have hS := St.start (Own.nil hown)
 unfold qz.f at H
 refine enter (n := 26) rfl rfl rfl (Nat.le_of_ble_eq_true rfl) (fun a hE => ?_)
 refine sq fun K1 hK1 => pl0 (plc hE (.r 0 1 .nil) (fun a hE => pld (hK1 _ _ (sq fun K2 hK2 => sq fun K3 hK3 => pl0 (plc hE (.r 0 5 .nil) (fun a hE => pld (hK3 _ _ ?_)))))))
 rcases sp H with ⟨c4, H⟩ | ⟨c4, H⟩
 ·
  replace hE := hE.ktn 10 c4
  refine cf hE (wp_skip (hK2 _ _ (sq fun K6 hK6 => sq fun K7 hK7 => pl0 (plc hE (.r 0 3 .nil) (fun a hE => pld (hK7 _ _ (wp_block ?_)))))))
  refine wp_loop_ghost (fun kq10 a w' => ∃ (G : Nat → Value) (x8 : Int), kq10 ≤ k ∧ Env 26 G a ∧ At G [(0, .slice A0_0 x0_.length c0_0), (1, .slice A1_0 x1_.length c1_0), (12, .int .i64 (x0_.length : Int)), (13, .int .i64 x8)] ∧ St W (mine W []) F w' F [] ∧  qz.l9 kq10 x0_ x1_ x8 = some r) k ⟨_, 0, Nat.le_refl _, hE, .of, hS, H⟩ ?_
  rintro kq10 a u12 ⟨G, x8, hkq, hE, hA, hS, H⟩
  cases kq10 with
  | zero => cases (show none = some r from H)
  | succ k11 =>
   rw [qz.l9_s] at H
   obtain ⟨J, hE⟩ := hE.at hA
   refine sq fun K13 hK13 => pl0 (plc hE (.r 0 1 .nil) (fun a hE => pld (hK13 _ _ (sq fun K14 hK14 => ?_))))
   rcases sp H with ⟨c15, H⟩ | ⟨c15, H⟩
   ·
    replace hE := hE.kt 14 c15
    refine ct hE (wp_skip (hK14 _ _ (sq fun K16 hK16 => wp_block (sq fun K17 hK17 => pl0 (plc hE (.r 0 2 .nil) (fun a hE => pld (hK17 _ _ (sq fun K18 hK18 => ?_))))))))
    refine drawn 9 ⟨[], [], fun q => False⟩ mixed rfl (by kernel_rfl) (fun hst => ?_)
    replace hS := hS.drew
    obtain ⟨c19, H⟩ := gd H
    have hE_ := hE
    obtain ⟨ad20, rfl⟩ := g0_0.addr c19.1 c19.2
    replace hE := hE_
    obtain ⟨cs22, rfl, hc23⟩ := g0_0.el 0 x8 c19.1 c19.2
    obtain ⟨c24, H⟩ := gd H
    have hE_ := hE
    obtain ⟨ad25, rfl⟩ := g1_0.addr c24.1 c24.2
    replace hE := hE_
    obtain ⟨cs27, rfl, hc28⟩ := g1_0.el 0 x8 c24.1 c24.2
    refine mny 0 hst hE (.r 0 2 <| .x 2 c19 <| .c 3 (hS.fc hc23 0) <| .r 4 2 <| .x 6 c24 <| .c 7 (hS.fc hc28 0) <| .r 8 1 <| .nil) (fun a hE => ?_)
    refine dn ?_
    refine hK18 _ _ ?_
    rcases sp H with ⟨c29, H⟩ | ⟨c29, H⟩
    ·
     replace hE := hE.ktn 24 c29
     refine cf hE (wp_skip ?_)
     refine qCD ?_
     refine hK16 _ _ (pl0 (plc hE (.r 0 2 .nil) (fun a hE => pld ?_)))
     exact qCE ⟨k11, by omega, _, (w64 (x8 + 1)), by omega, hE, .of, hS, H⟩
    ·
     replace hE := hE.kfn 24 c29
     refine ct hE (sq fun K30 hK30 => pl0 (plc hE (.r 0 1 .nil) (fun a hE => pld (hK30 _ _ (wp_ret (qCC (qCB (qCB (qCC (qCB ?_))))))))))
     obtain rfl := si H
     exact rt1 hE ⟨_, rfl, _, rfl, hS⟩
   ·
    replace hE := hE.kf 14 c15
    refine cf hE ?_
    refine wp_exit ?_
    refine hK6 _ _ (sq fun K31 hK31 => pl0 (plc hE (.r 0 1 .nil) (fun a hE => pld (hK31 _ _ (wp_ret ?_)))))
    obtain rfl := si H
    exact rt1 hE ⟨_, rfl, _, rfl, hS⟩
 ·
  replace hE := hE.kfn 10 c4
  refine ct hE (sq fun K5 hK5 => pl0 (plc hE (.r 0 1 .nil) (fun a hE => pld (hK5 _ _ (wp_ret (qCB ?_))))))
  obtain rfl := si H
  exact rt1 hE ⟨_, rfl, _, rfl, hS⟩
def qBf.f (k : Nat) (x0_ : qD) (xf0_ : qD) : Option Bool := (qz.f k x0_.f1 xf0_.f1).bind fun t6 => (some t6)
def qBf.Post (W F : World) (r : Bool) (v : Value) (w' : World) : Prop := ∃ (F' : World), v = .bool r ∧ St W (mine W []) F w' F' []
theorem qBf.calls (k : Nat) (x0_ : qD) (xf0_ : qD) (A0_1 : Option Addr) (c0_1 : Nat) (pf0_ : Nat) (Af0_1 : Option Addr) (cf0_1 : Nat) (r : Bool) (W F : World) (hown : Sub F W) (g0_1 : Rd (Kn.int .i64) F A0_1 c0_1 x0_.f1) (gf0_1 : Rd (Kn.int .i64) F Af0_1 cf0_1 xf0_.f1) (hpf0_ : F.heap[pf0_]? = some (.cells #[.int .i64 xf0_.f0, .slice Af0_1 xf0_.f1.length cf0_1] 51 (0, 0))) (H : qBf.f k x0_ xf0_ = some r) :
    Calls Tryz.prog 187 #[.agg #[.int .i64 x0_.f0, .slice A0_1 x0_.f1.length c0_1], .pointer (some ⟨pf0_, 0, none⟩)] W fun e w' => ∃ v, e = .returned v ∧ qBf.Post W F r v w' := by
 have hS := St.start (Own.nil hown)
 unfold qBf.f at H
 refine enter (n := 9) rfl rfl rfl (Nat.le_of_ble_eq_true rfl) (fun a hE => ?_)
 refine sq fun K1 hK1 => pl0 (ple hE (.bx (t := 51) hS [.int .i64 x0_.f0, .slice A0_1 x0_.f1.length c0_1]) ?_)
 rintro _ u3 a ⟨b2, rfl, hb2, hS, hg⟩ hE
 refine plc hE (.r 1 1 .nil) (fun a hE => pld (hK1 _ _ (sq fun K4 hK4 => pl0 (plc hE (.r 0 1 <| .b 1 1 hb2 <| .r 2 1 <| .b 3 1 (hS.own.sub _ _ _ _ hpf0_) <| .nil) (fun a hE => ?_)))))
 obtain ⟨t6, h7, H⟩ := bd H
 refine ple hE (.cl en90 (qz.calls k x0_.f1 xf0_.f1 _ _ _ _ _ _ _ hS.own.sub g0_1 gf0_1 h7)) ?_
 rintro _ u5 a ⟨_, rfl, hC⟩ hE
 replace hS := hS.lent hC
 refine plc hE (.r 5 1 .nil) (fun a hE => pld (hK4 _ _ (wp_ret ?_)))
 replace hS := hS.tail
 obtain rfl := si H
 exact rt1 hE ⟨_, rfl, _, rfl, hS⟩
def qX.l5 : Nat → List qD → qD → Int → Option Int
  | 0, _, _, _ => none
  | k + 1, x0_, x1c0_, x4 => if x4 < (x0_.length : Int) then (if 0 ≤ x4 ∧ x4 < (x0_.length : Int) then ((qBf.f k (⟨(nth qD.z x0_ x4).f0, (nth qD.z x0_ x4).f1⟩ : qD) x1c0_).bind fun t24 => (if t24 = true then (some x4) else (qX.l5 k x0_ x1c0_ (w64 (x4 + 1))))) else (none)) else (some (-1))
theorem qX.l5_s (k : Nat) (x0_ : List qD) (x1c0_ : qD) (x4 : Int) : qX.l5 (k + 1) x0_ x1c0_ x4 = (if x4 < (x0_.length : Int) then (if 0 ≤ x4 ∧ x4 < (x0_.length : Int) then ((qBf.f k (⟨(nth qD.z x0_ x4).f0, (nth qD.z x0_ x4).f1⟩ : qD) x1c0_).bind fun t24 => (if t24 = true then (some x4) else (qX.l5 k x0_ x1c0_ (w64 (x4 + 1))))) else (none)) else (some (-1))) := by kernel_rfl
def qX.f (k : Nat) (x0_ : List qD) (x1c0_ : qD) : Option Int := qX.l5 k x0_ x1c0_ 0
def qX.Post (W F : World) (r : Int) (v : Value) (w' : World) : Prop := ∃ (F' : World), v = .int .i64 r ∧ St W (mine W []) F w' F' []
theorem qX.calls (k : Nat) (x0_ : List qD) (x1c0_ : qD) (A0_0 : Option Addr) (c0_0 : Nat) (p1c0_ : Nat) (A1c0_1 : Option Addr) (c1c0_1 : Nat) (r : Int) (W F : World) (hown : Sub F W) (g0_0 : Rd qD.k F A0_0 c0_0 x0_) (g1c0_1 : Rd (Kn.int .i64) F A1c0_1 c1c0_1 x1c0_.f1) (hp1c0_ : F.heap[p1c0_]? = some (.cells #[.int .i64 x1c0_.f0, .slice A1c0_1 x1c0_.f1.length c1c0_1] 51 (0, 0))) (H : qX.f k x0_ x1c0_ = some r) :
    Calls Tryz.prog 163 #[.slice A0_0 x0_.length c0_0, .func (.func 187) #[] #[.pointer (some ⟨p1c0_, 0, none⟩)]] W fun e w' => ∃ v, e = .returned v ∧ qX.Post W F r v w' := by
 have hS := St.start (Own.nil hown)
 unfold qX.f at H
 refine enter (n := 19) rfl rfl rfl (Nat.le_of_ble_eq_true rfl) (fun a hE => ?_)
 refine sq fun K1 hK1 => pl0 (plc hE (.r 0 1 .nil) (fun a hE => pld (hK1 _ _ (sq fun K2 hK2 => sq fun K3 hK3 => pl0 (plc hE (.r 0 3 .nil) (fun a hE => pld (hK3 _ _ (wp_block ?_))))))))
 refine wp_loop_ghost (fun kq6 a w' => ∃ (G : Nat → Value) (x4 : Int), kq6 ≤ k ∧ Env 19 G a ∧ At G [(0, .slice A0_0 x0_.length c0_0), (1, .func (.func 187) #[] #[.pointer (some ⟨p1c0_, 0, none⟩)]), (7, .int .i64 (x0_.length : Int)), (8, .int .i64 x4)] ∧ St W (mine W []) F w' F [] ∧  qX.l5 kq6 x0_ x1c0_ x4 = some r) k ⟨_, 0, Nat.le_refl _, hE, .of, hS, H⟩ ?_
 rintro kq6 a u8 ⟨G, x4, hkq, hE, hA, hS, H⟩
 cases kq6 with
 | zero => cases (show none = some r from H)
 | succ k7 =>
  rw [qX.l5_s] at H
  obtain ⟨J, hE⟩ := hE.at hA
  refine sq fun K9 hK9 => pl0 (plc hE (.r 0 1 .nil) (fun a hE => pld (hK9 _ _ (sq fun K10 hK10 => ?_))))
  rcases sp H with ⟨c11, H⟩ | ⟨c11, H⟩
  ·
   replace hE := hE.kt 9 c11
   refine ct hE (wp_skip (hK10 _ _ (sq fun K12 hK12 => wp_block (sq fun K13 hK13 => pl0 (plc hE (.r 0 2 .nil) (fun a hE => pld (hK13 _ _ (sq fun K14 hK14 => pl0 ?_))))))))
   obtain ⟨c15, H⟩ := gd H
   have hE_ := hE
   obtain ⟨ad16, rfl⟩ := g0_0.addr c15.1 c15.2
   replace hE := hE_
   obtain ⟨cs18, ⟨A20, c21, rfl, g22⟩, hc19⟩ := g0_0.el qD.z x4 c15.1 c15.2
   refine plc hE (.r 0 3 <| .x 3 c15 <| .cs 4 (hS.fcs hc19) <| .nil) (fun a hE => ?_)
   obtain ⟨t24, h25, H⟩ := bd H
   refine ple hE (.cl en187 (qBf.calls k7 (⟨(nth qD.z x0_ x4).f0, (nth qD.z x0_ x4).f1⟩ : qD) x1c0_ _ _ _ _ _ _ _ _ hS.own.sub g22 g1c0_1 hp1c0_ h25)) ?_
   rintro _ u23 a ⟨_, rfl, hC⟩ hE
   replace hS := hS.lent hC
   refine pld (hK14 _ _ ?_)
   rcases sp H with ⟨c26, H⟩ | ⟨c26, H⟩
   ·
    replace hE := hE.bt 16 c26
    refine ct hE (sq fun K27 hK27 => pl0 (plc hE (.r 0 2 .nil) (fun a hE => pld (hK27 _ _ (wp_ret (qCC (qCB (qCB (qCC (qCB ?_))))))))))
    obtain rfl := si H
    exact rt1 hE ⟨_, rfl, _, rfl, hS⟩
   ·
    replace hE := hE.bf 16 c26
    refine cf hE (wp_skip ?_)
    refine qCD ?_
    refine hK12 _ _ (pl0 (plc hE (.r 0 2 .nil) (fun a hE => pld ?_)))
    exact qCE ⟨k7, by omega, _, (w64 (x4 + 1)), by omega, hE, .of, hS, H⟩
  ·
   replace hE := hE.kf 9 c11
   refine cf hE ?_
   refine wp_exit ?_
   refine hK2 _ _ (sq fun K28 hK28 => pl0 (plc hE (.r 0 1 .nil) (fun a hE => pld (hK28 _ _ (wp_ret ?_)))))
   obtain rfl := si H
   exact rt1 hE ⟨_, rfl, _, rfl, hS⟩
def qt.f (k : Nat) (x0_ : List qD) (x1c0_ : qD) : Option Bool := (qX.f k x0_ x1c0_).bind fun t4 => (some (decide (t4 ≥ 0)))
def qt.Post (W F : World) (r : Bool) (v : Value) (w' : World) : Prop := ∃ (F' : World), v = .bool r ∧ St W (mine W []) F w' F' []
theorem qt.calls (k : Nat) (x0_ : List qD) (x1c0_ : qD) (A0_0 : Option Addr) (c0_0 : Nat) (p1c0_ : Nat) (A1c0_1 : Option Addr) (c1c0_1 : Nat) (r : Bool) (W F : World) (hown : Sub F W) (g0_0 : Rd qD.k F A0_0 c0_0 x0_) (g1c0_1 : Rd (Kn.int .i64) F A1c0_1 c1c0_1 x1c0_.f1) (hp1c0_ : F.heap[p1c0_]? = some (.cells #[.int .i64 x1c0_.f0, .slice A1c0_1 x1c0_.f1.length c1c0_1] 51 (0, 0))) (H : qt.f k x0_ x1c0_ = some r) :
    Calls Tryz.prog 119 #[.slice A0_0 x0_.length c0_0, .func (.func 187) #[] #[.pointer (some ⟨p1c0_, 0, none⟩)]] W fun e w' => ∃ v, e = .returned v ∧ qt.Post W F r v w' := by
 have hS := St.start (Own.nil hown)
 unfold qt.f at H
 refine enter (n := 9) rfl rfl rfl (Nat.le_of_ble_eq_true rfl) (fun a hE => ?_)
 refine sq fun K1 hK1 => pl0 (plc hE (.r 0 1 .nil) (fun a hE => pld (hK1 _ _ (sq fun K2 hK2 => pl0 (plc hE (.r 0 2 .nil) (fun a hE => ?_))))))
 obtain ⟨t4, h5, H⟩ := bd H
 refine ple hE (.cl en163 (qX.calls k x0_ x1c0_ _ _ _ _ _ _ _ _ hS.own.sub g0_0 g1c0_1 hp1c0_ h5)) ?_
 rintro _ u3 a ⟨_, rfl, hC⟩ hE
 replace hS := hS.lent hC
 refine plc hE (.r 3 2 .nil) (fun a hE => pld (hK2 _ _ (wp_ret ?_)))
 obtain rfl := si H
 exact rt1 hE ⟨_, rfl, _, rfl, hS⟩
mutual
def qAK.l9 : Nat → qJ → qC → Int → Option Bool
  | 0, _, _, _ => none
  | k + 1, x0_, x1_, x8 => if x8 < (x1_.f1.length : Int) then (if 0 ≤ x8 ∧ x8 < (x1_.f1.length : Int) then ((qAp.f ((nth qD.z x1_.f1 x8).f0) 0 (w64 (x1_.f0 - 1))).bind fun t32 => (if t32 = true then (if x8 > 0 then (if 0 ≤ (w64 (x8 - 1)) ∧ (w64 (x8 - 1)) < (x1_.f1.length : Int) then (if (nth qD.z x1_.f1 x8).f0 ≤ (nth qD.z x1_.f1 (w64 (x8 - 1))).f0 then (qAK.j51 k x0_ x1_ x8 true) else ((qAp.f (((nth qD.z x1_.f1 x8).f1).length : Int) x0_.f2 x0_.f1).bind fun t45 => (qAK.j51 k x0_ x1_ x8 (!t45)))) else (none)) else ((qAp.f (((nth qD.z x1_.f1 x8).f1).length : Int) x0_.f2 x0_.f1).bind fun t48 => (qAK.j51 k x0_ x1_ x8 (!t48)))) else (qAK.j51 k x0_ x1_ x8 true))) else (none)) else (some true)
def qAK.j51 : Nat → qJ → qC → Int → Bool → Option Bool
  | 0, _, _, _, _ => none
  | k + 1, x0_, x1_, x8, y50 => if y50 = true then (some false) else (qAK.l61 k x0_ x1_ x8 0)
def qAK.l61 : Nat → qJ → qC → Int → Int → Option Bool
  | 0, _, _, _, _ => none
  | k + 1, x0_, x1_, x8, x60 => if x60 < (((nth qD.z x1_.f1 x8).f1).length : Int) then (if 0 ≤ x60 ∧ x60 < (((nth qD.z x1_.f1 x8).f1).length : Int) then ((qAp.f (nth 0 ((nth qD.z x1_.f1 x8).f1) x60) 1 999).bind fun t77 => (if t77 = true then (if x60 > 0 then (if 0 ≤ (w64 (x60 - 1)) ∧ (w64 (x60 - 1)) < (((nth qD.z x1_.f1 x8).f1).length : Int) then (qAK.j86 k x0_ x1_ x8 x60 (decide ((nth 0 ((nth qD.z x1_.f1 x8).f1) x60) ≤ (nth 0 ((nth qD.z x1_.f1 x8).f1) (w64 (x60 - 1)))))) else (none)) else (qAK.j86 k x0_ x1_ x8 x60 false)) else (qAK.j86 k x0_ x1_ x8 x60 true))) else (none)) else (if 0 ≤ x8 ∧ x8 ≤ (x1_.f1.length : Int) then ((qt.f k (cutl x1_.f1 0 x8) (⟨(nth qD.z x1_.f1 x8).f0, (nth qD.z x1_.f1 x8).f1⟩ : qD)).bind fun t100 => (if t100 = true then (some false) else (qAK.l9 k x0_ x1_ (w64 (x8 + 1))))) else (none))
def qAK.j86 : Nat → qJ → qC → Int → Int → Bool → Option Bool
  | 0, _, _, _, _, _ => none
  | k + 1, x0_, x1_, x8, x60, y85 => if y85 = true then (some false) else (qAK.l61 k x0_ x1_ x8 (w64 (x60 + 1)))
end
theorem qAK.l9_s (k : Nat) (x0_ : qJ) (x1_ : qC) (x8 : Int) : qAK.l9 (k + 1) x0_ x1_ x8 = (if x8 < (x1_.f1.length : Int) then (if 0 ≤ x8 ∧ x8 < (x1_.f1.length : Int) then ((qAp.f ((nth qD.z x1_.f1 x8).f0) 0 (w64 (x1_.f0 - 1))).bind fun t32 => (if t32 = true then (if x8 > 0 then (if 0 ≤ (w64 (x8 - 1)) ∧ (w64 (x8 - 1)) < (x1_.f1.length : Int) then (if (nth qD.z x1_.f1 x8).f0 ≤ (nth qD.z x1_.f1 (w64 (x8 - 1))).f0 then (qAK.j51 k x0_ x1_ x8 true) else ((qAp.f (((nth qD.z x1_.f1 x8).f1).length : Int) x0_.f2 x0_.f1).bind fun t45 => (qAK.j51 k x0_ x1_ x8 (!t45)))) else (none)) else ((qAp.f (((nth qD.z x1_.f1 x8).f1).length : Int) x0_.f2 x0_.f1).bind fun t48 => (qAK.j51 k x0_ x1_ x8 (!t48)))) else (qAK.j51 k x0_ x1_ x8 true))) else (none)) else (some true)) := by kernel_rfl
theorem qAK.j51_s (k : Nat) (x0_ : qJ) (x1_ : qC) (x8 : Int) (y50 : Bool) : qAK.j51 (k + 1) x0_ x1_ x8 y50 = (if y50 = true then (some false) else (qAK.l61 k x0_ x1_ x8 0)) := by kernel_rfl
theorem qAK.l61_s (k : Nat) (x0_ : qJ) (x1_ : qC) (x8 : Int) (x60 : Int) : qAK.l61 (k + 1) x0_ x1_ x8 x60 = (if x60 < (((nth qD.z x1_.f1 x8).f1).length : Int) then (if 0 ≤ x60 ∧ x60 < (((nth qD.z x1_.f1 x8).f1).length : Int) then ((qAp.f (nth 0 ((nth qD.z x1_.f1 x8).f1) x60) 1 999).bind fun t77 => (if t77 = true then (if x60 > 0 then (if 0 ≤ (w64 (x60 - 1)) ∧ (w64 (x60 - 1)) < (((nth qD.z x1_.f1 x8).f1).length : Int) then (qAK.j86 k x0_ x1_ x8 x60 (decide ((nth 0 ((nth qD.z x1_.f1 x8).f1) x60) ≤ (nth 0 ((nth qD.z x1_.f1 x8).f1) (w64 (x60 - 1)))))) else (none)) else (qAK.j86 k x0_ x1_ x8 x60 false)) else (qAK.j86 k x0_ x1_ x8 x60 true))) else (none)) else (if 0 ≤ x8 ∧ x8 ≤ (x1_.f1.length : Int) then ((qt.f k (cutl x1_.f1 0 x8) (⟨(nth qD.z x1_.f1 x8).f0, (nth qD.z x1_.f1 x8).f1⟩ : qD)).bind fun t100 => (if t100 = true then (some false) else (qAK.l9 k x0_ x1_ (w64 (x8 + 1))))) else (none))) := by kernel_rfl
theorem qAK.j86_s (k : Nat) (x0_ : qJ) (x1_ : qC) (x8 : Int) (x60 : Int) (y85 : Bool) : qAK.j86 (k + 1) x0_ x1_ x8 x60 y85 = (if y85 = true then (some false) else (qAK.l61 k x0_ x1_ x8 (w64 (x60 + 1)))) := by kernel_rfl
def qAK.f (k : Nat) (x0_ : qJ) (x1_ : qC) : Option Bool := qAK.l9 k x0_ x1_ 0
def qAK.Post (W F : World) (r : Bool) (v : Value) (w' : World) : Prop := ∃ (F' : World), v = .bool r ∧ St W (mine W []) F w' F' []
theorem qAK.calls (k : Nat) (x0_ : qJ) (x1_ : qC) (A0_4 : Option Addr) (c0_4 : Nat) (A0_5 : Option Addr) (c0_5 : Nat) (A0_6 : Option Addr) (c0_6 : Nat) (A1_1 : Option Addr) (c1_1 : Nat) (r : Bool) (W F : World) (hown : Sub F W) (g0_4 : Rd qA.k F A0_4 c0_4 x0_.f4) (g0_5 : Rd qK.k F A0_5 c0_5 x0_.f5) (g0_6 : Rd qC.k F A0_6 c0_6 x0_.f6) (g1_1 : Rd qD.k F A1_1 c1_1 x1_.f1) (H : qAK.f k x0_ x1_ = some r) :
    Calls Tryz.prog 142 #[.agg #[.int .i64 x0_.f0, .int .i64 x0_.f1, .int .i64 x0_.f2, .int .i64 x0_.f3, .slice A0_4 x0_.f4.length c0_4, .slice A0_5 x0_.f5.length c0_5, .slice A0_6 x0_.f6.length c0_6], .agg #[.int .i64 x1_.f0, .slice A1_1 x1_.f1.length c1_1]] W fun e w' => ∃ v, e = .returned v ∧ qAK.Post W F r v w' := by
 have hS := St.start (Own.nil hown)
 unfold qAK.f at H
 refine enter (n := 84) rfl rfl rfl (Nat.le_of_ble_eq_true rfl) (fun a hE => ?_)
 refine sq fun K1 hK1 => pl0 (ple hE (.bx (t := 26) hS [.int .i64 x0_.f0, .int .i64 x0_.f1, .int .i64 x0_.f2, .int .i64 x0_.f3, .slice A0_4 x0_.f4.length c0_4, .slice A0_5 x0_.f5.length c0_5, .slice A0_6 x0_.f6.length c0_6]) ?_)
 rintro _ u3 a ⟨b2, rfl, hb2, hS, hg⟩ hE
 refine ple hE (.bx (t := 49) hS [.int .i64 x1_.f0, .slice A1_1 x1_.f1.length c1_1]) ?_
 rintro _ u5 a ⟨b4, rfl, hb4, hS, hg⟩ hE
 refine plc hE (.r 2 1 .nil) (fun a hE => pld (hK1 _ _ (sq fun K6 hK6 => sq fun K7 hK7 => pl0 (plc hE (.r 0 1 <| .b 1 1 hb4 <| .r 2 2 <| .nil) (fun a hE => pld (hK7 _ _ (wp_block ?_)))))))
 refine wp_loop_ghost (fun kq10 a w' => ∃ (G : Nat → Value) (x8 : Int), kq10 ≤ k ∧ Env 84 G a ∧ At G [(2, .pointer (some ⟨b2, 0, none⟩)), (3, .pointer (some ⟨b4, 0, none⟩)), (10, .slice A1_1 x1_.f1.length c1_1), (11, .int .i64 (x1_.f1.length : Int)), (12, .int .i64 x8)] ∧ St W (mine W []) F w' F [box b4 #[.int .i64 x1_.f0, .slice A1_1 x1_.f1.length c1_1] 49, box b2 #[.int .i64 x0_.f0, .int .i64 x0_.f1, .int .i64 x0_.f2, .int .i64 x0_.f3, .slice A0_4 x0_.f4.length c0_4, .slice A0_5 x0_.f5.length c0_5, .slice A0_6 x0_.f6.length c0_6] 26] ∧  qAK.l9 kq10 x0_ x1_ x8 = some r) k ⟨_, 0, Nat.le_refl _, hE, .of, hS, H⟩ ?_
 rintro kq10 a u12 ⟨G, x8, hkq, hE, hA, hS, H⟩
 cases kq10 with
 | zero => cases (show none = some r from H)
 | succ k11 =>
  rw [qAK.l9_s] at H
  obtain ⟨J, hE⟩ := hE.at hA
  refine sq fun K13 hK13 => pl0 (plc hE (.r 0 1 .nil) (fun a hE => pld (hK13 _ _ (sq fun K14 hK14 => ?_))))
  rcases sp H with ⟨c15, H⟩ | ⟨c15, H⟩
  ·
   replace hE := hE.kt 13 c15
   refine ct hE (wp_skip (hK14 _ _ (sq fun K16 hK16 => wp_block (sq fun K17 hK17 => pl0 ?_))))
   obtain ⟨c18, H⟩ := gd H
   have hE_ := hE
   obtain ⟨ad19, rfl⟩ := g1_1.addr c18.1 c18.2
   replace hE := hE_
   obtain ⟨cs21, ⟨A23, c24, rfl, g25⟩, hc22⟩ := g1_1.el qD.z x8 c18.1 c18.2
   refine plc hE (.r 0 1 <| .x 1 c18 <| .cs 2 (hS.fcs hc22) <| .nil) (fun a hE => ple hE (.al (t := 51) hS [.int .i64 0, .slice none 0 0]) ?_)
   rintro _ u27 a ⟨b26, rfl, hb26, hS, hg⟩ hE
   refine plc hE (.r 4 1 .nil) (fun a hE => ple hE (.sto hS [.int .i64 ((nth qD.z x1_.f1 x8).f0), .slice A23 (((nth qD.z x1_.f1 x8).f1).length) c24]) ?_)
   rintro _ u28 a ⟨rfl, hb26, hS, hz⟩ hE
   refine pld (hK17 _ _ (sq fun K29 hK29 => sq fun K30 hK30 => ?_))
   have J54 : ∀ kq52, kq52 ≤ k11 → ∀ (G : Nat → Value) (y50 : Bool) (a : Act) (w' : World), Env 84 G a → At G [(2, .pointer (some ⟨b2, 0, none⟩)), (3, .pointer (some ⟨b4, 0, none⟩)), (5, .int .i64 x8), (6, .pointer (some ⟨b26, 0, none⟩)), (10, .slice (some ad19) x1_.f1.length c1_1), (11, .int .i64 (x1_.f1.length : Int)), (12, .int .i64 x8), (50, .bool y50)] → St W (mine W []) F w' F [box b26 #[.int .i64 ((nth qD.z x1_.f1 x8).f0), .slice A23 (((nth qD.z x1_.f1 x8).f1).length) c24] 51, box b4 #[.int .i64 x1_.f0, .slice (some ad19) x1_.f1.length c1_1] 49, box b2 #[.int .i64 x0_.f0, .int .i64 x0_.f1, .int .i64 x0_.f2, .int .i64 x0_.f3, .slice A0_4 x0_.f4.length c0_4, .slice A0_5 x0_.f5.length c0_5, .slice A0_6 x0_.f6.length c0_6] 26] → qAK.j51 kq52 x0_ x1_ x8 y50 = some r → K30 a w' := by
    intro kq52 hkq G y50 a u55 hE hA hS H
    cases kq52 with
    | zero => cases (show none = some r from H)
    | succ k53 =>
     rw [qAK.j51_s] at H
     obtain ⟨J, hE⟩ := hE.at hA
     refine hK30 _ _ ?_
     rcases sp H with ⟨c56, H⟩ | ⟨c56, H⟩
     ·
      replace hE := hE.bt 50 c56
      refine ct hE (sq fun K57 hK57 => pl0 (plc hE (.r 0 1 .nil) (fun a hE => pld (hK57 _ _ (wp_ret (qCB (qCC (qCB (qCB (qCC (qCB ?_)))))))))))
      replace hS := hS.tail
      replace hS := hS.tail
      replace hS := hS.tail
      obtain rfl := si H
      exact rt1 hE ⟨_, rfl, _, rfl, hS⟩
     ·
      replace hE := hE.bf 50 c56
      refine cf hE (wp_skip (hK29 _ _ (sq fun K58 hK58 => sq fun K59 hK59 => pl0 ?_)))
      have hb26 := hS.blk_at (i := 0) rfl
      refine plc hE (.r 0 1 <| .b 1 1 hb26 <| .r 2 2 <| .nil) (fun a hE => pld (hK59 _ _ (wp_block ?_)))
      refine wp_loop_ghost (fun kq62 a w' => ∃ (G : Nat → Value) (x60 : Int), kq62 ≤ k53 ∧ Env 84 G a ∧ At G [(2, .pointer (some ⟨b2, 0, none⟩)), (3, .pointer (some ⟨b4, 0, none⟩)), (5, .int .i64 x8), (6, .pointer (some ⟨b26, 0, none⟩)), (10, .slice (some ad19) x1_.f1.length c1_1), (11, .int .i64 (x1_.f1.length : Int)), (12, .int .i64 x8), (52, .slice A23 (((nth qD.z x1_.f1 x8).f1).length) c24), (53, .int .i64 (((nth qD.z x1_.f1 x8).f1).length : Int)), (54, .int .i64 x60)] ∧ St W (mine W []) F w' F [box b26 #[.int .i64 ((nth qD.z x1_.f1 x8).f0), .slice A23 (((nth qD.z x1_.f1 x8).f1).length) c24] 51, box b4 #[.int .i64 x1_.f0, .slice (some ad19) x1_.f1.length c1_1] 49, box b2 #[.int .i64 x0_.f0, .int .i64 x0_.f1, .int .i64 x0_.f2, .int .i64 x0_.f3, .slice A0_4 x0_.f4.length c0_4, .slice A0_5 x0_.f5.length c0_5, .slice A0_6 x0_.f6.length c0_6] 26] ∧  qAK.l61 kq62 x0_ x1_ x8 x60 = some r) k53 ⟨_, 0, Nat.le_refl _, hE, .of, hS, H⟩ ?_
      rintro kq62 a u64 ⟨G, x60, hkq, hE, hA, hS, H⟩
      cases kq62 with
      | zero => cases (show none = some r from H)
      | succ k63 =>
       rw [qAK.l61_s] at H
       obtain ⟨J, hE⟩ := hE.at hA
       refine sq fun K65 hK65 => pl0 (plc hE (.r 0 1 .nil) (fun a hE => pld (hK65 _ _ (sq fun K66 hK66 => ?_))))
       rcases sp H with ⟨c67, H⟩ | ⟨c67, H⟩
       ·
        replace hE := hE.kt 55 c67
        refine ct hE (wp_skip (hK66 _ _ (sq fun K68 hK68 => wp_block (sq fun K69 hK69 => pl0 ?_))))
        obtain ⟨c70, H⟩ := gd H
        have hE_ := hE
        obtain ⟨ad71, rfl⟩ := g25.addr c70.1 c70.2
        replace hE := hE_
        obtain ⟨cs73, rfl, hc74⟩ := g25.el 0 x60 c70.1 c70.2
        refine plc hE (.r 0 1 <| .x 1 c70 <| .c 2 (hS.fc hc74 0) <| .r 3 2 <| .nil) (fun a hE => pld (hK69 _ _ (sq fun K75 hK75 => ?_)))
        have J89 : ∀ kq87, kq87 ≤ k63 → ∀ (G : Nat → Value) (y85 : Bool) (a : Act) (w' : World), Env 84 G a → At G [(2, .pointer (some ⟨b2, 0, none⟩)), (3, .pointer (some ⟨b4, 0, none⟩)), (5, .int .i64 x8), (6, .pointer (some ⟨b26, 0, none⟩)), (10, .slice (some ad19) x1_.f1.length c1_1), (11, .int .i64 (x1_.f1.length : Int)), (12, .int .i64 x8), (52, .slice (some ad71) (((nth qD.z x1_.f1 x8).f1).length) c24), (53, .int .i64 (((nth qD.z x1_.f1 x8).f1).length : Int)), (54, .int .i64 x60), (75, .bool y85)] → St W (mine W []) F w' F [box b26 #[.int .i64 ((nth qD.z x1_.f1 x8).f0), .slice (some ad71) (((nth qD.z x1_.f1 x8).f1).length) c24] 51, box b4 #[.int .i64 x1_.f0, .slice (some ad19) x1_.f1.length c1_1] 49, box b2 #[.int .i64 x0_.f0, .int .i64 x0_.f1, .int .i64 x0_.f2, .int .i64 x0_.f3, .slice A0_4 x0_.f4.length c0_4, .slice A0_5 x0_.f5.length c0_5, .slice A0_6 x0_.f6.length c0_6] 26] → qAK.j86 kq87 x0_ x1_ x8 x60 y85 = some r → K75 a w' := by
         intro kq87 hkq G y85 a u90 hE hA hS H
         cases kq87 with
         | zero => cases (show none = some r from H)
         | succ k88 =>
          rw [qAK.j86_s] at H
          obtain ⟨J, hE⟩ := hE.at hA
          refine hK75 _ _ ?_
          rcases sp H with ⟨c91, H⟩ | ⟨c91, H⟩
          ·
           replace hE := hE.bt 75 c91
           refine ct hE (sq fun K92 hK92 => pl0 (plc hE (.r 0 1 .nil) (fun a hE => pld (hK92 _ _ (wp_ret (qCC (qCB (qCB (qCC (qCB (qCC (qCB (qCB (qCC (qCB ?_)))))))))))))))
           replace hS := hS.tail
           replace hS := hS.tail
           replace hS := hS.tail
           obtain rfl := si H
           exact rt1 hE ⟨_, rfl, _, rfl, hS⟩
          ·
           replace hE := hE.bf 75 c91
           refine cf hE (wp_skip ?_)
           refine qCD ?_
           refine hK68 _ _ (pl0 (plc hE (.r 0 2 .nil) (fun a hE => pld ?_)))
           exact qCE ⟨k88, by omega, _, (w64 (x60 + 1)), by omega, hE, .of, hS, H⟩
        refine pl0 (plc hE (.r 0 1 .nil) (fun a hE => ?_))
        obtain ⟨t77, h78, H⟩ := bd H
        refine ple hE (.cl en70 (qAp.calls (nth 0 ((nth qD.z x1_.f1 x8).f1) x60) 1 999 _ _ _ hS.own.sub h78)) ?_
        rintro _ u76 a ⟨_, rfl, hC⟩ hE
        replace hS := hS.lent hC
        refine plc hE (.r 2 2 .nil) (fun a hE => ?_)
        rcases sp H with ⟨c79, H⟩ | ⟨c79, H⟩
        ·
         replace hE := hE.btn 62 c79
         refine plc hE (.r 4 3 .nil) (fun a hE => ?_)
         rcases sp H with ⟨c80, H⟩ | ⟨c80, H⟩
         ·
          replace hE := hE.kt 65 c80
          have hb26 := hS.blk_at (i := 0) rfl
          obtain ⟨c81, H⟩ := gd H
          obtain ⟨cs83, rfl, hc84⟩ := g25.el 0 (w64 (x60 - 1)) c81.1 c81.2
          refine plc hE (.r 7 2 <| .b 9 1 hb26 <| .r 10 2 <| .x 12 c81 <| .c 13 (hS.fc hc84 0) <| .r 14 3 <| .nil) (fun a hE => pld ?_)
          exact J89 _ (by omega) _ (decide ((nth 0 ((nth qD.z x1_.f1 x8).f1) x60) ≤ (nth 0 ((nth qD.z x1_.f1 x8).f1) (w64 (x60 - 1))))) _ _ hE .of hS H
         ·
          replace hE := hE.kf 65 c80
          refine plc hE (.r 7 10 .nil) (fun a hE => pld ?_)
          exact J89 _ (by omega) _ false _ _ hE .of hS H
        ·
         replace hE := hE.bfn 62 c79
         refine plc hE (.r 4 13 .nil) (fun a hE => pld ?_)
         exact J89 _ (by omega) _ true _ _ hE .of hS H
       ·
        replace hE := hE.kf 55 c67
        refine cf hE ?_
        refine wp_exit ?_
        refine hK58 _ _ (sq fun K93 hK93 => pl0 ?_)
        have hb4 := hS.blk_at (i := 1) rfl
        obtain ⟨c94, H⟩ := gd H
        obtain ⟨A95, c96, g97, hv98⟩ := qEJ (P := Tryz.prog) g1_1 ⟨Int.le_refl _, c94.1, c94.2⟩ sz51
        refine plc hE (.r 0 1 <| .b 1 1 hb4 <| .r 2 1 <| .y 3 (hv98 (by kernel_rfl)) <| .r 4 1 <| .nil) (fun a hE => ?_)
        obtain ⟨t100, h101, H⟩ := bd H
        refine ple hE (.cl en119 (qt.calls k63 (cutl x1_.f1 0 x8) (⟨(nth qD.z x1_.f1 x8).f0, (nth qD.z x1_.f1 x8).f1⟩ : qD) _ _ _ _ _ _ _ _ (Sub.refl _) (g97.mono hS.own.sub) (g25.mono hS.own.sub) (hS.blk_at (i := 0) rfl) h101)) ?_
        rintro _ u99 a ⟨_, rfl, hC⟩ hE
        replace hS := hS.lent hC
        refine pld (hK93 _ _ ?_)
        rcases sp H with ⟨c102, H⟩ | ⟨c102, H⟩
        ·
         replace hE := hE.bt 82 c102
         refine ct hE (sq fun K103 hK103 => pl0 (plc hE (.r 0 1 .nil) (fun a hE => pld (hK103 _ _ (wp_ret (qCC (qCB (qCB (qCC (qCB ?_))))))))))
         replace hS := hS.tail
         replace hS := hS.tail
         replace hS := hS.tail
         obtain rfl := si H
         exact rt1 hE ⟨_, rfl, _, rfl, hS⟩
        ·
         replace hE := hE.bf 82 c102
         refine cf hE (wp_skip ?_)
         refine qCD ?_
         refine hK16 _ _ (pl0 (plc hE (.r 0 2 .nil) (fun a hE => pld ?_)))
         replace hS := hS.tail
         exact qCE ⟨k63, by omega, _, (w64 (x8 + 1)), by omega, hE, .of, hS, H⟩
   refine drawn 34 ⟨[], [], fun q => False⟩ mixed rfl (by kernel_rfl) (fun hst => ?_)
   replace hS := hS.drew
   have hb26 := hS.blk_at (i := 0) rfl
   have hb4 := hS.blk_at (i := 1) rfl
   refine mny 29 hst hE (.r 0 1 <| .b 1 0 hb26 <| .r 2 1 <| .b 3 0 hb4 <| .r 4 1 <| .nil) (fun a hE => ?_)
   obtain ⟨t32, h33, H⟩ := bd H
   refine on1 5 hE (.cl en70 (qAp.calls ((nth qD.z x1_.f1 x8).f0) 0 (w64 (x1_.f0 - 1)) _ _ _ hS.own.sub h33)) ?_
   rintro _ u31 a ⟨_, rfl, hC⟩ hE
   refine ⟨.of hC.agr, ?_⟩
   replace hS := hS.lent hC
   refine mny 26 hst hE (.r 6 2 .nil) (fun a hE => ?_)
   rcases sp H with ⟨c34, H⟩ | ⟨c34, H⟩
   ·
    replace hE := hE.btn 24 c34
    refine mny 23 hst hE (.r 8 3 .nil) (fun a hE => ?_)
    rcases sp H with ⟨c35, H⟩ | ⟨c35, H⟩
    ·
     replace hE := hE.kt 27 c35
     have hb26 := hS.blk_at (i := 0) rfl
     have hb4 := hS.blk_at (i := 1) rfl
     obtain ⟨c36, H⟩ := gd H
     obtain ⟨cs38, ⟨A40, c41, rfl, g42⟩, hc39⟩ := g1_1.el qD.z (w64 (x8 - 1)) c36.1 c36.2
     refine mny 10 hst hE (.r 11 1 <| .b 12 0 hb26 <| .r 13 1 <| .b 14 1 hb4 <| .r 15 2 <| .x 17 c36 <| .r 18 1 <| .c 19 (hS.fc hc39 0) <| .r 20 4 <| .nil) (fun a hE => ?_)
     rcases sp H with ⟨c43, H⟩ | ⟨c43, H⟩
     ·
      replace hE := hE.kt 40 c43
      refine mny 0 hst hE (.r 24 10 .nil) (fun a hE => ?_)
      refine dn ?_
      exact J54 _ (by omega) _ true _ _ hE .of hS H
     ·
      replace hE := hE.kf 40 c43
      have hb2 := hS.blk_at (i := 2) rfl
      refine mny 3 hst hE (.r 24 1 <| .b 25 1 hb26 <| .r 26 2 <| .b 28 2 hb2 <| .r 29 1 <| .b 30 1 hb2 <| .nil) (fun a hE => ?_)
      obtain ⟨t45, h46, H⟩ := bd H
      refine on1 31 hE (.cl en70 (qAp.calls (((nth qD.z x1_.f1 x8).f1).length : Int) x0_.f2 x0_.f1 _ _ _ hS.own.sub h46)) ?_
      rintro _ u44 a ⟨_, rfl, hC⟩ hE
      refine ⟨.of hC.agr, ?_⟩
      replace hS := hS.lent hC
      refine mny 0 hst hE (.r 32 2 .nil) (fun a hE => ?_)
      refine dn ?_
      exact J54 _ (by omega) _ (!t45) _ _ hE .of hS H
    ·
     replace hE := hE.kf 27 c35
     have hb26 := hS.blk_at (i := 0) rfl
     have hb2 := hS.blk_at (i := 2) rfl
     refine mny 3 hst hE (.r 11 14 <| .b 25 1 hb26 <| .r 26 2 <| .b 28 2 hb2 <| .r 29 1 <| .b 30 1 hb2 <| .nil) (fun a hE => ?_)
     obtain ⟨t48, h49, H⟩ := bd H
     refine on1 31 hE (.cl en70 (qAp.calls (((nth qD.z x1_.f1 x8).f1).length : Int) x0_.f2 x0_.f1 _ _ _ hS.own.sub h49)) ?_
     rintro _ u47 a ⟨_, rfl, hC⟩ hE
     refine ⟨.of hC.agr, ?_⟩
     replace hS := hS.lent hC
     refine mny 0 hst hE (.r 32 2 .nil) (fun a hE => ?_)
     refine dn ?_
     exact J54 _ (by omega) _ (!t48) _ _ hE .of hS H
   ·
    replace hE := hE.bfn 24 c34
    refine mny 0 hst hE (.r 8 26 .nil) (fun a hE => ?_)
    refine dn ?_
    exact J54 _ (by omega) _ true _ _ hE .of hS H
  ·
   replace hE := hE.kf 13 c15
   refine cf hE ?_
   refine wp_exit ?_
   refine hK6 _ _ (sq fun K104 hK104 => pl0 (plc hE (.r 0 1 .nil) (fun a hE => pld (hK104 _ _ (wp_ret ?_)))))
   replace hS := hS.tail
   replace hS := hS.tail
   obtain rfl := si H
   exact rt1 hE ⟨_, rfl, _, rfl, hS⟩
mutual
def qAb.l11 : Nat → qJ → Int → Option Int
  | 0, _, _ => none
  | k + 1, x0_, x10 => if x10 < (x0_.f6.length : Int) then (if 0 ≤ x10 ∧ x10 < (x0_.f6.length : Int) then ((qAp.f ((nth qC.z x0_.f6 x10).f0) 0 x0_.f0).bind fun t33 => (if t33 = true then ((qAK.f k x0_ (⟨(nth qC.z x0_.f6 x10).f0, (nth qC.z x0_.f6 x10).f1⟩ : qC)).bind fun t37 => (qAb.j40 k x0_ x10 (!t37))) else (qAb.j40 k x0_ x10 true))) else (none)) else (some 0)
def qAb.j40 : Nat → qJ → Int → Bool → Option Int
  | 0, _, _, _ => none
  | k + 1, x0_, x10, y39 => if y39 = true then (some 1) else (qAb.l11 k x0_ (w64 (x10 + 1)))
end
theorem qAb.l11_s (k : Nat) (x0_ : qJ) (x10 : Int) : qAb.l11 (k + 1) x0_ x10 = (if x10 < (x0_.f6.length : Int) then (if 0 ≤ x10 ∧ x10 < (x0_.f6.length : Int) then ((qAp.f ((nth qC.z x0_.f6 x10).f0) 0 x0_.f0).bind fun t33 => (if t33 = true then ((qAK.f k x0_ (⟨(nth qC.z x0_.f6 x10).f0, (nth qC.z x0_.f6 x10).f1⟩ : qC)).bind fun t37 => (qAb.j40 k x0_ x10 (!t37))) else (qAb.j40 k x0_ x10 true))) else (none)) else (some 0)) := by kernel_rfl
theorem qAb.j40_s (k : Nat) (x0_ : qJ) (x10 : Int) (y39 : Bool) : qAb.j40 (k + 1) x0_ x10 y39 = (if y39 = true then (some 1) else (qAb.l11 k x0_ (w64 (x10 + 1)))) := by kernel_rfl
def qAb.f (k : Nat) (x0_ : qJ) : Option Int := if (x0_.f6.length : Int) = x0_.f3 then (qAb.l11 k x0_ 0) else (some 1)
def qAb.Post (W F : World) (r : Int) (v : Value) (w' : World) : Prop := ∃ (F' : World), v = .int .i64 r ∧ St W (mine W []) F w' F' []
theorem qAb.calls (k : Nat) (x0_ : qJ) (A0_4 : Option Addr) (c0_4 : Nat) (A0_5 : Option Addr) (c0_5 : Nat) (A0_6 : Option Addr) (c0_6 : Nat) (r : Int) (W F : World) (hown : Sub F W) (g0_4 : Rd qA.k F A0_4 c0_4 x0_.f4) (g0_5 : Rd qK.k F A0_5 c0_5 x0_.f5) (g0_6 : Rd qC.k F A0_6 c0_6 x0_.f6) (H : qAb.f k x0_ = some r) :
    Calls Tryz.prog 82 #[.agg #[.int .i64 x0_.f0, .int .i64 x0_.f1, .int .i64 x0_.f2, .int .i64 x0_.f3, .slice A0_4 x0_.f4.length c0_4, .slice A0_5 x0_.f5.length c0_5, .slice A0_6 x0_.f6.length c0_6]] W fun e w' => ∃ v, e = .returned v ∧ qAb.Post W F r v w' := by
 have hS := St.start (Own.nil hown)
 unfold qAb.f at H
 refine enter (n := 31) rfl rfl rfl (Nat.le_of_ble_eq_true rfl) (fun a hE => ?_)
 refine sq fun K1 hK1 => pl0 (ple hE (.bx (t := 26) hS [.int .i64 x0_.f0, .int .i64 x0_.f1, .int .i64 x0_.f2, .int .i64 x0_.f3, .slice A0_4 x0_.f4.length c0_4, .slice A0_5 x0_.f5.length c0_5, .slice A0_6 x0_.f6.length c0_6]) ?_)
 rintro _ u3 a ⟨b2, rfl, hb2, hS, hg⟩ hE
 refine plc hE (.r 1 1 .nil) (fun a hE => pld (hK1 _ _ (sq fun K4 hK4 => sq fun K5 hK5 => pl0 (plc hE (.r 0 1 <| .b 1 6 hb2 <| .r 2 2 <| .b 4 3 hb2 <| .r 5 1 <| .nil) (fun a hE => pld (hK5 _ _ ?_))))))
 rcases sp H with ⟨c6, H⟩ | ⟨c6, H⟩
 ·
  replace hE := hE.ktn 10 c6
  refine cf hE (wp_skip (hK4 _ _ (sq fun K8 hK8 => sq fun K9 hK9 => pl0 (plc hE (.r 0 1 <| .b 1 6 hb2 <| .r 2 2 <| .nil) (fun a hE => pld (hK9 _ _ (wp_block ?_)))))))
  refine wp_loop_ghost (fun kq12 a w' => ∃ (G : Nat → Value) (x10 : Int), kq12 ≤ k ∧ Env 31 G a ∧ At G [(1, .pointer (some ⟨b2, 0, none⟩)), (12, .slice A0_6 x0_.f6.length c0_6), (13, .int .i64 (x0_.f6.length : Int)), (14, .int .i64 x10)] ∧ St W (mine W []) F w' F [box b2 #[.int .i64 x0_.f0, .int .i64 x0_.f1, .int .i64 x0_.f2, .int .i64 x0_.f3, .slice A0_4 x0_.f4.length c0_4, .slice A0_5 x0_.f5.length c0_5, .slice A0_6 x0_.f6.length c0_6] 26] ∧  qAb.l11 kq12 x0_ x10 = some r) k ⟨_, 0, Nat.le_refl _, hE, .of, hS, H⟩ ?_
  rintro kq12 a u14 ⟨G, x10, hkq, hE, hA, hS, H⟩
  cases kq12 with
  | zero => cases (show none = some r from H)
  | succ k13 =>
   rw [qAb.l11_s] at H
   obtain ⟨J, hE⟩ := hE.at hA
   refine sq fun K15 hK15 => pl0 (plc hE (.r 0 1 .nil) (fun a hE => pld (hK15 _ _ (sq fun K16 hK16 => ?_))))
   rcases sp H with ⟨c17, H⟩ | ⟨c17, H⟩
   ·
    replace hE := hE.kt 15 c17
    refine ct hE (wp_skip (hK16 _ _ (sq fun K18 hK18 => wp_block (sq fun K19 hK19 => pl0 ?_))))
    obtain ⟨c20, H⟩ := gd H
    have hE_ := hE
    obtain ⟨ad21, rfl⟩ := g0_6.addr c20.1 c20.2
    replace hE := hE_
    obtain ⟨cs23, ⟨A25, c26, rfl, g27⟩, hc24⟩ := g0_6.el qC.z x10 c20.1 c20.2
    refine plc hE (.x 0 c20 <| .cs 1 (hS.fcs hc24) <| .nil) (fun a hE => ple hE (.al (t := 49) hS [.int .i64 0, .slice none 0 0]) ?_)
    rintro _ u29 a ⟨b28, rfl, hb28, hS, hg⟩ hE
    refine ple hE (.sto hS [.int .i64 ((nth qC.z x0_.f6 x10).f0), .slice A25 (((nth qC.z x0_.f6 x10).f1).length) c26]) ?_
    rintro _ u30 a ⟨rfl, hb28, hS, hz⟩ hE
    refine pld (hK19 _ _ (sq fun K31 hK31 => ?_))
    have J43 : ∀ kq41, kq41 ≤ k13 → ∀ (G : Nat → Value) (y39 : Bool) (a : Act) (w' : World), Env 31 G a → At G [(1, .pointer (some ⟨b2, 0, none⟩)), (12, .slice (some ad21) x0_.f6.length c0_6), (13, .int .i64 (x0_.f6.length : Int)), (14, .int .i64 x10), (29, .bool y39)] → St W (mine W []) F w' F [box b28 #[.int .i64 ((nth qC.z x0_.f6 x10).f0), .slice A25 (((nth qC.z x0_.f6 x10).f1).length) c26] 49, box b2 #[.int .i64 x0_.f0, .int .i64 x0_.f1, .int .i64 x0_.f2, .int .i64 x0_.f3, .slice A0_4 x0_.f4.length c0_4, .slice A0_5 x0_.f5.length c0_5, .slice (some ad21) x0_.f6.length c0_6] 26] → qAb.j40 kq41 x0_ x10 y39 = some r → K31 a w' := by
     intro kq41 hkq G y39 a u44 hE hA hS H
     cases kq41 with
     | zero => cases (show none = some r from H)
     | succ k42 =>
      rw [qAb.j40_s] at H
      obtain ⟨J, hE⟩ := hE.at hA
      refine hK31 _ _ ?_
      rcases sp H with ⟨c45, H⟩ | ⟨c45, H⟩
      ·
       replace hE := hE.bt 29 c45
       refine ct hE (sq fun K46 hK46 => pl0 (plc hE (.r 0 1 .nil) (fun a hE => pld (hK46 _ _ (wp_ret (qCC (qCB (qCB (qCC (qCB ?_))))))))))
       replace hS := hS.tail
       replace hS := hS.tail
       obtain rfl := si H
       exact rt1 hE ⟨_, rfl, _, rfl, hS⟩
      ·
       replace hE := hE.bf 29 c45
       refine cf hE (wp_skip ?_)
       refine qCD ?_
       refine hK18 _ _ (pl0 (plc hE (.r 0 2 .nil) (fun a hE => pld ?_)))
       replace hS := hS.tail
       exact qCE ⟨k42, by omega, _, (w64 (x10 + 1)), by omega, hE, .of, hS, H⟩
    refine pl0 ?_
    have hb2 := hS.blk_at (i := 1) rfl
    refine plc hE (.r 0 1 <| .b 1 0 hb28 <| .r 2 1 <| .b 3 0 hb2 <| .nil) (fun a hE => ?_)
    obtain ⟨t33, h34, H⟩ := bd H
    refine ple hE (.cl en70 (qAp.calls ((nth qC.z x0_.f6 x10).f0) 0 x0_.f0 _ _ _ hS.own.sub h34)) ?_
    rintro _ u32 a ⟨_, rfl, hC⟩ hE
    replace hS := hS.lent hC
    refine plc hE (.r 5 2 .nil) (fun a hE => ?_)
    rcases sp H with ⟨c35, H⟩ | ⟨c35, H⟩
    ·
     replace hE := hE.btn 24 c35
     have hb2 := hS.blk_at (i := 1) rfl
     have hb28 := hS.blk_at (i := 0) rfl
     refine plc hE (.bn 7 0 7 hb2 <| .bn 8 0 2 hb28 <| .nil) (fun a hE => ?_)
     obtain ⟨t37, h38, H⟩ := bd H
     refine ple hE (.cl en142 (qAK.calls k13 x0_ (⟨(nth qC.z x0_.f6 x10).f0, (nth qC.z x0_.f6 x10).f1⟩ : qC) _ _ _ _ _ _ _ _ _ _ _ hS.own.sub g0_4 g0_5 g0_6 g27 h38)) ?_
     rintro _ u36 a ⟨_, rfl, hC⟩ hE
     replace hS := hS.lent hC
     refine plc hE (.r 10 2 .nil) (fun a hE => pld ?_)
     exact J43 _ (by omega) _ (!t37) _ _ hE .of hS H
    ·
     replace hE := hE.bfn 24 c35
     refine plc hE (.r 7 5 .nil) (fun a hE => pld ?_)
     exact J43 _ (by omega) _ true _ _ hE .of hS H
   ·
    replace hE := hE.kf 15 c17
    refine cf hE ?_
    refine wp_exit ?_
    refine hK8 _ _ (sq fun K47 hK47 => pl0 (plc hE (.r 0 1 .nil) (fun a hE => pld (hK47 _ _ (wp_ret ?_)))))
    replace hS := hS.tail
    obtain rfl := si H
    exact rt1 hE ⟨_, rfl, _, rfl, hS⟩
 ·
  replace hE := hE.kfn 10 c6
  refine ct hE (sq fun K7 hK7 => pl0 (plc hE (.r 0 1 .nil) (fun a hE => pld (hK7 _ _ (wp_ret (qCB ?_))))))
  replace hS := hS.tail
  obtain rfl := si H
  exact rt1 hE ⟨_, rfl, _, rfl, hS⟩
mutual
def qx.j26 : Nat → qJ → Bool → Option Int
  | 0, _, _ => none
  | k + 1, x0_, y25 => if y25 = true then (some 1) else (qx.l36 k x0_ 0)
def qx.l36 : Nat → qJ → Int → Option Int
  | 0, _, _ => none
  | k + 1, x0_, x35 => if x35 < (x0_.f5.length : Int) then (if 0 ≤ x35 ∧ x35 < (x0_.f5.length : Int) then ((qAp.f ((nth qK.z x0_.f5 x35).f0) 0 (w64 (x0_.f3 - 1))).bind fun t58 => (if t58 = true then (if x35 > 0 then (if 0 ≤ (w64 (x35 - 1)) ∧ (w64 (x35 - 1)) < (x0_.f5.length : Int) then (if (nth qK.z x0_.f5 x35).f0 ≤ (nth qK.z x0_.f5 (w64 (x35 - 1))).f0 then (qx.j85 k x0_ x35 true) else ((qAp.f (((nth qK.z x0_.f5 x35).f1).length : Int) 1 x0_.f1).bind fun t71 => (if t71 = true then ((qAR.f k x0_.f4 ((nth qK.z x0_.f5 x35).f1)).bind fun t75 => (qx.j85 k x0_ x35 (!t75))) else (qx.j85 k x0_ x35 true)))) else (none)) else ((qAp.f (((nth qK.z x0_.f5 x35).f1).length : Int) 1 x0_.f1).bind fun t78 => (if t78 = true then ((qAR.f k x0_.f4 ((nth qK.z x0_.f5 x35).f1)).bind fun t82 => (qx.j85 k x0_ x35 (!t82))) else (qx.j85 k x0_ x35 true)))) else (qx.j85 k x0_ x35 true))) else (none)) else ((qAb.f k x0_).bind fun t94 => (some t94))
def qx.j85 : Nat → qJ → Int → Bool → Option Int
  | 0, _, _, _ => none
  | k + 1, x0_, x35, y84 => if y84 = true then (some 1) else (qx.l36 k x0_ (w64 (x35 + 1)))
end
theorem qx.j26_s (k : Nat) (x0_ : qJ) (y25 : Bool) : qx.j26 (k + 1) x0_ y25 = (if y25 = true then (some 1) else (qx.l36 k x0_ 0)) := by kernel_rfl
theorem qx.l36_s (k : Nat) (x0_ : qJ) (x35 : Int) : qx.l36 (k + 1) x0_ x35 = (if x35 < (x0_.f5.length : Int) then (if 0 ≤ x35 ∧ x35 < (x0_.f5.length : Int) then ((qAp.f ((nth qK.z x0_.f5 x35).f0) 0 (w64 (x0_.f3 - 1))).bind fun t58 => (if t58 = true then (if x35 > 0 then (if 0 ≤ (w64 (x35 - 1)) ∧ (w64 (x35 - 1)) < (x0_.f5.length : Int) then (if (nth qK.z x0_.f5 x35).f0 ≤ (nth qK.z x0_.f5 (w64 (x35 - 1))).f0 then (qx.j85 k x0_ x35 true) else ((qAp.f (((nth qK.z x0_.f5 x35).f1).length : Int) 1 x0_.f1).bind fun t71 => (if t71 = true then ((qAR.f k x0_.f4 ((nth qK.z x0_.f5 x35).f1)).bind fun t75 => (qx.j85 k x0_ x35 (!t75))) else (qx.j85 k x0_ x35 true)))) else (none)) else ((qAp.f (((nth qK.z x0_.f5 x35).f1).length : Int) 1 x0_.f1).bind fun t78 => (if t78 = true then ((qAR.f k x0_.f4 ((nth qK.z x0_.f5 x35).f1)).bind fun t82 => (qx.j85 k x0_ x35 (!t82))) else (qx.j85 k x0_ x35 true)))) else (qx.j85 k x0_ x35 true))) else (none)) else ((qAb.f k x0_).bind fun t94 => (some t94))) := by kernel_rfl
theorem qx.j85_s (k : Nat) (x0_ : qJ) (x35 : Int) (y84 : Bool) : qx.j85 (k + 1) x0_ x35 y84 = (if y84 = true then (some 1) else (qx.l36 k x0_ (w64 (x35 + 1)))) := by kernel_rfl
def qx.f (k : Nat) (x0_ : qJ) : Option Int := (qAp.f x0_.f0 0 2147483647).bind fun t7 => (if t7 = true then ((qAp.f x0_.f1 1 3).bind fun t11 => (if t11 = true then ((qAp.f x0_.f2 1 x0_.f1).bind fun t15 => (if t15 = true then ((qAp.f x0_.f3 1 8).bind fun t19 => (if t19 = true then ((qAG.f k x0_.f4).bind fun t23 => (qx.j26 k x0_ (!(t23 == 0)))) else (qx.j26 k x0_ true))) else (qx.j26 k x0_ true))) else (qx.j26 k x0_ true))) else (qx.j26 k x0_ true))
def qx.Post (W F : World) (r : Int) (v : Value) (w' : World) : Prop := ∃ (F' : World), v = .int .i64 r ∧ St W (mine W []) F w' F' []
theorem qx.calls (k : Nat) (x0_ : qJ) (A0_4 : Option Addr) (c0_4 : Nat) (A0_5 : Option Addr) (c0_5 : Nat) (A0_6 : Option Addr) (c0_6 : Nat) (r : Int) (W F : World) (hown : Sub F W) (g0_4 : Rd qA.k F A0_4 c0_4 x0_.f4) (g0_5 : Rd qK.k F A0_5 c0_5 x0_.f5) (g0_6 : Rd qC.k F A0_6 c0_6 x0_.f6) (H : qx.f k x0_ = some r) :
    Calls Tryz.prog 32 #[.agg #[.int .i64 x0_.f0, .int .i64 x0_.f1, .int .i64 x0_.f2, .int .i64 x0_.f3, .slice A0_4 x0_.f4.length c0_4, .slice A0_5 x0_.f5.length c0_5, .slice A0_6 x0_.f6.length c0_6]] W fun e w' => ∃ v, e = .returned v ∧ qx.Post W F r v w' := by
 have hS := St.start (Own.nil hown)
 unfold qx.f at H
 refine enter (n := 86) rfl rfl rfl (Nat.le_of_ble_eq_true rfl) (fun a hE => ?_)
 refine sq fun K1 hK1 => pl0 (ple hE (.bx (t := 26) hS [.int .i64 x0_.f0, .int .i64 x0_.f1, .int .i64 x0_.f2, .int .i64 x0_.f3, .slice A0_4 x0_.f4.length c0_4, .slice A0_5 x0_.f5.length c0_5, .slice A0_6 x0_.f6.length c0_6]) ?_)
 rintro _ u3 a ⟨b2, rfl, hb2, hS, hg⟩ hE
 refine plc hE (.r 1 1 .nil) (fun a hE => pld (hK1 _ _ (sq fun K4 hK4 => sq fun K5 hK5 => ?_)))
 have J29 : ∀ kq27, kq27 ≤ k → ∀ (G : Nat → Value) (y25 : Bool) (a : Act) (w' : World), Env 86 G a → At G [(1, .pointer (some ⟨b2, 0, none⟩)), (34, .bool y25)] → St W (mine W []) F w' F [box b2 #[.int .i64 x0_.f0, .int .i64 x0_.f1, .int .i64 x0_.f2, .int .i64 x0_.f3, .slice A0_4 x0_.f4.length c0_4, .slice A0_5 x0_.f5.length c0_5, .slice A0_6 x0_.f6.length c0_6] 26] → qx.j26 kq27 x0_ y25 = some r → K5 a w' := by
  intro kq27 hkq G y25 a u30 hE hA hS H
  cases kq27 with
  | zero => cases (show none = some r from H)
  | succ k28 =>
   rw [qx.j26_s] at H
   obtain ⟨J, hE⟩ := hE.at hA
   refine hK5 _ _ ?_
   rcases sp H with ⟨c31, H⟩ | ⟨c31, H⟩
   ·
    replace hE := hE.bt 34 c31
    refine ct hE (sq fun K32 hK32 => pl0 (plc hE (.r 0 1 .nil) (fun a hE => pld (hK32 _ _ (wp_ret (qCB ?_))))))
    replace hS := hS.tail
    obtain rfl := si H
    exact rt1 hE ⟨_, rfl, _, rfl, hS⟩
   ·
    replace hE := hE.bf 34 c31
    refine cf hE (wp_skip (hK4 _ _ (sq fun K33 hK33 => sq fun K34 hK34 => pl0 ?_)))
    have hb2 := hS.blk_at (i := 0) rfl
    refine plc hE (.r 0 1 <| .b 1 5 hb2 <| .r 2 2 <| .nil) (fun a hE => pld (hK34 _ _ (wp_block ?_)))
    refine wp_loop_ghost (fun kq37 a w' => ∃ (G : Nat → Value) (x35 : Int), kq37 ≤ k28 ∧ Env 86 G a ∧ At G [(1, .pointer (some ⟨b2, 0, none⟩)), (36, .slice A0_5 x0_.f5.length c0_5), (37, .int .i64 (x0_.f5.length : Int)), (38, .int .i64 x35)] ∧ St W (mine W []) F w' F [box b2 #[.int .i64 x0_.f0, .int .i64 x0_.f1, .int .i64 x0_.f2, .int .i64 x0_.f3, .slice A0_4 x0_.f4.length c0_4, .slice A0_5 x0_.f5.length c0_5, .slice A0_6 x0_.f6.length c0_6] 26] ∧  qx.l36 kq37 x0_ x35 = some r) k28 ⟨_, 0, Nat.le_refl _, hE, .of, hS, H⟩ ?_
    rintro kq37 a u39 ⟨G, x35, hkq, hE, hA, hS, H⟩
    cases kq37 with
    | zero => cases (show none = some r from H)
    | succ k38 =>
     rw [qx.l36_s] at H
     obtain ⟨J, hE⟩ := hE.at hA
     refine sq fun K40 hK40 => pl0 (plc hE (.r 0 1 .nil) (fun a hE => pld (hK40 _ _ (sq fun K41 hK41 => ?_))))
     rcases sp H with ⟨c42, H⟩ | ⟨c42, H⟩
     ·
      replace hE := hE.kt 39 c42
      refine ct hE (wp_skip (hK41 _ _ (sq fun K43 hK43 => wp_block (sq fun K44 hK44 => pl0 ?_))))
      obtain ⟨c45, H⟩ := gd H
      have hE_ := hE
      obtain ⟨ad46, rfl⟩ := g0_5.addr c45.1 c45.2
      replace hE := hE_
      obtain ⟨cs48, ⟨A50, c51, rfl, g52⟩, hc49⟩ := g0_5.el qK.z x35 c45.1 c45.2
      refine plc hE (.r 0 1 <| .x 1 c45 <| .cs 2 (hS.fcs hc49) <| .nil) (fun a hE => ple hE (.al (t := 97) hS [.int .i64 0, .slice none 0 0]) ?_)
      rintro _ u54 a ⟨b53, rfl, hb53, hS, hg⟩ hE
      refine plc hE (.r 4 1 .nil) (fun a hE => ple hE (.sto hS [.int .i64 ((nth qK.z x0_.f5 x35).f0), .slice A50 (((nth qK.z x0_.f5 x35).f1).length) c51]) ?_)
      rintro _ u55 a ⟨rfl, hb53, hS, hz⟩ hE
      refine pld (hK44 _ _ (sq fun K56 hK56 => ?_))
      have J88 : ∀ kq86, kq86 ≤ k38 → ∀ (G : Nat → Value) (y84 : Bool) (a : Act) (w' : World), Env 86 G a → At G [(1, .pointer (some ⟨b2, 0, none⟩)), (36, .slice (some ad46) x0_.f5.length c0_5), (37, .int .i64 (x0_.f5.length : Int)), (38, .int .i64 x35), (82, .bool y84)] → St W (mine W []) F w' F [box b53 #[.int .i64 ((nth qK.z x0_.f5 x35).f0), .slice A50 (((nth qK.z x0_.f5 x35).f1).length) c51] 97, box b2 #[.int .i64 x0_.f0, .int .i64 x0_.f1, .int .i64 x0_.f2, .int .i64 x0_.f3, .slice A0_4 x0_.f4.length c0_4, .slice (some ad46) x0_.f5.length c0_5, .slice A0_6 x0_.f6.length c0_6] 26] → qx.j85 kq86 x0_ x35 y84 = some r → K56 a w' := by
       intro kq86 hkq G y84 a u89 hE hA hS H
       cases kq86 with
       | zero => cases (show none = some r from H)
       | succ k87 =>
        rw [qx.j85_s] at H
        obtain ⟨J, hE⟩ := hE.at hA
        refine hK56 _ _ ?_
        rcases sp H with ⟨c90, H⟩ | ⟨c90, H⟩
        ·
         replace hE := hE.bt 82 c90
         refine ct hE (sq fun K91 hK91 => pl0 (plc hE (.r 0 1 .nil) (fun a hE => pld (hK91 _ _ (wp_ret (qCC (qCB (qCB (qCC (qCB ?_))))))))))
         replace hS := hS.tail
         replace hS := hS.tail
         obtain rfl := si H
         exact rt1 hE ⟨_, rfl, _, rfl, hS⟩
        ·
         replace hE := hE.bf 82 c90
         refine cf hE (wp_skip ?_)
         refine qCD ?_
         refine hK43 _ _ (pl0 (plc hE (.r 0 2 .nil) (fun a hE => pld ?_)))
         replace hS := hS.tail
         exact qCE ⟨k87, by omega, _, (w64 (x35 + 1)), by omega, hE, .of, hS, H⟩
      refine drawn 40 ⟨[], [], fun q => False⟩ mixed rfl (by kernel_rfl) (fun hst => ?_)
      replace hS := hS.drew
      have hb53 := hS.blk_at (i := 0) rfl
      have hb2 := hS.blk_at (i := 1) rfl
      refine mny 35 hst hE (.r 0 1 <| .b 1 0 hb53 <| .r 2 1 <| .b 3 3 hb2 <| .r 4 1 <| .nil) (fun a hE => ?_)
      obtain ⟨t58, h59, H⟩ := bd H
      refine on1 5 hE (.cl en70 (qAp.calls ((nth qK.z x0_.f5 x35).f0) 0 (w64 (x0_.f3 - 1)) _ _ _ hS.own.sub h59)) ?_
      rintro _ u57 a ⟨_, rfl, hC⟩ hE
      refine ⟨.of hC.agr, ?_⟩
      replace hS := hS.lent hC
      refine mny 32 hst hE (.r 6 2 .nil) (fun a hE => ?_)
      rcases sp H with ⟨c60, H⟩ | ⟨c60, H⟩
      ·
       replace hE := hE.btn 50 c60
       refine mny 29 hst hE (.r 8 3 .nil) (fun a hE => ?_)
       rcases sp H with ⟨c61, H⟩ | ⟨c61, H⟩
       ·
        replace hE := hE.kt 53 c61
        have hb53 := hS.blk_at (i := 0) rfl
        have hb2 := hS.blk_at (i := 1) rfl
        obtain ⟨c62, H⟩ := gd H
        obtain ⟨cs64, ⟨A66, c67, rfl, g68⟩, hc65⟩ := g0_5.el qK.z (w64 (x35 - 1)) c62.1 c62.2
        refine mny 16 hst hE (.r 11 1 <| .b 12 0 hb53 <| .r 13 1 <| .b 14 5 hb2 <| .r 15 2 <| .x 17 c62 <| .r 18 1 <| .c 19 (hS.fc hc65 0) <| .r 20 4 <| .nil) (fun a hE => ?_)
        rcases sp H with ⟨c69, H⟩ | ⟨c69, H⟩
        ·
         replace hE := hE.kt 66 c69
         refine mny 0 hst hE (.r 24 16 .nil) (fun a hE => ?_)
         refine dn ?_
         exact J88 _ (by omega) _ true _ _ hE .of hS H
        ·
         replace hE := hE.kf 66 c69
         refine mny 11 hst hE (.r 24 1 <| .b 25 1 hb53 <| .r 26 2 <| .b 28 1 hb2 <| .nil) (fun a hE => ?_)
         obtain ⟨t71, h72, H⟩ := bd H
         refine on1 29 hE (.cl en70 (qAp.calls (((nth qK.z x0_.f5 x35).f1).length : Int) 1 x0_.f1 _ _ _ hS.own.sub h72)) ?_
         rintro _ u70 a ⟨_, rfl, hC⟩ hE
         refine ⟨.of hC.agr, ?_⟩
         replace hS := hS.lent hC
         refine mny 7 hst hE (.r 30 3 .nil) (fun a hE => ?_)
         rcases sp H with ⟨c73, H⟩ | ⟨c73, H⟩
         ·
          replace hE := hE.btn 75 c73
          have hb2 := hS.blk_at (i := 1) rfl
          have hb53 := hS.blk_at (i := 0) rfl
          refine mny 3 hst hE (.r 33 1 <| .b 34 4 hb2 <| .r 35 1 <| .b 36 1 hb53 <| .nil) (fun a hE => ?_)
          obtain ⟨t75, h76, H⟩ := bd H
          refine on1 37 hE (.cl en81 (qAR.calls k38 x0_.f4 ((nth qK.z x0_.f5 x35).f1) _ _ _ _ _ _ _ hS.own.sub g0_4 g52 h76)) ?_
          rintro _ u74 a ⟨_, rfl, hC⟩ hE
          refine ⟨.of hC.agr, ?_⟩
          replace hS := hS.lent hC
          refine mny 0 hst hE (.r 38 2 .nil) (fun a hE => ?_)
          refine dn ?_
          exact J88 _ (by omega) _ (!t75) _ _ hE .of hS H
         ·
          replace hE := hE.bfn 75 c73
          refine mny 0 hst hE (.r 33 7 .nil) (fun a hE => ?_)
          refine dn ?_
          exact J88 _ (by omega) _ true _ _ hE .of hS H
       ·
        replace hE := hE.kf 53 c61
        have hb53 := hS.blk_at (i := 0) rfl
        have hb2 := hS.blk_at (i := 1) rfl
        refine mny 11 hst hE (.r 11 14 <| .b 25 1 hb53 <| .r 26 2 <| .b 28 1 hb2 <| .nil) (fun a hE => ?_)
        obtain ⟨t78, h79, H⟩ := bd H
        refine on1 29 hE (.cl en70 (qAp.calls (((nth qK.z x0_.f5 x35).f1).length : Int) 1 x0_.f1 _ _ _ hS.own.sub h79)) ?_
        rintro _ u77 a ⟨_, rfl, hC⟩ hE
        refine ⟨.of hC.agr, ?_⟩
        replace hS := hS.lent hC
        refine mny 7 hst hE (.r 30 3 .nil) (fun a hE => ?_)
        rcases sp H with ⟨c80, H⟩ | ⟨c80, H⟩
        ·
         replace hE := hE.btn 75 c80
         have hb2 := hS.blk_at (i := 1) rfl
         have hb53 := hS.blk_at (i := 0) rfl
         refine mny 3 hst hE (.r 33 1 <| .b 34 4 hb2 <| .r 35 1 <| .b 36 1 hb53 <| .nil) (fun a hE => ?_)
         obtain ⟨t82, h83, H⟩ := bd H
         refine on1 37 hE (.cl en81 (qAR.calls k38 x0_.f4 ((nth qK.z x0_.f5 x35).f1) _ _ _ _ _ _ _ hS.own.sub g0_4 g52 h83)) ?_
         rintro _ u81 a ⟨_, rfl, hC⟩ hE
         refine ⟨.of hC.agr, ?_⟩
         replace hS := hS.lent hC
         refine mny 0 hst hE (.r 38 2 .nil) (fun a hE => ?_)
         refine dn ?_
         exact J88 _ (by omega) _ (!t82) _ _ hE .of hS H
        ·
         replace hE := hE.bfn 75 c80
         refine mny 0 hst hE (.r 33 7 .nil) (fun a hE => ?_)
         refine dn ?_
         exact J88 _ (by omega) _ true _ _ hE .of hS H
      ·
       replace hE := hE.bfn 50 c60
       refine mny 0 hst hE (.r 8 32 .nil) (fun a hE => ?_)
       refine dn ?_
       exact J88 _ (by omega) _ true _ _ hE .of hS H
     ·
      replace hE := hE.kf 39 c42
      refine cf hE ?_
      refine wp_exit ?_
      refine hK33 _ _ (sq fun K92 hK92 => pl0 ?_)
      have hb2 := hS.blk_at (i := 0) rfl
      refine plc hE (.bn 0 0 7 hb2 .nil) (fun a hE => ?_)
      obtain ⟨t94, h95, H⟩ := bd H
      refine ple hE (.cl en82 (qAb.calls k38 x0_ _ _ _ _ _ _ _ _ _ hS.own.sub g0_4 g0_5 g0_6 h95)) ?_
      rintro _ u93 a ⟨_, rfl, hC⟩ hE
      replace hS := hS.lent hC
      refine plc hE (.r 2 1 .nil) (fun a hE => pld (hK92 _ _ (wp_ret ?_)))
      replace hS := hS.tail
      obtain rfl := si H
      exact rt1 hE ⟨_, rfl, _, rfl, hS⟩
 refine pl0 (plc hE (.r 0 1 <| .b 1 0 hb2 <| .nil) (fun a hE => ?_))
 obtain ⟨t7, h8, H⟩ := bd H
 refine ple hE (.cl en70 (qAp.calls x0_.f0 0 2147483647 _ _ _ hS.own.sub h8)) ?_
 rintro _ u6 a ⟨_, rfl, hC⟩ hE
 replace hS := hS.lent hC
 refine plc hE (.r 3 2 .nil) (fun a hE => ?_)
 rcases sp H with ⟨c9, H⟩ | ⟨c9, H⟩
 ·
  replace hE := hE.btn 9 c9
  have hb2 := hS.blk_at (i := 0) rfl
  refine plc hE (.r 5 1 <| .b 6 1 hb2 <| .nil) (fun a hE => ?_)
  obtain ⟨t11, h12, H⟩ := bd H
  refine ple hE (.cl en70 (qAp.calls x0_.f1 1 3 _ _ _ hS.own.sub h12)) ?_
  rintro _ u10 a ⟨_, rfl, hC⟩ hE
  replace hS := hS.lent hC
  refine plc hE (.r 8 3 .nil) (fun a hE => ?_)
  rcases sp H with ⟨c13, H⟩ | ⟨c13, H⟩
  ·
   replace hE := hE.btn 15 c13
   have hb2 := hS.blk_at (i := 0) rfl
   refine plc hE (.r 11 1 <| .b 12 2 hb2 <| .r 13 1 <| .b 14 1 hb2 <| .nil) (fun a hE => ?_)
   obtain ⟨t15, h16, H⟩ := bd H
   refine ple hE (.cl en70 (qAp.calls x0_.f2 1 x0_.f1 _ _ _ hS.own.sub h16)) ?_
   rintro _ u14 a ⟨_, rfl, hC⟩ hE
   replace hS := hS.lent hC
   refine plc hE (.r 16 3 .nil) (fun a hE => ?_)
   rcases sp H with ⟨c17, H⟩ | ⟨c17, H⟩
   ·
    replace hE := hE.btn 23 c17
    have hb2 := hS.blk_at (i := 0) rfl
    refine plc hE (.r 19 1 <| .b 20 3 hb2 <| .nil) (fun a hE => ?_)
    obtain ⟨t19, h20, H⟩ := bd H
    refine ple hE (.cl en70 (qAp.calls x0_.f3 1 8 _ _ _ hS.own.sub h20)) ?_
    rintro _ u18 a ⟨_, rfl, hC⟩ hE
    replace hS := hS.lent hC
    refine plc hE (.r 22 3 .nil) (fun a hE => ?_)
    rcases sp H with ⟨c21, H⟩ | ⟨c21, H⟩
    ·
     replace hE := hE.btn 29 c21
     have hb2 := hS.blk_at (i := 0) rfl
     refine plc hE (.r 25 1 <| .b 26 4 hb2 <| .nil) (fun a hE => ?_)
     obtain ⟨t23, h24, H⟩ := bd H
     refine ple hE (.cl en80 (qAG.calls k x0_.f4 _ _ _ _ _ hS.own.sub g0_4 h24)) ?_
     rintro _ u22 a ⟨_, rfl, hC⟩ hE
     replace hS := hS.lent hC
     refine plc hE (.r 28 2 .nil) (fun a hE => pld ?_)
     exact J29 _ (by omega) _ (!(t23 == 0)) _ _ hE .of hS H
    ·
     replace hE := hE.bfn 29 c21
     refine plc hE (.r 25 5 .nil) (fun a hE => pld ?_)
     exact J29 _ (by omega) _ true _ _ hE .of hS H
   ·
    replace hE := hE.bfn 23 c17
    refine plc hE (.r 19 11 .nil) (fun a hE => pld ?_)
    exact J29 _ (by omega) _ true _ _ hE .of hS H
  ·
   replace hE := hE.bfn 15 c13
   refine plc hE (.r 11 19 .nil) (fun a hE => pld ?_)
   exact J29 _ (by omega) _ true _ _ hE .of hS H
 ·
  replace hE := hE.bfn 9 c9
  refine plc hE (.r 5 25 .nil) (fun a hE => pld ?_)
  exact J29 _ (by omega) _ true _ _ hE .of hS H
def qBw.f (k : Nat) (x0_ : Int) (x1_ : Int) (x2_ : Int) : Option (qJ × Int) := if 0 ≤ (if (if 8 < x2_ then 8 else x2_) > 0 then (if 8 < x2_ then 8 else x2_) else 0) ∧ (if (if 8 < x2_ then 8 else x2_) > 0 then (if 8 < x2_ then 8 else x2_) else 0) * 32 ≤ 140737488355328 then ((qx.f k (⟨0, x0_, x1_, x2_, [], [], (List.replicate ((if (if 8 < x2_ then 8 else x2_) > 0 then (if 8 < x2_ then 8 else x2_) else 0)).toNat (qC.z : qC))⟩ : qJ)).bind fun t16 => (if t16 = 0 then (some ((⟨0, x0_, x1_, x2_, [], [], (List.replicate ((if (if 8 < x2_ then 8 else x2_) > 0 then (if 8 < x2_ then 8 else x2_) else 0)).toNat (qC.z : qC))⟩ : qJ), 0)) else (some ((⟨0, 0, 0, 0, [], [], []⟩ : qJ), t16)))) else (none)
def qBw.Post (W F : World) (r : qJ × Int) (v : Value) (w' : World) : Prop := ∃ (F' : World) (RA0_4 : Option Addr) (rc0_4 : Nat) (RA0_5 : Option Addr) (rc0_5 : Nat) (RA0_6 : Option Addr) (rc0_6 : Nat), v = .tuple #[.agg #[.int .i64 r.1.f0, .int .i64 r.1.f1, .int .i64 r.1.f2, .int .i64 r.1.f3, .slice RA0_4 r.1.f4.length rc0_4, .slice RA0_5 r.1.f5.length rc0_5, .slice RA0_6 r.1.f6.length rc0_6], .int .i64 r.2] ∧ St W (mine W []) F w' F' [row qC.k 49 (.slice RA0_6 r.1.f6.length rc0_6) r.1.f6] ∧ Rd qA.k F' RA0_4 rc0_4 r.1.f4 ∧ Rd qK.k F' RA0_5 rc0_5 r.1.f5
theorem qBw.calls (k : Nat) (x0_ : Int) (x1_ : Int) (x2_ : Int) (r : qJ × Int) (W F : World) (hown : Sub F W) (H : qBw.f k x0_ x1_ x2_ = some r) :
    Calls Tryz.prog 15 #[.int .i64 x0_, .int .i64 x1_, .int .i64 x2_] W fun e w' => ∃ v, e = .returned v ∧ qBw.Post W F r v w' := by
 have hS := St.start (Own.nil hown)
 unfold qBw.f at H
 refine enter (n := 25) rfl rfl rfl (Nat.le_of_ble_eq_true rfl) (fun a hE => ?_)
 refine sq fun K1 hK1 => pl0 (ple hE (.al (t := 26) hS [.int .i64 0, .int .i64 0, .int .i64 0, .int .i64 0, .slice none 0 0, .slice none 0 0, .slice none 0 0]) ?_)
 rintro _ u3 a ⟨b2, rfl, hb2, hS, hg⟩ hE
 refine plc hE (.r 1 1 .nil) (fun a hE => pld (hK1 _ _ (sq fun K4 hK4 => pl0 (plc hE (.r 0 6 .nil) (fun a hE => ?_)))))
 obtain ⟨c5, H⟩ := gd H
 refine ple hE (.mk (d := qC.k) (e := 49) 32 qC.z hS c5 (by rw [zr49]; exact ⟨none, 0, rfl, Rd.nil _ _⟩)) ?_
 rintro _ u8 a ⟨A6, c7, rfl, hS, hg⟩ hE
 refine plc hE (.r 7 1 .nil) (fun a hE => ple hE (.al (t := 26) hS [.int .i64 0, .int .i64 0, .int .i64 0, .int .i64 0, .slice none 0 0, .slice none 0 0, .slice none 0 0]) ?_)
 rintro _ u11 a ⟨b10, rfl, hb10, hS, hg⟩ hE
 refine ple hE (.sto hS [.int .i64 0, .int .i64 x0_, .int .i64 x1_, .int .i64 x2_, .slice none 0 0, .slice none 0 0, .slice A6 ((List.replicate ((if (if 8 < x2_ then 8 else x2_) > 0 then (if 8 < x2_ then 8 else x2_) else 0)).toNat (qC.z : qC)).length) c7]) ?_
 rintro _ u12 a ⟨rfl, hb10, hS, hz⟩ hE
 refine pld (hK4 _ _ (sq fun K13 hK13 => sq fun K14 hK14 => pl0 (plc hE (.bn 0 0 7 hb10 .nil) (fun a hE => ?_))))
 obtain ⟨t16, h17, H⟩ := bd H
 refine ple hE (.cl en32 (qx.calls k (⟨0, x0_, x1_, x2_, [], [], (List.replicate ((if (if 8 < x2_ then 8 else x2_) > 0 then (if 8 < x2_ then 8 else x2_) else 0)).toNat (qC.z : qC))⟩ : qJ) _ _ _ _ _ _ _ _ _ (Sub.refl _) (Rd.nil _ _) (Rd.nil _ _) (hS.rd_at (i := 1) rfl) h17)) ?_
 rintro _ u15 a ⟨_, rfl, hC⟩ hE
 replace hS := hS.lent hC
 refine plc hE (.r 2 1 .nil) (fun a hE => pld (hK14 _ _ (sq fun K18 hK18 => pl0 (plc hE (.r 0 2 .nil) (fun a hE => pld (hK18 _ _ ?_))))))
 rcases sp H with ⟨c19, H⟩ | ⟨c19, H⟩
 ·
  replace hE := hE.ktn 21 c19
  refine cf hE (wp_skip (hK13 _ _ (sq fun K23 hK23 => pl0 ?_)))
  have hb10 := hS.blk_at (i := 0) rfl
  refine plc hE (.bn 0 0 7 hb10 .nil) (fun a hE => ?_)
  replace hS := hS.front 2 rfl
  refine ple hE (.sto hS [.int .i64 0, .int .i64 x0_, .int .i64 x1_, .int .i64 x2_, .slice none 0 0, .slice none 0 0, .slice A6 ((List.replicate ((if (if 8 < x2_ then 8 else x2_) > 0 then (if 8 < x2_ then 8 else x2_) else 0)).toNat (qC.z : qC)).length) c7]) ?_
  rintro _ u24 a ⟨rfl, hb2, hS, hz⟩ hE
  refine plc hE (.r 2 1 .nil) (fun a hE => pld (hK23 _ _ (wp_ret ?_)))
  replace hS := hS.tail
  replace hS := hS.tail
  obtain rfl := si H
  exact retN hE rfl (of_decide_eq_true rfl) (.cell (by kernel_rfl) (qCH [.int .i64 0, .int .i64 x0_, .int .i64 x1_, .int .i64 x2_, .slice none 0 0, .slice none 0 0, .slice A6 ((List.replicate ((if (if 8 < x2_ then 8 else x2_) > 0 then (if 8 < x2_ then 8 else x2_) else 0)).toNat (qC.z : qC)).length) c7] ag26 sz26 hb2 rfl) (.tmp (by kernel_rfl) .nil)) ⟨_, rfl, _, _, _, _, _, _, _, rfl, hS, (Rd.nil _ _), (Rd.nil _ _)⟩
 ·
  replace hE := hE.kfn 21 c19
  refine ct hE (sq fun K20 hK20 => pl0 (plc hE (.r 0 2 .nil) (fun a hE => ?_)))
  replace hS := hS.front 2 rfl
  refine ple hE (.sto hS [.int .i64 0, .int .i64 0, .int .i64 0, .int .i64 0, .slice none 0 0, .slice none 0 0, .slice none 0 0]) ?_
  rintro _ u21 a ⟨rfl, hb2, hS, hz⟩ hE
  refine plc hE (.r 3 1 .nil) (fun a hE => pld (hK20 _ _ (wp_ret (qCB ?_))))
  replace hS := hS.nilrow qC.k 49
  replace hS := hS.front 1 rfl
  replace hS := hS.tail
  replace hS := hS.front 1 rfl
  replace hS := hS.tail
  replace hS := hS.front 1 rfl
  replace hS := hS.tail
  obtain rfl := si H
  exact retN hE rfl (of_decide_eq_true rfl) (.cell (by kernel_rfl) (qCH [.int .i64 0, .int .i64 0, .int .i64 0, .int .i64 0, .slice none 0 0, .slice none 0 0, .slice none 0 0] ag26 sz26 hb2 rfl) (.tmp (by kernel_rfl) .nil)) ⟨_, rfl, _, _, _, _, _, _, _, rfl, hS, (Rd.nil _ _), (Rd.nil _ _)⟩
end Go.Proofs.YtpohepinmjmbkaaGreat.QS
