import Derived.Test.YtpohepinmjmbkaaGreatQS9
namespace Go.Proofs.YtpohepinmjmbkaaGreat.QS
open Go Go.RowKit Go.Proofs.YtpohepinmjmbkaaGreat.Sl
set_option linter.unusedVariables false
set_option linter.unusedSimpArgs false
set_option maxHeartbeats 4000000
set_option maxRecDepth 100000
def qAu.j33 : Nat → qJ → Int → List Int → Bool → Option Bool
  | 0, _, _, _, _ => none
  | k + 1, x0_, x1_, x2_, y32 => if y32 = true then (some false) else (if 0 ≤ x1_ ∧ x1_ < (x0_.f6.length : Int) then ((qq.f k ((nth qC.z x0_.f6 x1_).f1) x2_).bind fun t50 => (some (!t50))) else (none))
theorem qAu.j33_s (k : Nat) (x0_ : qJ) (x1_ : Int) (x2_ : List Int) (y32 : Bool) : qAu.j33 (k + 1) x0_ x1_ x2_ y32 = (if y32 = true then (some false) else (if 0 ≤ x1_ ∧ x1_ < (x0_.f6.length : Int) then ((qq.f k ((nth qC.z x0_.f6 x1_).f1) x2_).bind fun t50 => (some (!t50))) else (none))) := by kernel_rfl
def qAu.f (k : Nat) (x0_ : qJ) (x1_ : Int) (x2_ : List Int) : Option Bool := (qBI.f k x0_ x1_ []).bind fun t9 => (if t9 = true then ((qBa.f k x0_ x1_).bind fun t19 => (if (t19.length : Int) ≥ x0_.f2 then ((qv.f k t19 x2_).bind fun t30 => (qAu.j33 k x0_ x1_ x2_ (!t30))) else (qAu.j33 k x0_ x1_ x2_ false))) else (some false))
def qAu.Post (W F : World) (r : Bool) (v : Value) (w' : World) : Prop := ∃ (F' : World), v = .bool r ∧ St W (mine W []) F w' F' []
theorem qAu.calls (k : Nat) (x0_ : qJ) (x1_ : Int) (x2_ : List Int) (A0_4 : Option Addr) (c0_4 : Nat) (A0_5 : Option Addr) (c0_5 : Nat) (A0_6 : Option Addr) (c0_6 : Nat) (A2_0 : Option Addr) (c2_0 : Nat) (r : Bool) (W F : World) (hown : Sub F W) (g0_4 : Rd qA.k F A0_4 c0_4 x0_.f4) (g0_5 : Rd qK.k F A0_5 c0_5 x0_.f5) (g0_6 : Rd qC.k F A0_6 c0_6 x0_.f6) (g2_0 : Rd (Kn.int .i64) F A2_0 c2_0 x2_) (H : qAu.f k x0_ x1_ x2_ = some r) :
    Calls Tryz.prog 64 #[.agg #[.int .i64 x0_.f0, .int .i64 x0_.f1, .int .i64 x0_.f2, .int .i64 x0_.f3, .slice A0_4 x0_.f4.length c0_4, .slice A0_5 x0_.f5.length c0_5, .slice A0_6 x0_.f6.length c0_6], .int .i64 x1_, .slice A2_0 x2_.length c2_0] W fun e w' => ∃ v, e = .returned v ∧ qAu.Post W F r v w' := by
 have hS := St.start (Own.nil hown)
 unfold qAu.f at H
 refine enter (n := 37) rfl rfl rfl (Nat.le_of_ble_eq_true rfl) (fun a hE => ?_)
 refine sq fun K1 hK1 => pl0 (ple hE (.bx (t := 26) hS [.int .i64 x0_.f0, .int .i64 x0_.f1, .int .i64 x0_.f2, .int .i64 x0_.f3, .slice A0_4 x0_.f4.length c0_4, .slice A0_5 x0_.f5.length c0_5, .slice A0_6 x0_.f6.length c0_6]) ?_)
 rintro _ u3 a ⟨b2, rfl, hb2, hS, hg⟩ hE
 refine ple hE (.bx (t := 36) hS [.slice A2_0 x2_.length c2_0]) ?_
 rintro _ u5 a ⟨b4, rfl, hb4, hS, hg⟩ hE
 refine plc hE (.r 2 1 .nil) (fun a hE => pld (hK1 _ _ (sq fun K6 hK6 => sq fun K7 hK7 => pl0 ?_)))
 have hb2 := hS.blk_at (i := 1) rfl
 refine plc hE (.bn 0 0 7 hb2 <| .r 1 1 <| .nil) (fun a hE => ?_)
 obtain ⟨t9, h10, H⟩ := bd H
 refine ple hE (.cl en103 (qBI.calls k x0_ x1_ [] _ _ _ _ _ _ _ _ _ _ _ hS.own.sub g0_4 g0_5 g0_6 (Rd.nil _ _) h10)) ?_
 rintro _ u8 a ⟨_, rfl, hC⟩ hE
 replace hS := hS.lent hC
 refine plc hE (.r 3 1 .nil) (fun a hE => pld (hK7 _ _ ?_))
 rcases sp H with ⟨c11, H⟩ | ⟨c11, H⟩
 ·
  replace hE := hE.btn 12 c11
  refine cf hE (wp_skip (hK6 _ _ (sq fun K13 hK13 => pl0 (plc hE (.r 0 1 .nil) (fun a hE => ple hE (.al (t := 129) hS [.nilFunc]) ?_)))))
  rintro _ u15 a ⟨b14, rfl, hb14, hS, hg⟩ hE
  refine ple hE (.sto hS [.func (.func 117) #[] #[.pointer (some ⟨b4, 0, none⟩)]]) ?_
  rintro _ u16 a ⟨rfl, hb14, hS, hz⟩ hE
  refine pld (hK13 _ _ (sq fun K17 hK17 => pl0 ?_))
  have hb2 := hS.blk_at (i := 2) rfl
  refine plc hE (.bn 0 0 7 hb2 <| .r 1 1 <| .nil) (fun a hE => ?_)
  obtain ⟨t19, h20, H⟩ := bd H
  refine ple hE (.cl en24 (qBa.calls k x0_ x1_ _ _ _ _ _ _ _ _ _ hS.own.sub g0_4 g0_5 g0_6 h20)) ?_
  rintro _ u18 a ⟨F21, A22, c23, rfl, hC⟩ hE
  have hs := hC.sub
  replace hS := hS.called (X := []) hC
  replace g0_4 := g0_4.mono hs
  replace g0_5 := g0_5.mono hs
  replace g0_6 := g0_6.mono hs
  replace g2_0 := g2_0.mono hs
  refine plc hE (.r 3 1 .nil) (fun a hE => pld (hK17 _ _ (sq fun K26 hK26 => sq fun K27 hK27 => ?_)))
  have J36 : ∀ kq34, kq34 ≤ k → ∀ (G : Nat → Value) (y32 : Bool) (a : Act) (w' : World), Env 37 G a → At G [(1, .int .i64 x1_), (3, .pointer (some ⟨b2, 0, none⟩)), (7, .pointer (some ⟨b14, 0, none⟩)), (27, .bool y32)] → St W (mine W []) F w' F21 [box b14 #[.func (.func 117) #[] #[.pointer (some ⟨b4, 0, none⟩)]] 129, box b4 #[.slice A2_0 x2_.length c2_0] 36, box b2 #[.int .i64 x0_.f0, .int .i64 x0_.f1, .int .i64 x0_.f2, .int .i64 x0_.f3, .slice A0_4 x0_.f4.length c0_4, .slice A0_5 x0_.f5.length c0_5, .slice A0_6 x0_.f6.length c0_6] 26] → qAu.j33 kq34 x0_ x1_ x2_ y32 = some r → K27 a w' := by
   intro kq34 hkq G y32 a u37 hE hA hS H
   cases kq34 with
   | zero => cases (show none = some r from H)
   | succ k35 =>
    rw [qAu.j33_s] at H
    obtain ⟨J, hE⟩ := hE.at hA
    refine hK27 _ _ ?_
    rcases sp H with ⟨c38, H⟩ | ⟨c38, H⟩
    ·
     replace hE := hE.bt 27 c38
     refine ct hE (sq fun K39 hK39 => pl0 (plc hE (.r 0 1 .nil) (fun a hE => pld (hK39 _ _ (wp_ret (qCB ?_))))))
     replace hS := hS.tail
     replace hS := hS.tail
     replace hS := hS.tail
     obtain rfl := si H
     exact rt1 hE ⟨_, rfl, _, rfl, hS⟩
    ·
     replace hE := hE.bf 27 c38
     refine cf hE (wp_skip (hK26 _ _ (sq fun K40 hK40 => pl0 ?_)))
     have hb2 := hS.blk_at (i := 2) rfl
     obtain ⟨c41, H⟩ := gd H
     have hE_ := hE
     obtain ⟨ad42, rfl⟩ := g0_6.addr c41.1 c41.2
     replace hE := hE_
     obtain ⟨cs44, ⟨A46, c47, rfl, g48⟩, hc45⟩ := g0_6.el qC.z x1_ c41.1 c41.2
     refine plc hE (.r 0 1 <| .b 1 6 hb2 <| .r 2 1 <| .x 3 c41 <| .r 4 1 <| .c 5 (hS.fc hc45 1) <| .r 6 1 <| .nil) (fun a hE => ?_)
     obtain ⟨t50, h51, H⟩ := bd H
     refine ple hE (.cl en119 (qq.calls k35 ((nth qC.z x0_.f6 x1_).f1) x2_ _ _ _ _ _ _ _ _ _ (Sub.refl _) (g48.mono hS.own.sub) (g2_0.mono hS.own.sub) (hS.blk_at (i := 1) rfl) (hS.blk_at (i := 0) rfl) h51)) ?_
     rintro _ u49 a ⟨_, rfl, hC⟩ hE
     replace hS := hS.lent hC
     refine plc hE (.r 8 2 .nil) (fun a hE => pld (hK40 _ _ (wp_ret ?_)))
     replace hS := hS.tail
     replace hS := hS.tail
     replace hS := hS.tail
     obtain rfl := si H
     exact rt1 hE ⟨_, rfl, _, rfl, hS⟩
  refine pl0 ?_
  have hb2 := hS.blk_at (i := 3) rfl
  refine plc hE (.r 0 3 <| .b 3 2 hb2 <| .r 4 2 <| .nil) (fun a hE => ?_)
  rcases sp H with ⟨c28, H⟩ | ⟨c28, H⟩
  ·
   replace hE := hE.kt 22 c28
   have hb14 := hS.blk_at (i := 1) rfl
   refine plc hE (.r 6 1 <| .b 7 0 hb14 <| .nil) (fun a hE => ?_)
   obtain ⟨t30, h31, H⟩ := bd H
   refine ple hE (.cl en107 (qv.calls k t19 x2_ _ _ _ _ _ _ _ _ (Sub.refl _) (hS.rd_at (i := 0) rfl) (g2_0.mono hS.own.sub) (hS.blk_at (i := 2) rfl) h31)) ?_
   rintro _ u29 a ⟨_, rfl, hC⟩ hE
   replace hS := hS.lent hC
   refine plc hE (.r 9 2 .nil) (fun a hE => pld ?_)
   replace hS := hS.tail
   exact J36 _ (by omega) _ (!t30) _ _ hE .of hS H
  ·
   replace hE := hE.kf 22 c28
   refine plc hE (.r 6 5 .nil) (fun a hE => pld ?_)
   replace hS := hS.tail
   exact J36 _ (by omega) _ false _ _ hE .of hS H
 ·
  replace hE := hE.bfn 12 c11
  refine ct hE (sq fun K12 hK12 => pl0 (plc hE (.r 0 1 .nil) (fun a hE => pld (hK12 _ _ (wp_ret (qCB ?_))))))
  replace hS := hS.tail
  replace hS := hS.tail
  obtain rfl := si H
  exact rt1 hE ⟨_, rfl, _, rfl, hS⟩
mutual
def qn.j11 : Nat → qJ → Int → List Int → Bool → Option Bool
  | 0, _, _, _, _ => none
  | k + 1, x0_, x1_, x2_, y10 => if y10 = true then ((qAd.f k).bind fun t19 => (some t19)) else ((qAq.f k x0_ x1_ []).bind fun t23 => (if t23 = true then ((qS.f k x0_ x1_ x2_).bind fun t27 => (qn.j30 k x0_ x1_ x2_ t27)) else (qn.j30 k x0_ x1_ x2_ false)))
def qn.j30 : Nat → qJ → Int → List Int → Bool → Option Bool
  | 0, _, _, _, _ => none
  | k + 1, x0_, x1_, x2_, y29 => (qAu.f k x0_ x1_ x2_).bind fun t37 => (if t37 = y29 then ((qAd.f k).bind fun t41 => (some t41)) else (some false))
end
theorem qn.j11_s (k : Nat) (x0_ : qJ) (x1_ : Int) (x2_ : List Int) (y10 : Bool) : qn.j11 (k + 1) x0_ x1_ x2_ y10 = (if y10 = true then ((qAd.f k).bind fun t19 => (some t19)) else ((qAq.f k x0_ x1_ []).bind fun t23 => (if t23 = true then ((qS.f k x0_ x1_ x2_).bind fun t27 => (qn.j30 k x0_ x1_ x2_ t27)) else (qn.j30 k x0_ x1_ x2_ false)))) := by kernel_rfl
theorem qn.j30_s (k : Nat) (x0_ : qJ) (x1_ : Int) (x2_ : List Int) (y29 : Bool) : qn.j30 (k + 1) x0_ x1_ x2_ y29 = ((qAu.f k x0_ x1_ x2_).bind fun t37 => (if t37 = y29 then ((qAd.f k).bind fun t41 => (some t41)) else (some false))) := by kernel_rfl
def qn.f (k : Nat) (x0_ : qJ) (x1_ : Int) (x2_ : List Int) : Option Bool := (qT.f k x0_).bind fun t7 => (if t7 = true then (qn.j11 k x0_ x1_ x2_ (decide ((x2_.length : Int) > 30))) else (qn.j11 k x0_ x1_ x2_ true))
def qn.Post (W F : World) (r : Bool) (v : Value) (w' : World) : Prop := ∃ (F' : World), v = .bool r ∧ St W (mine W []) F w' F' []
theorem qn.calls (k : Nat) (x0_ : qJ) (x1_ : Int) (x2_ : List Int) (A0_4 : Option Addr) (c0_4 : Nat) (A0_5 : Option Addr) (c0_5 : Nat) (A0_6 : Option Addr) (c0_6 : Nat) (A2_0 : Option Addr) (c2_0 : Nat) (r : Bool) (W F : World) (hown : Sub F W) (g0_4 : Rd qA.k F A0_4 c0_4 x0_.f4) (g0_5 : Rd qK.k F A0_5 c0_5 x0_.f5) (g0_6 : Rd qC.k F A0_6 c0_6 x0_.f6) (g2_0 : Rd (Kn.int .i64) F A2_0 c2_0 x2_) (H : qn.f k x0_ x1_ x2_ = some r) :
    Calls Tryz.prog 14 #[.agg #[.int .i64 x0_.f0, .int .i64 x0_.f1, .int .i64 x0_.f2, .int .i64 x0_.f3, .slice A0_4 x0_.f4.length c0_4, .slice A0_5 x0_.f5.length c0_5, .slice A0_6 x0_.f6.length c0_6], .int .i64 x1_, .slice A2_0 x2_.length c2_0] W fun e w' => ∃ v, e = .returned v ∧ qn.Post W F r v w' := by
 have hS := St.start (Own.nil hown)
 unfold qn.f at H
 refine enter (n := 35) rfl rfl rfl (Nat.le_of_ble_eq_true rfl) (fun a hE => ?_)
 refine sq fun K1 hK1 => pl0 (ple hE (.bx (t := 26) hS [.int .i64 x0_.f0, .int .i64 x0_.f1, .int .i64 x0_.f2, .int .i64 x0_.f3, .slice A0_4 x0_.f4.length c0_4, .slice A0_5 x0_.f5.length c0_5, .slice A0_6 x0_.f6.length c0_6]) ?_)
 rintro _ u3 a ⟨b2, rfl, hb2, hS, hg⟩ hE
 refine plc hE (.r 1 1 .nil) (fun a hE => pld (hK1 _ _ (sq fun K4 hK4 => sq fun K5 hK5 => ?_)))
 have J14 : ∀ kq12, kq12 ≤ k → ∀ (G : Nat → Value) (y10 : Bool) (a : Act) (w' : World), Env 35 G a → At G [(1, .int .i64 x1_), (2, .slice A2_0 x2_.length c2_0), (3, .pointer (some ⟨b2, 0, none⟩)), (15, .bool y10)] → St W (mine W []) F w' F [box b2 #[.int .i64 x0_.f0, .int .i64 x0_.f1, .int .i64 x0_.f2, .int .i64 x0_.f3, .slice A0_4 x0_.f4.length c0_4, .slice A0_5 x0_.f5.length c0_5, .slice A0_6 x0_.f6.length c0_6] 26] → qn.j11 kq12 x0_ x1_ x2_ y10 = some r → K5 a w' := by
  intro kq12 hkq G y10 a u15 hE hA hS H
  cases kq12 with
  | zero => cases (show none = some r from H)
  | succ k13 =>
   rw [qn.j11_s] at H
   obtain ⟨J, hE⟩ := hE.at hA
   refine hK5 _ _ ?_
   rcases sp H with ⟨c16, H⟩ | ⟨c16, H⟩
   ·
    replace hE := hE.bt 15 c16
    refine ct hE (sq fun K17 hK17 => pl0 ?_)
    obtain ⟨t19, h20, H⟩ := bd H
    refine ple hE (.cl en49 (qAd.calls k13 _ _ _ hS.own.sub h20)) ?_
    rintro _ u18 a ⟨_, rfl, hC⟩ hE
    replace hS := hS.lent hC
    refine plc hE (.r 1 1 .nil) (fun a hE => pld (hK17 _ _ (wp_ret (qCB ?_))))
    replace hS := hS.tail
    obtain rfl := si H
    exact rt1 hE ⟨_, rfl, _, rfl, hS⟩
   ·
    replace hE := hE.bf 15 c16
    refine cf hE (wp_skip (hK4 _ _ (sq fun K21 hK21 => ?_)))
    have J33 : ∀ kq31, kq31 ≤ k13 → ∀ (G : Nat → Value) (y29 : Bool) (a : Act) (w' : World), Env 35 G a → At G [(1, .int .i64 x1_), (2, .slice A2_0 x2_.length c2_0), (3, .pointer (some ⟨b2, 0, none⟩)), (7, .bool y29)] → St W (mine W []) F w' F [box b2 #[.int .i64 x0_.f0, .int .i64 x0_.f1, .int .i64 x0_.f2, .int .i64 x0_.f3, .slice A0_4 x0_.f4.length c0_4, .slice A0_5 x0_.f5.length c0_5, .slice A0_6 x0_.f6.length c0_6] 26] → qn.j30 kq31 x0_ x1_ x2_ y29 = some r → K21 a w' := by
     intro kq31 hkq G y29 a u34 hE hA hS H
     cases kq31 with
     | zero => cases (show none = some r from H)
     | succ k32 =>
      rw [qn.j30_s] at H
      obtain ⟨J, hE⟩ := hE.at hA
      refine hK21 _ _ (sq fun K35 hK35 => pl0 ?_)
      have hb2 := hS.blk_at (i := 0) rfl
      refine plc hE (.bn 0 0 7 hb2 <| .r 1 2 <| .nil) (fun a hE => ?_)
      obtain ⟨t37, h38, H⟩ := bd H
      refine ple hE (.cl en64 (qAu.calls k32 x0_ x1_ x2_ _ _ _ _ _ _ _ _ _ _ _ hS.own.sub g0_4 g0_5 g0_6 g2_0 h38)) ?_
      rintro _ u36 a ⟨_, rfl, hC⟩ hE
      replace hS := hS.lent hC
      refine plc hE (.r 4 3 .nil) (fun a hE => ?_)
      rcases sp H with ⟨c39, H⟩ | ⟨c39, H⟩
      ·
       replace hE := hE.kt 32 c39
       obtain ⟨t41, h42, H⟩ := bd H
       refine ple hE (.cl en49 (qAd.calls k32 _ _ _ hS.own.sub h42)) ?_
       rintro _ u40 a ⟨_, rfl, hC⟩ hE
       replace hS := hS.lent hC
       refine plc hE (.r 8 2 .nil) (fun a hE => pld (hK35 _ _ (wp_ret ?_)))
       replace hS := hS.tail
       obtain rfl := si H
       exact rt1 hE ⟨_, rfl, _, rfl, hS⟩
      ·
       replace hE := hE.kf 32 c39
       refine plc hE (.r 7 3 .nil) (fun a hE => pld (hK35 _ _ (wp_ret ?_)))
       replace hS := hS.tail
       obtain rfl := si H
       exact rt1 hE ⟨_, rfl, _, rfl, hS⟩
    refine pl0 ?_
    have hb2 := hS.blk_at (i := 0) rfl
    refine plc hE (.bn 0 0 7 hb2 <| .r 1 1 <| .nil) (fun a hE => ?_)
    obtain ⟨t23, h24, H⟩ := bd H
    refine ple hE (.cl en52 (qAq.calls k13 x0_ x1_ [] _ _ _ _ _ _ _ _ _ _ _ hS.own.sub g0_4 g0_5 g0_6 (Rd.nil _ _) h24)) ?_
    rintro _ u22 a ⟨_, rfl, hC⟩ hE
    replace hS := hS.lent hC
    refine plc hE (.r 3 1 .nil) (fun a hE => ?_)
    rcases sp H with ⟨c25, H⟩ | ⟨c25, H⟩
    ·
     replace hE := hE.bt 20 c25
     have hb2 := hS.blk_at (i := 0) rfl
     refine plc hE (.bn 4 0 7 hb2 <| .r 5 2 <| .nil) (fun a hE => ?_)
     obtain ⟨t27, h28, H⟩ := bd H
     refine ple hE (.cl en63 (qS.calls k13 x0_ x1_ x2_ _ _ _ _ _ _ _ _ _ _ _ hS.own.sub g0_4 g0_5 g0_6 g2_0 h28)) ?_
     rintro _ u26 a ⟨_, rfl, hC⟩ hE
     replace hS := hS.lent hC
     refine plc hE (.r 8 2 .nil) (fun a hE => pld ?_)
     exact J33 _ (by omega) _ t27 _ _ hE .of hS H
    ·
     replace hE := hE.bf 20 c25
     refine plc hE (.r 4 6 .nil) (fun a hE => pld ?_)
     exact J33 _ (by omega) _ false _ _ hE .of hS H
 refine pl0 (plc hE (.bn 0 0 7 hb2 .nil) (fun a hE => ?_))
 obtain ⟨t7, h8, H⟩ := bd H
 refine ple hE (.cl en20 (qT.calls k x0_ _ _ _ _ _ _ _ _ _ hS.own.sub g0_4 g0_5 g0_6 h8)) ?_
 rintro _ u6 a ⟨_, rfl, hC⟩ hE
 replace hS := hS.lent hC
 refine plc hE (.r 2 2 .nil) (fun a hE => ?_)
 rcases sp H with ⟨c9, H⟩ | ⟨c9, H⟩
 ·
  replace hE := hE.btn 11 c9
  refine plc hE (.r 4 4 .nil) (fun a hE => pld ?_)
  exact J14 _ (by omega) _ (decide ((x2_.length : Int) > 30)) _ _ hE .of hS H
 ·
  replace hE := hE.bfn 11 c9
  refine plc hE (.r 4 4 .nil) (fun a hE => pld ?_)
  exact J14 _ (by omega) _ true _ _ hE .of hS H
end Go.Proofs.YtpohepinmjmbkaaGreat.QS
