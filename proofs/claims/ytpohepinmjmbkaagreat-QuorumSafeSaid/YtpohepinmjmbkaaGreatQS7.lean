import Derived.Test.YtpohepinmjmbkaaGreatQS6
namespace Go.Proofs.YtpohepinmjmbkaaGreat.QS
open Go Go.RowKit Go.Proofs.YtpohepinmjmbkaaGreat.Sl
set_option linter.unusedVariables false
set_option linter.unusedSimpArgs false
set_option maxHeartbeats 4000000
set_option maxRecDepth 100000
def qAS.l9 : Nat → List Int → Int → Option (List Int)
  | 0, _, _ => none
  | k + 1, x0_, x8 => if x8 < (x0_.length : Int) then (if 0 ≤ x8 ∧ x8 < (x0_.length : Int) then (if 0 ≤ (w64 (x8 - 1)) ∧ (w64 (x8 - 1)) < (x0_.length : Int) then (if (nth 0 x0_ x8) = (nth 0 x0_ (w64 (x8 - 1))) then (none) else (qAS.l9 k x0_ (w64 (x8 + 1)))) else (none)) else (none)) else (some x0_)
theorem qAS.l9_s (k : Nat) (x0_ : List Int) (x8 : Int) : qAS.l9 (k + 1) x0_ x8 = (if x8 < (x0_.length : Int) then (if 0 ≤ x8 ∧ x8 < (x0_.length : Int) then (if 0 ≤ (w64 (x8 - 1)) ∧ (w64 (x8 - 1)) < (x0_.length : Int) then (if (nth 0 x0_ x8) = (nth 0 x0_ (w64 (x8 - 1))) then (none) else (qAS.l9 k x0_ (w64 (x8 + 1)))) else (none)) else (none)) else (some x0_)) := by kernel_rfl
def qAS.f (k : Nat) (x0_ : List Int) : Option (List Int) := if (x0_.length : Int) < 2 then (some x0_) else (qAS.l9 k x0_ 1)
def qAS.Post (x0_ : List Int) (A0_0 : Option Addr) (c0_0 : Nat) (W F : World) (r : List Int) (v : Value) (w' : World) : Prop := ∃ (F' : World) (RA0_0 : Option Addr) (rc0_0 : Nat), v = .slice RA0_0 r.length rc0_0 ∧ St W (mine W [row (Kn.int .i64) 3 (.slice A0_0 x0_.length c0_0) x0_]) F w' F' [row (Kn.int .i64) 3 (.slice RA0_0 r.length rc0_0) r]
theorem qAS.calls (k : Nat) (x0_ : List Int) (A0_0 : Option Addr) (c0_0 : Nat) (r : List Int) (W F : World) (hown : Own W F [row (Kn.int .i64) 3 (.slice A0_0 x0_.length c0_0) x0_]) (H : qAS.f k x0_ = some r) :
    Calls Tryz.prog 111 #[.slice A0_0 x0_.length c0_0] W fun e w' => ∃ v, e = .returned v ∧ qAS.Post x0_ A0_0 c0_0 W F r v w' := by
 have hS := St.start hown
 obtain ⟨N, hN⟩ : ∃ N, N = mine W [row (Kn.int .i64) 3 (.slice A0_0 x0_.length c0_0) x0_] := ⟨_, rfl⟩
 rw [← hN] at hS
 unfold qAS.f at H
 refine enter (n := 61) rfl rfl rfl (Nat.le_of_ble_eq_true rfl) (fun a hE => ?_)
 refine sq fun K1 hK1 => pl0 (plc hE (.r 0 1 .nil) (fun a hE => pld (hK1 _ _ (sq fun K2 hK2 => sq fun K3 hK3 => pl0 (plc hE (.r 0 3 .nil) (fun a hE => pld (hK3 _ _ ?_)))))))
 rcases sp H with ⟨c4, H⟩ | ⟨c4, H⟩
 ·
  replace hE := hE.kt 8 c4
  refine ct hE (sq fun K5 hK5 => pl0 (plc hE (.r 0 2 .nil) (fun a hE => pld (hK5 _ _ (wp_ret (qCB ?_))))))
  rw [hN] at hS
  obtain rfl := si H
  exact rt1 hE ⟨_, rfl, _, _, _, rfl, hS⟩
 ·
  replace hE := hE.kf 8 c4
  refine cf hE (wp_skip (hK2 _ _ (sq fun K6 hK6 => sq fun K7 hK7 => pl0 (plc hE (.r 0 1 .nil) (fun a hE => pld (hK7 _ _ (wp_block ?_)))))))
  refine wp_loop_ghost (fun kq10 a w' => ∃ (G : Nat → Value) (x8 : Int), kq10 ≤ k ∧ Env 61 G a ∧ At G [(0, .slice A0_0 x0_.length c0_0), (3, .int .i64 x8)] ∧ St W N F w' F [row (Kn.int .i64) 3 (.slice A0_0 x0_.length c0_0) x0_] ∧  qAS.l9 kq10 x0_ x8 = some r) k ⟨_, 1, Nat.le_refl _, hE, .of, hS, H⟩ ?_
  rintro kq10 a u12 ⟨G, x8, hkq, hE, hA, hS, H⟩
  cases kq10 with
  | zero => cases (show none = some r from H)
  | succ k11 =>
   rw [qAS.l9_s] at H
   obtain ⟨J, hE⟩ := hE.at hA
   refine sq fun K13 hK13 => sq fun K14 hK14 => pl0 (plc hE (.r 0 4 .nil) (fun a hE => pld (hK14 _ _ ?_)))
   rcases sp H with ⟨c15, H⟩ | ⟨c15, H⟩
   ·
    replace hE := hE.kt 13 c15
    refine ct hE (wp_skip (hK13 _ _ (sq fun K16 hK16 => wp_block (sq fun K17 hK17 => ?_))))
    refine drawn 10 ⟨[], [], fun q => False⟩ mixed rfl (by kernel_rfl) (fun hst => ?_)
    replace hS := hS.drew
    obtain ⟨c18, H⟩ := gd H
    have hr19 := hS.row_at (i := 0) rfl
    have hE_ := hE
    obtain ⟨b20, rfl⟩ := qCI hr19 c18.1 c18.2
    replace hE := hE_
    have hr_ := hS.row_at (i := 0) rfl
    obtain ⟨cs22, rfl, hc23⟩ := qCG hr_ 0 x8 c18.1 c18.2
    obtain ⟨c24, H⟩ := gd H
    have hr25 := hS.row_at (i := 0) rfl
    have hr_ := hS.row_at (i := 0) rfl
    obtain ⟨cs27, rfl, hc28⟩ := qCG hr_ 0 (w64 (x8 - 1)) c24.1 c24.2
    refine mny 0 hst hE (.r 0 2 <| .x 2 c18 <| .c 3 (hc23 0 _ rfl) <| .r 4 3 <| .x 7 c24 <| .c 8 (hc28 0 _ rfl) <| .r 9 1 <| .nil) (fun a hE => ?_)
    refine dn ?_
    refine hK17 _ _ ?_
    rcases sp H with ⟨c29, H⟩ | ⟨c29, H⟩
    ·
     replace hE := hE.kt 25 c29
     refine ct hE (sq fun K30 hK30 => pl0 ?_)
     cases (show none = some r from H)
    ·
     replace hE := hE.kf 25 c29
     refine cf hE (wp_skip ?_)
     refine qCD ?_
     refine hK16 _ _ (pl0 (plc hE (.r 0 3 .nil) (fun a hE => pld ?_)))
     exact qCE ⟨k11, by omega, _, (w64 (x8 + 1)), by omega, hE, .of, hS, H⟩
   ·
    replace hE := hE.kf 13 c15
    refine cf hE ?_
    refine wp_exit ?_
    refine hK6 _ _ (sq fun K31 hK31 => pl0 (plc hE (.r 0 2 .nil) (fun a hE => pld (hK31 _ _ (wp_ret ?_)))))
    rw [hN] at hS
    obtain rfl := si H
    exact rt1 hE ⟨_, rfl, _, _, _, rfl, hS⟩
mutual
def qp.j45 : Nat → qJ → Int → List qI → List Int → Bool → Option (qBK × Int)
  | 0, _, _, _, _, _ => none
  | k + 1, x0_, x1_, x2_, t20, y44 => (qAs.f k x0_ x1_ x2_).bind fun t54 => (qp.l71 k x0_ x2_ t54 t20 0 y44 [])
def qp.l71 : Nat → qJ → List qI → List qD → List Int → Int → Bool → List Int → Option (qBK × Int)
  | 0, _, _, _, _, _, _, _ => none
  | k + 1, x0_, x2_, t54, l65, x66, y67, l70 => if x66 < (t54.length : Int) then (if 0 ≤ x66 ∧ x66 < (t54.length : Int) then (if ((l65.length : Int) + (((nth qD.z t54 x66).f1).length : Int)) * 8 ≤ 140737488355328 then ((qAE.f k ((nth qD.z t54 x66).f1) x2_).bind fun t100 => (if t100 = true then (qp.l71 k x0_ x2_ t54 (l65 ++ (nth qD.z t54 x66).f1) (w64 (x66 + 1)) y67 l70) else ((qAF.f k ((nth qD.z t54 x66).f1) x0_).bind fun t107 => (if t107 = true then (qp.l71 k x0_ x2_ t54 (l65 ++ (nth qD.z t54 x66).f1) (w64 (x66 + 1)) false l70) else (if ((l70.length : Int) + ((1 : Nat) : Int)) * 8 ≤ 140737488355328 then (qp.l71 k x0_ x2_ t54 (l65 ++ (nth qD.z t54 x66).f1) (w64 (x66 + 1)) false (l70 ++ [(nth qD.z t54 x66).f0])) else (none)))))) else (none)) else (none)) else ((qBC.f l65).bind fun t122 => ((qAS.f k t122).bind fun t129 => (qp.l141 k x0_ x2_ y67 l70 t129 0 [])))
def qp.l141 : Nat → qJ → List qI → Bool → List Int → List Int → Int → List Int → Option (qBK × Int)
  | 0, _, _, _, _, _, _, _ => none
  | k + 1, x0_, x2_, y67, l70, t129, x137, l140 => if x137 < (t129.length : Int) then (if 0 ≤ x137 ∧ x137 < (t129.length : Int) then ((qBA.f k (nth 0 t129 x137) x2_).bind fun t158 => (if t158 = true then ((qBs.f k x0_ (nth 0 t129 x137)).bind fun t162 => (qp.j165 k x0_ x2_ y67 l70 t129 x137 l140 t162)) else (qp.j165 k x0_ x2_ y67 l70 t129 x137 l140 false))) else (none)) else (if y67 = true then ((qBB.f k x2_).bind fun t186 => (qp.j193 k y67 l70 l140 t186.1.f0)) else (qp.j193 k y67 l70 l140 0))
def qp.j165 : Nat → qJ → List qI → Bool → List Int → List Int → Int → List Int → Bool → Option (qBK × Int)
  | 0, _, _, _, _, _, _, _, _ => none
  | k + 1, x0_, x2_, y67, l70, t129, x137, l140, y164 => if y164 = true then (if ((l140.length : Int) + ((1 : Nat) : Int)) * 8 ≤ 140737488355328 then (qp.l141 k x0_ x2_ y67 l70 t129 (w64 (x137 + 1)) (l140 ++ [(nth 0 t129 x137)])) else (none)) else (qp.l141 k x0_ x2_ y67 l70 t129 (w64 (x137 + 1)) l140)
def qp.j193 : Nat → Bool → List Int → List Int → Int → Option (qBK × Int)
  | 0, _, _, _, _ => none
  | k + 1, y67, l70, l140, x192 => some ((⟨y67, x192, l140, l70⟩ : qBK), 0)
end
theorem qp.j45_s (k : Nat) (x0_ : qJ) (x1_ : Int) (x2_ : List qI) (t20 : List Int) (y44 : Bool) : qp.j45 (k + 1) x0_ x1_ x2_ t20 y44 = ((qAs.f k x0_ x1_ x2_).bind fun t54 => (qp.l71 k x0_ x2_ t54 t20 0 y44 [])) := by kernel_rfl
theorem qp.l71_s (k : Nat) (x0_ : qJ) (x2_ : List qI) (t54 : List qD) (l65 : List Int) (x66 : Int) (y67 : Bool) (l70 : List Int) : qp.l71 (k + 1) x0_ x2_ t54 l65 x66 y67 l70 = (if x66 < (t54.length : Int) then (if 0 ≤ x66 ∧ x66 < (t54.length : Int) then (if ((l65.length : Int) + (((nth qD.z t54 x66).f1).length : Int)) * 8 ≤ 140737488355328 then ((qAE.f k ((nth qD.z t54 x66).f1) x2_).bind fun t100 => (if t100 = true then (qp.l71 k x0_ x2_ t54 (l65 ++ (nth qD.z t54 x66).f1) (w64 (x66 + 1)) y67 l70) else ((qAF.f k ((nth qD.z t54 x66).f1) x0_).bind fun t107 => (if t107 = true then (qp.l71 k x0_ x2_ t54 (l65 ++ (nth qD.z t54 x66).f1) (w64 (x66 + 1)) false l70) else (if ((l70.length : Int) + ((1 : Nat) : Int)) * 8 ≤ 140737488355328 then (qp.l71 k x0_ x2_ t54 (l65 ++ (nth qD.z t54 x66).f1) (w64 (x66 + 1)) false (l70 ++ [(nth qD.z t54 x66).f0])) else (none)))))) else (none)) else (none)) else ((qBC.f l65).bind fun t122 => ((qAS.f k t122).bind fun t129 => (qp.l141 k x0_ x2_ y67 l70 t129 0 [])))) := by kernel_rfl
theorem qp.l141_s (k : Nat) (x0_ : qJ) (x2_ : List qI) (y67 : Bool) (l70 : List Int) (t129 : List Int) (x137 : Int) (l140 : List Int) : qp.l141 (k + 1) x0_ x2_ y67 l70 t129 x137 l140 = (if x137 < (t129.length : Int) then (if 0 ≤ x137 ∧ x137 < (t129.length : Int) then ((qBA.f k (nth 0 t129 x137) x2_).bind fun t158 => (if t158 = true then ((qBs.f k x0_ (nth 0 t129 x137)).bind fun t162 => (qp.j165 k x0_ x2_ y67 l70 t129 x137 l140 t162)) else (qp.j165 k x0_ x2_ y67 l70 t129 x137 l140 false))) else (none)) else (if y67 = true then ((qBB.f k x2_).bind fun t186 => (qp.j193 k y67 l70 l140 t186.1.f0)) else (qp.j193 k y67 l70 l140 0))) := by kernel_rfl
theorem qp.j165_s (k : Nat) (x0_ : qJ) (x2_ : List qI) (y67 : Bool) (l70 : List Int) (t129 : List Int) (x137 : Int) (l140 : List Int) (y164 : Bool) : qp.j165 (k + 1) x0_ x2_ y67 l70 t129 x137 l140 y164 = (if y164 = true then (if ((l140.length : Int) + ((1 : Nat) : Int)) * 8 ≤ 140737488355328 then (qp.l141 k x0_ x2_ y67 l70 t129 (w64 (x137 + 1)) (l140 ++ [(nth 0 t129 x137)])) else (none)) else (qp.l141 k x0_ x2_ y67 l70 t129 (w64 (x137 + 1)) l140)) := by kernel_rfl
theorem qp.j193_s (k : Nat) (y67 : Bool) (l70 : List Int) (l140 : List Int) (x192 : Int) : qp.j193 (k + 1) y67 l70 l140 x192 = (some ((⟨y67, x192, l140, l70⟩ : qBK), 0)) := by kernel_rfl
def qp.f (k : Nat) (x0_ : qJ) (x1_ : Int) (x2_ : List qI) : Option (qBK × Int) := (qBI.f k x0_ x1_ x2_).bind fun t11 => (if t11 = true then ((qBa.f k x0_ x1_).bind fun t20 => (if (t20.length : Int) ≥ x0_.f2 then ((qAP.f k t20 x2_).bind fun t35 => (qp.j45 k x0_ x1_ x2_ t20 (!t35))) else (qp.j45 k x0_ x1_ x2_ t20 false))) else (some ((⟨false, 0, [], []⟩ : qBK), 1)))
def qp.Post (W F : World) (r : qBK × Int) (v : Value) (w' : World) : Prop := ∃ (F' : World) (RA0_2 : Option Addr) (rc0_2 : Nat) (RA0_3 : Option Addr) (rc0_3 : Nat), v = .tuple #[.agg #[.bool r.1.f0, .int .i64 r.1.f1, .slice RA0_2 r.1.f2.length rc0_2, .slice RA0_3 r.1.f3.length rc0_3], .int .i64 r.2] ∧ St W (mine W []) F w' F' [row (Kn.int .i64) 3 (.slice RA0_2 r.1.f2.length rc0_2) r.1.f2, row (Kn.int .i64) 3 (.slice RA0_3 r.1.f3.length rc0_3) r.1.f3]
theorem qp.calls (k : Nat) (x0_ : qJ) (x1_ : Int) (x2_ : List qI) (A0_4 : Option Addr) (c0_4 : Nat) (A0_5 : Option Addr) (c0_5 : Nat) (A0_6 : Option Addr) (c0_6 : Nat) (A2_0 : Option Addr) (c2_0 : Nat) (r : qBK × Int) (W F : World) (hown : Sub F W) (g0_4 : Rd qA.k F A0_4 c0_4 x0_.f4) (g0_5 : Rd qK.k F A0_5 c0_5 x0_.f5) (g0_6 : Rd qC.k F A0_6 c0_6 x0_.f6) (g2_0 : Rd qI.k F A2_0 c2_0 x2_) (H : qp.f k x0_ x1_ x2_ = some r) :
    Calls Tryz.prog 50 #[.agg #[.int .i64 x0_.f0, .int .i64 x0_.f1, .int .i64 x0_.f2, .int .i64 x0_.f3, .slice A0_4 x0_.f4.length c0_4, .slice A0_5 x0_.f5.length c0_5, .slice A0_6 x0_.f6.length c0_6], .int .i64 x1_, .slice A2_0 x2_.length c2_0] W fun e w' => ∃ v, e = .returned v ∧ qp.Post W F r v w' := by
 have hS := St.start (Own.nil hown)
 unfold qp.f at H
 refine enter (n := 109) rfl rfl rfl (Nat.le_of_ble_eq_true rfl) (fun a hE => ?_)
 refine sq fun K1 hK1 => pl0 (ple hE (.bx (t := 26) hS [.int .i64 x0_.f0, .int .i64 x0_.f1, .int .i64 x0_.f2, .int .i64 x0_.f3, .slice A0_4 x0_.f4.length c0_4, .slice A0_5 x0_.f5.length c0_5, .slice A0_6 x0_.f6.length c0_6]) ?_)
 rintro _ u3 a ⟨b2, rfl, hb2, hS, hg⟩ hE
 refine ple hE (.bx (t := 72) hS [.slice A2_0 x2_.length c2_0]) ?_
 rintro _ u5 a ⟨b4, rfl, hb4, hS, hg⟩ hE
 refine ple hE (.al (t := 74) hS [.bool false, .int .i64 0, .slice none 0 0, .slice none 0 0]) ?_
 rintro _ u7 a ⟨b6, rfl, hb6, hS, hg⟩ hE
 refine plc hE (.r 3 1 .nil) (fun a hE => pld (hK1 _ _ (sq fun K8 hK8 => sq fun K9 hK9 => pl0 ?_)))
 have hb2 := hS.blk_at (i := 2) rfl
 have hb4 := hS.blk_at (i := 1) rfl
 refine plc hE (.bn 0 0 7 hb2 <| .r 1 1 <| .b 2 0 hb4 <| .nil) (fun a hE => ?_)
 obtain ⟨t11, h12, H⟩ := bd H
 refine ple hE (.cl en103 (qBI.calls k x0_ x1_ x2_ _ _ _ _ _ _ _ _ _ _ _ hS.own.sub g0_4 g0_5 g0_6 g2_0 h12)) ?_
 rintro _ u10 a ⟨_, rfl, hC⟩ hE
 replace hS := hS.lent hC
 refine plc hE (.r 4 1 .nil) (fun a hE => pld (hK9 _ _ ?_))
 rcases sp H with ⟨c13, H⟩ | ⟨c13, H⟩
 ·
  replace hE := hE.btn 23 c13
  refine cf hE (wp_skip (hK8 _ _ (sq fun K18 hK18 => pl0 ?_)))
  have hb2 := hS.blk_at (i := 2) rfl
  refine plc hE (.bn 0 0 7 hb2 <| .r 1 1 <| .nil) (fun a hE => ?_)
  obtain ⟨t20, h21, H⟩ := bd H
  refine ple hE (.cl en24 (qBa.calls k x0_ x1_ _ _ _ _ _ _ _ _ _ hS.own.sub g0_4 g0_5 g0_6 h21)) ?_
  rintro _ u19 a ⟨F22, A23, c24, rfl, hC⟩ hE
  have hs := hC.sub
  replace hS := hS.called (X := []) hC
  replace g0_4 := g0_4.mono hs
  replace g0_5 := g0_5.mono hs
  replace g0_6 := g0_6.mono hs
  replace g2_0 := g2_0.mono hs
  refine plc hE (.r 3 1 .nil) (fun a hE => pld (hK18 _ _ (sq fun K27 hK27 => pl0 (plc hE (.r 0 1 .nil) (fun a hE => ple hE (.al (t := 129) hS [.nilFunc]) ?_)))))
  rintro _ u29 a ⟨b28, rfl, hb28, hS, hg⟩ hE
  refine ple hE (.sto hS [.func (.func 104) #[] #[.pointer (some ⟨b4, 0, none⟩)]]) ?_
  rintro _ u30 a ⟨rfl, hb28, hS, hz⟩ hE
  refine pld (hK27 _ _ (sq fun K31 hK31 => pl0 (plc hE (.r 0 2 .nil) (fun a hE => pld (hK31 _ _ (sq fun K32 hK32 => ?_))))))
  have J48 : ∀ kq46, kq46 ≤ k → ∀ (G : Nat → Value) (b43 : Nat) (y44 : Bool) (a : Act) (w' : World), Env 109 G a → At G [(1, .int .i64 x1_), (3, .pointer (some ⟨b2, 0, none⟩)), (5, .pointer (some ⟨b4, 0, none⟩)), (6, .pointer (some ⟨b6, 0, none⟩)), (8, .slice A23 t20.length c24), (9, .pointer (some ⟨b28, 0, none⟩)), (10, .func (.func 106) #[] #[.pointer (some ⟨b28, 0, none⟩)]), (11, .pointer (some ⟨b43, 0, none⟩))] → St W (mine W []) F w' F22 [box b28 #[.func (.func 104) #[] #[.pointer (some ⟨b4, 0, none⟩)]] 129, box b6 #[.bool false, .int .i64 0, .slice none 0 0, .slice none 0 0] 74, box b4 #[.slice A2_0 x2_.length c2_0] 72, box b2 #[.int .i64 x0_.f0, .int .i64 x0_.f1, .int .i64 x0_.f2, .int .i64 x0_.f3, .slice A0_4 x0_.f4.length c0_4, .slice A0_5 x0_.f5.length c0_5, .slice A0_6 x0_.f6.length c0_6] 26, box b43 #[.bool y44, .int .i64 0, .slice none 0 0, .slice none 0 0] 74, row (Kn.int .i64) 3 (.slice A23 t20.length c24) t20] → qp.j45 kq46 x0_ x1_ x2_ t20 y44 = some r → K32 a w' := by
   intro kq46 hkq G b43 y44 a u49 hE hA hS H
   cases kq46 with
   | zero => cases (show none = some r from H)
   | succ k47 =>
    rw [qp.j45_s] at H
    obtain ⟨J, hE⟩ := hE.at hA
    refine hK32 _ _ (sq fun K50 hK50 => pl0 (plc hE (.r 0 2 .nil) (fun a hE => pld (hK50 _ _ (sq fun K51 hK51 => sq fun K52 hK52 => pl0 ?_)))))
    have hb2 := hS.blk_at (i := 3) rfl
    have hb4 := hS.blk_at (i := 2) rfl
    refine plc hE (.bn 0 0 7 hb2 <| .r 1 1 <| .b 2 0 hb4 <| .nil) (fun a hE => ?_)
    obtain ⟨t54, h55, H⟩ := bd H
    refine ple hE (.cl en51 (qAs.calls k47 x0_ x1_ x2_ _ _ _ _ _ _ _ _ _ _ _ hS.own.sub g0_4 g0_5 g0_6 g2_0 h55)) ?_
    rintro _ u53 a ⟨F56, A57, c58, rfl, hC⟩ hE
    have hs := hC.sub
    replace hS := hS.called (X := []) hC
    replace g0_4 := g0_4.mono hs
    replace g0_5 := g0_5.mono hs
    replace g0_6 := g0_6.mono hs
    replace g2_0 := g2_0.mono hs
    refine plc hE (.r 4 2 .nil) (fun a hE => pld (hK52 _ _ (wp_block ?_)))
    replace hS := hS.nilrow (Kn.int .i64) 3
    replace hS := hS.front 7 rfl
    replace hS := hS.front 2 rfl
    replace hS := hS.front 7 rfl
    replace hS := hS.front 7 rfl
    replace hS := hS.front 7 rfl
    replace hS := hS.front 7 rfl
    replace hS := hS.front 7 rfl
    refine wp_loop_ghost (fun kq72 a w' => ∃ (G : Nat → Value) (A63 : Option Addr) (c64 : Nat) (l65 : List Int) (x66 : Int) (y67 : Bool) (A68 : Option Addr) (c69 : Nat) (l70 : List Int), kq72 ≤ k47 ∧ Env 109 G a ∧ At G [(3, .pointer (some ⟨b2, 0, none⟩)), (5, .pointer (some ⟨b4, 0, none⟩)), (6, .pointer (some ⟨b6, 0, none⟩)), (9, .pointer (some ⟨b28, 0, none⟩)), (10, .func (.func 106) #[] #[.pointer (some ⟨b28, 0, none⟩)]), (11, .pointer (some ⟨b43, 0, none⟩)), (12, .slice A63 l65.length c64), (46, .slice A57 t54.length c58), (47, .int .i64 (t54.length : Int)), (48, .int .i64 x66)] ∧ St W (mine W []) F w' F56 [box b28 #[.func (.func 104) #[] #[.pointer (some ⟨b4, 0, none⟩)]] 129, box b6 #[.bool false, .int .i64 0, .slice none 0 0, .slice none 0 0] 74, box b4 #[.slice A2_0 x2_.length c2_0] 72, box b2 #[.int .i64 x0_.f0, .int .i64 x0_.f1, .int .i64 x0_.f2, .int .i64 x0_.f3, .slice A0_4 x0_.f4.length c0_4, .slice A0_5 x0_.f5.length c0_5, .slice A0_6 x0_.f6.length c0_6] 26, box b43 #[.bool y67, .int .i64 0, .slice none 0 0, .slice A68 l70.length c69] 74, row qD.k 51 (.slice A57 t54.length c58) t54, row (Kn.int .i64) 3 (.slice A63 l65.length c64) l65, row (Kn.int .i64) 3 (.slice A68 l70.length c69) l70] ∧  qp.l71 kq72 x0_ x2_ t54 l65 x66 y67 l70 = some r) k47 ⟨_, A23, c24, t20, 0, y44, none, 0, [], Nat.le_refl _, hE, .of, hS, H⟩ ?_
    rintro kq72 a u74 ⟨G, A63, c64, l65, x66, y67, A68, c69, l70, hkq, hE, hA, hS, H⟩
    cases kq72 with
    | zero => cases (show none = some r from H)
    | succ k73 =>
     rw [qp.l71_s] at H
     obtain ⟨J, hE⟩ := hE.at hA
     refine sq fun K75 hK75 => pl0 (plc hE (.r 0 1 .nil) (fun a hE => pld (hK75 _ _ (sq fun K76 hK76 => ?_))))
     rcases sp H with ⟨c77, H⟩ | ⟨c77, H⟩
     ·
      replace hE := hE.kt 49 c77
      refine ct hE (wp_skip (hK76 _ _ (sq fun K78 hK78 => wp_block (sq fun K79 hK79 => pl0 ?_))))
      obtain ⟨c80, H⟩ := gd H
      have hr81 := hS.row_at (i := 5) rfl
      have hE_ := hE
      obtain ⟨b82, rfl⟩ := qCI hr81 c80.1 c80.2
      replace hE := hE_
      have hr_ := hS.row_at (i := 5) rfl
      obtain ⟨cs84, ⟨A86, c87, rfl, g88⟩, hc85⟩ := qCG hr_ qD.z x66 c80.1 c80.2
      refine plc hE (.x 0 c80 <| .cs 1 hc85 <| .nil) (fun a hE => ple hE (.al (t := 51) hS [.int .i64 0, .slice none 0 0]) ?_)
      rintro _ u90 a ⟨b89, rfl, hb89, hS, hg⟩ hE
      refine ple hE (.sto hS [.int .i64 ((nth qD.z t54 x66).f0), .slice A86 (((nth qD.z t54 x66).f1).length) c87]) ?_
      rintro _ u91 a ⟨rfl, hb89, hS, hz⟩ hE
      refine pld (hK79 _ _ (sq fun K92 hK92 => pl0 (plc hE (.r 0 2 <| .b 2 1 hb89 <| .nil) (fun a hE => ?_))))
      obtain ⟨c93, H⟩ := gd H
      replace hS := hS.front 7 rfl
      refine ple hE (.ap (d := (Kn.int .i64)) 8 hS (g88.src hS.own.sub) c93 c87) ?_
      rintro _ u96 a ⟨A94, c95, rfl, hS, hz⟩ hE
      refine plc hE (.r 4 1 .nil) (fun a hE => pld (hK92 _ _ (sq fun K97 hK97 => sq fun K98 hK98 => pl0 ?_)))
      have hb89 := hS.blk_at (i := 1) rfl
      have hb28 := hS.blk_at (i := 2) rfl
      refine plc hE (.r 0 1 <| .b 1 1 hb89 <| .b 2 0 hb28 <| .nil) (fun a hE => ?_)
      obtain ⟨t100, h101, H⟩ := bd H
      refine ple hE (.cl en107 (qAE.calls k73 ((nth qD.z t54 x66).f1) x2_ _ _ _ _ _ _ _ _ (Sub.refl _) (g88.mono hS.own.sub) (g2_0.mono hS.own.sub) (hS.blk_at (i := 4) rfl) h101)) ?_
      rintro _ u99 a ⟨_, rfl, hC⟩ hE
      replace hS := hS.lent hC
      refine pld (hK98 _ _ ?_)
      rcases sp H with ⟨c102, H⟩ | ⟨c102, H⟩
      ·
       replace hE := hE.bt 59 c102
       refine ct hE ?_
       refine wp_exit ?_
       refine hK78 _ _ (pl0 (plc hE (.r 0 2 .nil) (fun a hE => pld ?_)))
       replace hS := hS.front 1 rfl
       replace hS := hS.tail
       replace hS := hS.front 7 rfl
       replace hS := hS.front 1 rfl
       replace hS := hS.front 7 rfl
       replace hS := hS.front 7 rfl
       replace hS := hS.front 7 rfl
       replace hS := hS.front 7 rfl
       replace hS := hS.front 7 rfl
       replace hS := hS.front 7 rfl
       exact qCE ⟨k73, by omega, _, A94, c95, (l65 ++ (nth qD.z t54 x66).f1), (w64 (x66 + 1)), y67, A68, c69, l70, by omega, hE, .of, hS, H⟩
      ·
       replace hE := hE.bf 59 c102
       refine cf hE (wp_skip (hK97 _ _ (sq fun K103 hK103 => pl0 (plc hE (.r 0 1 .nil) (fun a hE => ?_)))))
       replace hS := hS.front 6 rfl
       refine ple hE (.sto hS [.bool false, .int .i64 0, .slice none 0 0, .slice A68 l70.length c69]) ?_
       rintro _ u104 a ⟨rfl, hb43, hS, hz⟩ hE
       refine pld (hK103 _ _ (sq fun K105 hK105 => pl0 ?_))
       have hb89 := hS.blk_at (i := 2) rfl
       refine plc hE (.r 0 1 <| .b 1 1 hb89 <| .r 2 1 <| .nil) (fun a hE => ?_)
       obtain ⟨t107, h108, H⟩ := bd H
       refine ple hE (.cl en107 (qAF.calls k73 ((nth qD.z t54 x66).f1) x0_ _ _ _ _ _ _ _ _ _ _ _ _ (Sub.refl _) (g88.mono hS.own.sub) (g0_4.mono hS.own.sub) (g0_5.mono hS.own.sub) (g0_6.mono hS.own.sub) (hS.blk_at (i := 6) rfl) h108)) ?_
       rintro _ u106 a ⟨_, rfl, hC⟩ hE
       replace hS := hS.lent hC
       refine plc hE (.r 4 1 .nil) (fun a hE => pld (hK105 _ _ ?_))
       rcases sp H with ⟨c109, H⟩ | ⟨c109, H⟩
       ·
        replace hE := hE.btn 65 c109
        refine cf hE (wp_skip ?_)
        refine qCD ?_
        refine hK78 _ _ (pl0 (plc hE (.r 0 2 .nil) (fun a hE => pld ?_)))
        replace hS := hS.front 2 rfl
        replace hS := hS.tail
        replace hS := hS.front 7 rfl
        replace hS := hS.front 2 rfl
        replace hS := hS.front 7 rfl
        replace hS := hS.front 3 rfl
        replace hS := hS.front 7 rfl
        replace hS := hS.front 7 rfl
        replace hS := hS.front 7 rfl
        replace hS := hS.front 7 rfl
        exact qCE ⟨k73, by omega, _, A94, c95, (l65 ++ (nth qD.z t54 x66).f1), (w64 (x66 + 1)), false, A68, c69, l70, by omega, hE, .of, hS, H⟩
       ·
        replace hE := hE.bfn 65 c109
        refine ct hE (pl0 ?_)
        have hb43 := hS.blk_at (i := 0) rfl
        have hb89 := hS.blk_at (i := 2) rfl
        refine plc hE (.r 0 1 <| .b 1 3 hb43 <| .r 2 1 <| .b 3 0 hb89 <| .nil) (fun a hE => ple hE (.lit (d := (Kn.int .i64)) (e := 3) hS [(nth qD.z t54 x66).f0] (.cons rfl .nil)) ?_)
        rintro _ u110 a ⟨A111, c112, rfl, hS, hg⟩ hE
        obtain ⟨c114, H⟩ := gd H
        replace hS := hS.front 9 rfl
        refine ple hE (.ap (d := (Kn.int .i64)) 8 hS (qCM (hS.row_at (i := 1) rfl)) c114 c112) ?_
        rintro _ u117 a ⟨A115, c116, rfl, hS, hz⟩ hE
        refine plc hE (.r 6 1 .nil) (fun a hE => ?_)
        replace hS := hS.front 2 rfl
        refine ple hE (.sto hS [.bool false, .int .i64 0, .slice none 0 0, .slice A115 ((l70 ++ [(nth qD.z t54 x66).f0]).length) c116]) ?_
        rintro _ u118 a ⟨rfl, hb43, hS, hz⟩ hE
        refine pld ?_
        refine qCD ?_
        refine hK78 _ _ (pl0 (plc hE (.r 0 2 .nil) (fun a hE => pld ?_)))
        replace hS := hS.front 2 rfl
        replace hS := hS.tail
        replace hS := hS.front 3 rfl
        replace hS := hS.tail
        replace hS := hS.front 1 rfl
        replace hS := hS.front 2 rfl
        replace hS := hS.front 7 rfl
        replace hS := hS.front 3 rfl
        replace hS := hS.front 7 rfl
        replace hS := hS.front 7 rfl
        replace hS := hS.front 7 rfl
        replace hS := hS.front 7 rfl
        exact qCE ⟨k73, by omega, _, A94, c95, (l65 ++ (nth qD.z t54 x66).f1), (w64 (x66 + 1)), false, A115, c116, (l70 ++ [(nth qD.z t54 x66).f0]), by omega, hE, .of, hS, H⟩
     ·
      replace hE := hE.kf 49 c77
      refine cf hE ?_
      refine wp_exit ?_
      refine hK51 _ _ (sq fun K120 hK120 => pl0 (plc hE (.r 0 1 .nil) (fun a hE => ?_)))
      replace hS := hS.front 6 rfl
      obtain ⟨t122, h123, H⟩ := bd H
      refine ple hE (.cl en110 (qBC.calls l65 _ _ _ _ _ (Own.left (X := [row (Kn.int .i64) 3 (.slice A63 l65.length c64) l65]) hS.own) h123)) ?_
      rintro _ u121 a ⟨F124, rfl, hC⟩ hE
      have hs := hC.sub
      replace hS := hS.called (X := [row (Kn.int .i64) 3 (.slice A63 l65.length c64) l65]) hC
      replace g2_0 := g2_0.mono hs
      replace g0_4 := g0_4.mono hs
      replace g0_5 := g0_5.mono hs
      replace g0_6 := g0_6.mono hs
      refine pld (hK120 _ _ (sq fun K125 hK125 => sq fun K126 hK126 => pl0 (plc hE (.r 0 1 .nil) (fun a hE => ?_))))
      have hn127 := (qCF (hS.row_at (i := 0) rfl)).1
      replace hE := hE.set (d := 12) (v := .slice A63 t122.length c64) (Eq.trans (b := .slice A63 l65.length c64) (by kernel_rfl) (by rw [← hn127]))
      replace hE := hE.set (d := 74) (v := .slice A63 t122.length c64) (Eq.trans (b := .slice A63 l65.length c64) (by kernel_rfl) (by rw [← hn127]))
      replace hE := hE.set (d := 76) (v := .slice A63 t122.length c64) (Eq.trans (b := .slice A63 l65.length c64) (by kernel_rfl) (by rw [← hn127]))
      replace hS : St W (mine W []) F u121 F124 [row (Kn.int .i64) 3 (.slice A63 t122.length c64) t122, box b28 #[.func (.func 104) #[] #[.pointer (some ⟨b4, 0, none⟩)]] 129, box b6 #[.bool false, .int .i64 0, .slice none 0 0, .slice none 0 0] 74, box b4 #[.slice A2_0 x2_.length c2_0] 72, box b2 #[.int .i64 x0_.f0, .int .i64 x0_.f1, .int .i64 x0_.f2, .int .i64 x0_.f3, .slice A0_4 x0_.f4.length c0_4, .slice A0_5 x0_.f5.length c0_5, .slice A0_6 x0_.f6.length c0_6] 26, box b43 #[.bool y67, .int .i64 0, .slice none 0 0, .slice A68 l70.length c69] 74, row qD.k 51 (.slice A57 t54.length c58) t54, row (Kn.int .i64) 3 (.slice A68 l70.length c69) l70] := by rw [← hn127]; exact hS
      obtain ⟨t129, h130, H⟩ := bd H
      refine ple hE (.cl en111 (qAS.calls k73 t122 _ _ _ _ _ (Own.left (X := [row (Kn.int .i64) 3 (.slice A63 t122.length c64) t122]) hS.own) h130)) ?_
      rintro _ u128 a ⟨F131, A132, c133, rfl, hC⟩ hE
      have hs := hC.sub
      replace hS := hS.called (X := [row (Kn.int .i64) 3 (.slice A63 t122.length c64) t122]) hC
      replace g2_0 := g2_0.mono hs
      replace g0_4 := g0_4.mono hs
      replace g0_5 := g0_5.mono hs
      replace g0_6 := g0_6.mono hs
      refine plc hE (.r 2 2 .nil) (fun a hE => pld (hK126 _ _ (wp_block ?_)))
      replace hS := hS.nilrow (Kn.int .i64) 3
      replace hS := hS.front 7 rfl
      replace hS := hS.tail
      replace hS := hS.front 7 rfl
      replace hS := hS.front 2 rfl
      replace hS := hS.front 7 rfl
      replace hS := hS.front 7 rfl
      replace hS := hS.front 7 rfl
      replace hS := hS.front 7 rfl
      replace hS := hS.front 7 rfl
      refine wp_loop_ghost (fun kq142 a w' => ∃ (G : Nat → Value) (x137 : Int) (A138 : Option Addr) (c139 : Nat) (l140 : List Int), kq142 ≤ k73 ∧ Env 109 G a ∧ At G [(3, .pointer (some ⟨b2, 0, none⟩)), (5, .pointer (some ⟨b4, 0, none⟩)), (6, .pointer (some ⟨b6, 0, none⟩)), (10, .func (.func 106) #[] #[.pointer (some ⟨b28, 0, none⟩)]), (11, .pointer (some ⟨b43, 0, none⟩)), (77, .slice A132 t129.length c133), (78, .int .i64 (t129.length : Int)), (79, .int .i64 x137)] ∧ St W (mine W []) F w' F131 [box b28 #[.func (.func 104) #[] #[.pointer (some ⟨b4, 0, none⟩)]] 129, box b6 #[.bool false, .int .i64 0, .slice none 0 0, .slice none 0 0] 74, box b4 #[.slice A2_0 x2_.length c2_0] 72, box b2 #[.int .i64 x0_.f0, .int .i64 x0_.f1, .int .i64 x0_.f2, .int .i64 x0_.f3, .slice A0_4 x0_.f4.length c0_4, .slice A0_5 x0_.f5.length c0_5, .slice A0_6 x0_.f6.length c0_6] 26, box b43 #[.bool y67, .int .i64 0, .slice A138 l140.length c139, .slice A68 l70.length c69] 74, row (Kn.int .i64) 3 (.slice A132 t129.length c133) t129, row (Kn.int .i64) 3 (.slice A68 l70.length c69) l70, row (Kn.int .i64) 3 (.slice A138 l140.length c139) l140] ∧  qp.l141 kq142 x0_ x2_ y67 l70 t129 x137 l140 = some r) k73 ⟨_, 0, none, 0, [], Nat.le_refl _, hE, .of, hS, H⟩ ?_
      rintro kq142 a u144 ⟨G, x137, A138, c139, l140, hkq, hE, hA, hS, H⟩
      cases kq142 with
      | zero => cases (show none = some r from H)
      | succ k143 =>
       rw [qp.l141_s] at H
       obtain ⟨J, hE⟩ := hE.at hA
       refine sq fun K145 hK145 => pl0 (plc hE (.r 0 1 .nil) (fun a hE => pld (hK145 _ _ (sq fun K146 hK146 => ?_))))
       rcases sp H with ⟨c147, H⟩ | ⟨c147, H⟩
       ·
        replace hE := hE.kt 80 c147
        refine ct hE (wp_skip (hK146 _ _ (sq fun K148 hK148 => wp_block (sq fun K149 hK149 => pl0 ?_))))
        obtain ⟨c150, H⟩ := gd H
        have hr151 := hS.row_at (i := 5) rfl
        have hE_ := hE
        obtain ⟨b152, rfl⟩ := qCI hr151 c150.1 c150.2
        replace hE := hE_
        have hr_ := hS.row_at (i := 5) rfl
        obtain ⟨cs154, rfl, hc155⟩ := qCG hr_ 0 x137 c150.1 c150.2
        refine plc hE (.x 0 c150 <| .c 1 (hc155 0 _ rfl) <| .r 2 1 <| .nil) (fun a hE => pld (hK149 _ _ (sq fun K156 hK156 => ?_)))
        have J168 : ∀ kq166, kq166 ≤ k143 → ∀ (G : Nat → Value) (y164 : Bool) (a : Act) (w' : World), Env 109 G a → At G [(3, .pointer (some ⟨b2, 0, none⟩)), (5, .pointer (some ⟨b4, 0, none⟩)), (6, .pointer (some ⟨b6, 0, none⟩)), (10, .func (.func 106) #[] #[.pointer (some ⟨b28, 0, none⟩)]), (11, .pointer (some ⟨b43, 0, none⟩)), (16, .int .i64 (nth 0 t129 x137)), (77, .slice (some ⟨b152, 0, none⟩) t129.length c133), (78, .int .i64 (t129.length : Int)), (79, .int .i64 x137), (90, .bool y164)] → St W (mine W []) F w' F131 [box b28 #[.func (.func 104) #[] #[.pointer (some ⟨b4, 0, none⟩)]] 129, box b6 #[.bool false, .int .i64 0, .slice none 0 0, .slice none 0 0] 74, box b4 #[.slice A2_0 x2_.length c2_0] 72, box b2 #[.int .i64 x0_.f0, .int .i64 x0_.f1, .int .i64 x0_.f2, .int .i64 x0_.f3, .slice A0_4 x0_.f4.length c0_4, .slice A0_5 x0_.f5.length c0_5, .slice A0_6 x0_.f6.length c0_6] 26, box b43 #[.bool y67, .int .i64 0, .slice A138 l140.length c139, .slice A68 l70.length c69] 74, row (Kn.int .i64) 3 (.slice (some ⟨b152, 0, none⟩) t129.length c133) t129, row (Kn.int .i64) 3 (.slice A68 l70.length c69) l70, row (Kn.int .i64) 3 (.slice A138 l140.length c139) l140] → qp.j165 kq166 x0_ x2_ y67 l70 t129 x137 l140 y164 = some r → K156 a w' := by
         intro kq166 hkq G y164 a u169 hE hA hS H
         cases kq166 with
         | zero => cases (show none = some r from H)
         | succ k167 =>
          rw [qp.j165_s] at H
          obtain ⟨J, hE⟩ := hE.at hA
          refine hK156 _ _ ?_
          rcases sp H with ⟨c170, H⟩ | ⟨c170, H⟩
          ·
           replace hE := hE.bt 90 c170
           refine ct hE (pl0 ?_)
           have hb43 := hS.blk_at (i := 4) rfl
           refine plc hE (.r 0 1 <| .b 1 2 hb43 <| .r 2 1 <| .nil) (fun a hE => ple hE (.lit (d := (Kn.int .i64)) (e := 3) hS [(nth 0 t129 x137)] (.cons rfl .nil)) ?_)
           rintro _ u171 a ⟨A172, c173, rfl, hS, hg⟩ hE
           obtain ⟨c175, H⟩ := gd H
           replace hS := hS.front 8 rfl
           refine ple hE (.ap (d := (Kn.int .i64)) 8 hS (qCM (hS.row_at (i := 1) rfl)) c175 c173) ?_
           rintro _ u178 a ⟨A176, c177, rfl, hS, hz⟩ hE
           refine plc hE (.r 5 1 .nil) (fun a hE => ?_)
           replace hS := hS.front 6 rfl
           refine ple hE (.sto hS [.bool y67, .int .i64 0, .slice A176 ((l140 ++ [(nth 0 t129 x137)]).length) c177, .slice A68 l70.length c69]) ?_
           rintro _ u179 a ⟨rfl, hb43, hS, hz⟩ hE
           refine pld ?_
           refine qCD ?_
           refine hK148 _ _ (pl0 (plc hE (.r 0 2 .nil) (fun a hE => pld ?_)))
           replace hS := hS.front 2 rfl
           replace hS := hS.tail
           replace hS := hS.front 1 rfl
           replace hS := hS.front 7 rfl
           replace hS := hS.front 7 rfl
           replace hS := hS.front 3 rfl
           replace hS := hS.front 7 rfl
           replace hS := hS.front 7 rfl
           replace hS := hS.front 7 rfl
           replace hS := hS.front 7 rfl
           exact qCE ⟨k167, by omega, _, (w64 (x137 + 1)), A176, c177, (l140 ++ [(nth 0 t129 x137)]), by omega, hE, .of, hS, H⟩
          ·
           replace hE := hE.bf 90 c170
           refine cf hE (wp_skip ?_)
           refine qCD ?_
           refine hK148 _ _ (pl0 (plc hE (.r 0 2 .nil) (fun a hE => pld ?_)))
           exact qCE ⟨k167, by omega, _, (w64 (x137 + 1)), A138, c139, l140, by omega, hE, .of, hS, H⟩
        refine pl0 (plc hE (.r 0 2 .nil) (fun a hE => ?_))
        obtain ⟨t158, h159, H⟩ := bd H
        refine ple hE (.cl en106 (qBA.calls k143 (nth 0 t129 x137) x2_ _ _ _ _ _ _ _ (Sub.refl _) (g2_0.mono hS.own.sub) (hS.blk_at (i := 2) rfl) (hS.blk_at (i := 0) rfl) h159)) ?_
        rintro _ u157 a ⟨_, rfl, hC⟩ hE
        replace hS := hS.lent hC
        refine plc hE (.r 3 1 .nil) (fun a hE => ?_)
        rcases sp H with ⟨c160, H⟩ | ⟨c160, H⟩
        ·
         replace hE := hE.bt 86 c160
         have hb2 := hS.blk_at (i := 3) rfl
         refine plc hE (.bn 4 0 7 hb2 <| .r 5 1 <| .nil) (fun a hE => ?_)
         obtain ⟨t162, h163, H⟩ := bd H
         refine ple hE (.cl en109 (qBs.calls k143 x0_ (nth 0 t129 x137) _ _ _ _ _ _ _ _ _ hS.own.sub g0_4 g0_5 g0_6 h163)) ?_
         rintro _ u161 a ⟨_, rfl, hC⟩ hE
         replace hS := hS.lent hC
         refine plc hE (.r 7 1 .nil) (fun a hE => pld ?_)
         exact J168 _ (by omega) _ t162 _ _ hE .of hS H
        ·
         replace hE := hE.bf 86 c160
         refine plc hE (.r 4 4 .nil) (fun a hE => pld ?_)
         exact J168 _ (by omega) _ false _ _ hE .of hS H
       ·
        replace hE := hE.kf 80 c147
        refine cf hE ?_
        refine wp_exit ?_
        refine hK125 _ _ (sq fun K181 hK181 => ?_)
        have J196 : ∀ kq194, kq194 ≤ k143 → ∀ (G : Nat → Value) (x192 : Int) (a : Act) (w' : World), Env 109 G a → At G [(6, .pointer (some ⟨b6, 0, none⟩)), (11, .pointer (some ⟨b43, 0, none⟩))] → St W (mine W []) F w' F131 [box b43 #[.bool y67, .int .i64 x192, .slice A138 l140.length c139, .slice A68 l70.length c69] 74, box b28 #[.func (.func 104) #[] #[.pointer (some ⟨b4, 0, none⟩)]] 129, box b6 #[.bool false, .int .i64 0, .slice none 0 0, .slice none 0 0] 74, box b4 #[.slice A2_0 x2_.length c2_0] 72, box b2 #[.int .i64 x0_.f0, .int .i64 x0_.f1, .int .i64 x0_.f2, .int .i64 x0_.f3, .slice A0_4 x0_.f4.length c0_4, .slice A0_5 x0_.f5.length c0_5, .slice A0_6 x0_.f6.length c0_6] 26, row (Kn.int .i64) 3 (.slice A68 l70.length c69) l70, row (Kn.int .i64) 3 (.slice A138 l140.length c139) l140] → qp.j193 kq194 y67 l70 l140 x192 = some r → K181 a w' := by
         intro kq194 hkq G x192 a u197 hE hA hS H
         cases kq194 with
         | zero => cases (show none = some r from H)
         | succ k195 =>
          rw [qp.j193_s] at H
          obtain ⟨J, hE⟩ := hE.at hA
          refine hK181 _ _ (sq fun K198 hK198 => pl0 ?_)
          have hb43 := hS.blk_at (i := 0) rfl
          refine plc hE (.bn 0 0 4 hb43 .nil) (fun a hE => ?_)
          replace hS := hS.front 2 rfl
          refine ple hE (.sto hS [.bool y67, .int .i64 x192, .slice A138 l140.length c139, .slice A68 l70.length c69]) ?_
          rintro _ u199 a ⟨rfl, hb6, hS, hz⟩ hE
          refine plc hE (.r 2 1 .nil) (fun a hE => pld (hK198 _ _ (wp_ret ?_)))
          replace hS := hS.tail
          replace hS := hS.tail
          replace hS := hS.tail
          replace hS := hS.tail
          replace hS := hS.tail
          replace hS := hS.front 1 rfl
          obtain rfl := si H
          exact retN hE rfl (of_decide_eq_true rfl) (.cell (by kernel_rfl) (qCH [.bool y67, .int .i64 x192, .slice A138 l140.length c139, .slice A68 l70.length c69] ag74 sz74 hb6 rfl) (.tmp (by kernel_rfl) .nil)) ⟨_, rfl, _, _, _, _, _, rfl, hS⟩
        refine sq fun K182 hK182 => pl0 ?_
        have hb43 := hS.blk_at (i := 4) rfl
        refine plc hE (.r 0 1 <| .b 1 0 hb43 <| .nil) (fun a hE => pld (hK182 _ _ ?_))
        rcases sp H with ⟨c183, H⟩ | ⟨c183, H⟩
        ·
         replace hE := hE.bt 99 c183
         refine ct hE (sq fun K184 hK184 => pl0 ?_)
         have hb4 := hS.blk_at (i := 2) rfl
         refine plc hE (.b 0 0 hb4 .nil) (fun a hE => ?_)
         obtain ⟨t186, h187, H⟩ := bd H
         refine ple hE (.cl en57 (qBB.calls k143 x2_ _ _ _ _ _ hS.own.sub g2_0 h187)) ?_
         rintro _ u185 a ⟨_, rfl, hC⟩ hE
         replace hS := hS.lent hC
         refine plc hE (.r 2 3 .nil) (fun a hE => ple hE (.al (t := 86) hS [.int .i64 0, .int .i64 0, .int .i64 0, .int .i64 0, .int .i64 0]) ?_)
         rintro _ u189 a ⟨b188, rfl, hb188, hS, hg⟩ hE
         refine ple hE (.sto hS [.int .i64 t186.1.f0, .int .i64 t186.1.f1, .int .i64 t186.1.f2, .int .i64 t186.1.f3, .int .i64 t186.1.f4]) ?_
         rintro _ u190 a ⟨rfl, hb188, hS, hz⟩ hE
         refine plc hE (.r 7 1 .nil) (fun a hE => pld (hK184 _ _ (pl0 (plc hE (.r 0 1 <| .b 1 0 hb188 <| .r 2 1 <| .nil) (fun a hE => ?_)))))
         replace hS := hS.front 5 rfl
         refine ple hE (.sto hS [.bool y67, .int .i64 t186.1.f0, .slice A138 l140.length c139, .slice A68 l70.length c69]) ?_
         rintro _ u191 a ⟨rfl, hb43, hS, hz⟩ hE
         refine pld ?_
         replace hS := hS.front 1 rfl
         replace hS := hS.tail
         replace hS := hS.front 5 rfl
         replace hS := hS.tail
         exact J196 _ (by omega) _ t186.1.f0 _ _ hE .of hS H
        ·
         replace hE := hE.bf 99 c183
         refine cf hE (wp_skip ?_)
         replace hS := hS.front 5 rfl
         replace hS := hS.tail
         replace hS := hS.front 6 rfl
         replace hS := hS.front 6 rfl
         replace hS := hS.front 5 rfl
         replace hS := hS.front 5 rfl
         replace hS := hS.front 5 rfl
         replace hS := hS.front 5 rfl
         replace hS := hS.front 6 rfl
         exact J196 _ (by omega) _ 0 _ _ hE .of hS H
  refine pl0 ?_
  have hb2 := hS.blk_at (i := 4) rfl
  refine plc hE (.r 0 3 <| .b 3 2 hb2 <| .r 4 2 <| .nil) (fun a hE => ?_)
  rcases sp H with ⟨c33, H⟩ | ⟨c33, H⟩
  ·
   replace hE := hE.kt 35 c33
   refine plc hE (.r 6 2 .nil) (fun a hE => ?_)
   obtain ⟨t35, h36, H⟩ := bd H
   refine ple hE (.cl en107 (qAP.calls k t20 x2_ _ _ _ _ _ _ _ _ _ (Sub.refl _) (hS.rd_at (i := 1) rfl) (g2_0.mono hS.own.sub) (hS.blk_at (i := 3) rfl) (hS.blk_at (i := 0) rfl) h36)) ?_
   rintro _ u34 a ⟨_, rfl, hC⟩ hE
   replace hS := hS.lent hC
   refine plc hE (.r 9 3 .nil) (fun a hE => ple hE (.al (t := 74) hS [.bool false, .int .i64 0, .slice none 0 0, .slice none 0 0]) ?_)
   rintro _ u38 a ⟨b37, rfl, hb37, hS, hg⟩ hE
   refine ple hE (.sto hS [.bool (!t35), .int .i64 0, .slice none 0 0, .slice none 0 0]) ?_
   rintro _ u39 a ⟨rfl, hb37, hS, hz⟩ hE
   refine pld ?_
   replace hS := hS.front 2 rfl
   replace hS := hS.front 1 rfl
   replace hS := hS.front 5 rfl
   replace hS := hS.front 5 rfl
   replace hS := hS.front 5 rfl
   replace hS := hS.front 5 rfl
   exact J48 _ (by omega) _ b37 (!t35) _ _ hE .of hS H
  ·
   replace hE := hE.kf 35 c33
   refine plc hE (.r 6 6 .nil) (fun a hE => ple hE (.al (t := 74) hS [.bool false, .int .i64 0, .slice none 0 0, .slice none 0 0]) ?_)
   rintro _ u41 a ⟨b40, rfl, hb40, hS, hg⟩ hE
   refine ple hE (.sto hS [.bool false, .int .i64 0, .slice none 0 0, .slice none 0 0]) ?_
   rintro _ u42 a ⟨rfl, hb40, hS, hz⟩ hE
   refine pld ?_
   replace hS := hS.front 2 rfl
   replace hS := hS.front 1 rfl
   replace hS := hS.front 5 rfl
   replace hS := hS.front 5 rfl
   replace hS := hS.front 5 rfl
   replace hS := hS.front 5 rfl
   exact J48 _ (by omega) _ b40 false _ _ hE .of hS H
 ·
  replace hE := hE.bfn 23 c13
  refine ct hE (sq fun K14 hK14 => pl0 (plc hE (.r 0 1 .nil) (fun a hE => ple hE (.sto hS [.bool false, .int .i64 0, .slice none 0 0, .slice none 0 0]) ?_)))
  rintro _ u15 a ⟨rfl, hb6, hS, hz⟩ hE
  refine plc hE (.r 2 1 .nil) (fun a hE => pld (hK14 _ _ (wp_ret (qCB ?_))))
  replace hS := hS.nilrow (Kn.int .i64) 3
  replace hS := hS.nilrow (Kn.int .i64) 3
  replace hS := hS.front 2 rfl
  replace hS := hS.tail
  replace hS := hS.front 2 rfl
  replace hS := hS.tail
  replace hS := hS.front 2 rfl
  replace hS := hS.tail
  replace hS := hS.front 1 rfl
  obtain rfl := si H
  exact retN hE rfl (of_decide_eq_true rfl) (.cell (by kernel_rfl) (qCH [.bool false, .int .i64 0, .slice none 0 0, .slice none 0 0] ag74 sz74 hb6 rfl) (.tmp (by kernel_rfl) .nil)) ⟨_, rfl, _, _, _, _, _, rfl, hS⟩
def qAO.l9 : Nat → List Int → List Int → Int → Option Bool
  | 0, _, _, _ => none
  | k + 1, x0_, x1_, x8 => if x8 < (x0_.length : Int) then (if 0 ≤ x8 ∧ x8 < (x0_.length : Int) then (if 0 ≤ x8 ∧ x8 < (x1_.length : Int) then (if (nth 0 x0_ x8) = (nth 0 x1_ x8) then (qAO.l9 k x0_ x1_ (w64 (x8 + 1))) else (some false)) else (none)) else (none)) else (some true)
theorem qAO.l9_s (k : Nat) (x0_ : List Int) (x1_ : List Int) (x8 : Int) : qAO.l9 (k + 1) x0_ x1_ x8 = (if x8 < (x0_.length : Int) then (if 0 ≤ x8 ∧ x8 < (x0_.length : Int) then (if 0 ≤ x8 ∧ x8 < (x1_.length : Int) then (if (nth 0 x0_ x8) = (nth 0 x1_ x8) then (qAO.l9 k x0_ x1_ (w64 (x8 + 1))) else (some false)) else (none)) else (none)) else (some true)) := by kernel_rfl
def qAO.f (k : Nat) (x0_ : List Int) (x1_ : List Int) : Option Bool := if (x0_.length : Int) = (x1_.length : Int) then (qAO.l9 k x0_ x1_ 0) else (some false)
def qAO.Post (W F : World) (r : Bool) (v : Value) (w' : World) : Prop := ∃ (F' : World), v = .bool r ∧ St W (mine W []) F w' F' []
theorem qAO.calls (k : Nat) (x0_ : List Int) (x1_ : List Int) (A0_0 : Option Addr) (c0_0 : Nat) (A1_0 : Option Addr) (c1_0 : Nat) (r : Bool) (W F : World) (hown : Sub F W) (g0_0 : Rd (Kn.int .i64) F A0_0 c0_0 x0_) (g1_0 : Rd (Kn.int .i64) F A1_0 c1_0 x1_) (H : qAO.f k x0_ x1_ = some r) :
    Calls Tryz.prog 21 #[.slice A0_0 x0_.length c0_0, .slice A1_0 x1_.length c1_0] W fun e w' => ∃ v, e = .returned v ∧ qAO.Post W F r v w' := by
 have hS := St.start (Own.nil hown)
 unfold qAO.f at H
 refine enter (n := 26) rfl rfl rfl (Nat.le_of_ble_eq_true rfl) (fun a hE => ?_)
 refine sq fun K1 hK1 => pl0 (plc hE (.r 0 1 .nil) (fun a hE => pld (hK1 _ _ (sq fun K2 hK2 => sq fun K3 hK3 => pl0 (plc hE (.r 0 5 .nil) (fun a hE => pld (hK3 _ _ ?_)))))))
 rcases sp H with ⟨c4, H⟩ | ⟨c4, H⟩
 ·
  replace hE := hE.ktn 10 c4
  refine cf hE (wp_skip (hK2 _ _ (sq fun K6 hK6 => sq fun K7 hK7 => pl0 (plc hE (.r 0 1 .nil) (fun a hE => pld (hK7 _ _ (wp_block ?_)))))))
  refine wp_loop_ghost (fun kq10 a w' => ∃ (G : Nat → Value) (x8 : Int), kq10 ≤ k ∧ Env 26 G a ∧ At G [(0, .slice A0_0 x0_.length c0_0), (1, .slice A1_0 x1_.length c1_0), (5, .int .i64 x8)] ∧ St W (mine W []) F w' F [] ∧  qAO.l9 kq10 x0_ x1_ x8 = some r) k ⟨_, 0, Nat.le_refl _, hE, .of, hS, H⟩ ?_
  rintro kq10 a u12 ⟨G, x8, hkq, hE, hA, hS, H⟩
  cases kq10 with
  | zero => cases (show none = some r from H)
  | succ k11 =>
   rw [qAO.l9_s] at H
   obtain ⟨J, hE⟩ := hE.at hA
   refine sq fun K13 hK13 => sq fun K14 hK14 => pl0 (plc hE (.r 0 4 .nil) (fun a hE => pld (hK14 _ _ ?_)))
   rcases sp H with ⟨c15, H⟩ | ⟨c15, H⟩
   ·
    replace hE := hE.kt 14 c15
    refine ct hE (wp_skip (hK13 _ _ (sq fun K16 hK16 => wp_block (sq fun K17 hK17 => ?_))))
    refine drawn 9 ⟨[], [], fun q => False⟩ mixed rfl (by kernel_rfl) (fun hst => ?_)
    replace hS := hS.drew
    obtain ⟨c18, H⟩ := gd H
    have hE_ := hE
    obtain ⟨ad19, rfl⟩ := g0_0.addr c18.1 c18.2
    replace hE := hE_
    obtain ⟨cs21, rfl, hc22⟩ := g0_0.el 0 x8 c18.1 c18.2
    obtain ⟨c23, H⟩ := gd H
    have hE_ := hE
    obtain ⟨ad24, rfl⟩ := g1_0.addr c23.1 c23.2
    replace hE := hE_
    obtain ⟨cs26, rfl, hc27⟩ := g1_0.el 0 x8 c23.1 c23.2
    refine mny 0 hst hE (.r 0 2 <| .x 2 c18 <| .c 3 (hS.fc hc22 0) <| .r 4 2 <| .x 6 c23 <| .c 7 (hS.fc hc27 0) <| .r 8 1 <| .nil) (fun a hE => ?_)
    refine dn ?_
    refine hK17 _ _ ?_
    rcases sp H with ⟨c28, H⟩ | ⟨c28, H⟩
    ·
     replace hE := hE.ktn 25 c28
     refine cf hE (wp_skip ?_)
     refine qCD ?_
     refine hK16 _ _ (pl0 (plc hE (.r 0 3 .nil) (fun a hE => pld ?_)))
     exact qCE ⟨k11, by omega, _, (w64 (x8 + 1)), by omega, hE, .of, hS, H⟩
    ·
     replace hE := hE.kfn 25 c28
     refine ct hE (sq fun K29 hK29 => pl0 (plc hE (.r 0 1 .nil) (fun a hE => pld (hK29 _ _ (wp_ret (qCC (qCB (qCB (qCC (qCB ?_))))))))))
     obtain rfl := si H
     exact rt1 hE ⟨_, rfl, _, rfl, hS⟩
   ·
    replace hE := hE.kf 14 c15
    refine cf hE ?_
    refine wp_exit ?_
    refine hK6 _ _ (sq fun K30 hK30 => pl0 (plc hE (.r 0 1 .nil) (fun a hE => pld (hK30 _ _ (wp_ret ?_)))))
    obtain rfl := si H
    exact rt1 hE ⟨_, rfl, _, rfl, hS⟩
 ·
  replace hE := hE.kfn 10 c4
  refine ct hE (sq fun K5 hK5 => pl0 (plc hE (.r 0 1 .nil) (fun a hE => pld (hK5 _ _ (wp_ret (qCB ?_))))))
  obtain rfl := si H
  exact rt1 hE ⟨_, rfl, _, rfl, hS⟩
def qAd.f (k : Nat) : Option Bool := (qBw.f k 2 1 1).bind fun t4 => ((qBH.f k t4.1 (⟨1, 5, 1, 1, 3, 0, []⟩ : qAm)).bind fun t24 => ((qBH.f k t24.1 (⟨3, 5, 0, 0, 0, 0, []⟩ : qAm)).bind fun t42 => ((qp.f k t42.1 0 []).bind fun t60 => ((qp.f k t42.1 0 [(⟨5, 0, 0, 0, 0⟩ : qI)]).bind fun t82 => (if t60.2 = 0 then (if t82.2 = 0 then (if t60.1.f0 = true then (some false) else ((qAO.f k t60.1.f2 [5]).bind fun t105 => (if t105 = true then (if t82.1.f0 = true then (some (t82.1.f1 == 5)) else (some false)) else (some false)))) else (some false)) else (some false))))))
def qAd.Post (W F : World) (r : Bool) (v : Value) (w' : World) : Prop := ∃ (F' : World), v = .bool r ∧ St W (mine W []) F w' F' []
theorem qAd.calls (k : Nat) (r : Bool) (W F : World) (hown : Sub F W) (H : qAd.f k = some r) :
    Calls Tryz.prog 49 #[] W fun e w' => ∃ v, e = .returned v ∧ qAd.Post W F r v w' := by
 have hS := St.start (Own.nil hown)
 unfold qAd.f at H
 refine enter (n := 61) rfl rfl rfl (Nat.le_of_ble_eq_true rfl) (fun a hE => ?_)
 refine sq fun K1 hK1 => pl0 (plc hE (.r 0 1 .nil) (fun a hE => pld (hK1 _ _ (sq fun K2 hK2 => pl0 ?_))))
 obtain ⟨t4, h5, H⟩ := bd H
 refine ple hE (.cl en15 (qBw.calls k 2 1 1 _ _ _ hS.own.sub h5)) ?_
 rintro _ u3 a ⟨F6, A7, c8, A10, c11, A13, c14, rfl, hC, g9, g12⟩ hE
 have hs := hC.sub
 replace hS := hS.called (X := []) hC
 refine plc hE (.r 1 3 .nil) (fun a hE => ple hE (.al (t := 26) hS [.int .i64 0, .int .i64 0, .int .i64 0, .int .i64 0, .slice none 0 0, .slice none 0 0, .slice none 0 0]) ?_)
 rintro _ u18 a ⟨b17, rfl, hb17, hS, hg⟩ hE
 refine ple hE (.sto hS [.int .i64 t4.1.f0, .int .i64 t4.1.f1, .int .i64 t4.1.f2, .int .i64 t4.1.f3, .slice A7 t4.1.f4.length c8, .slice A10 t4.1.f5.length c11, .slice A13 t4.1.f6.length c14]) ?_
 rintro _ u19 a ⟨rfl, hb17, hS, hz⟩ hE
 refine plc hE (.r 6 1 .nil) (fun a hE => pld (hK2 _ _ (sq fun K20 hK20 => pl0 (plc hE (.bn 0 0 7 hb17 <| .r 1 1 <| .nil) (fun a hE => ?_)))))
 replace hS := hS.front 1 rfl
 obtain ⟨F21, hs, g22, hS⟩ := hS.give
 replace g9 := g9.mono hs
 replace g12 := g12.mono hs
 obtain ⟨t24, h25, H⟩ := bd H
 refine ple hE (.cl en26 (qBH.calls k t4.1 (⟨1, 5, 1, 1, 3, 0, []⟩ : qAm) _ _ _ _ _ _ _ _ _ _ _ hS.own.sub g9 g12 g22 (Rd.nil _ _) h25)) ?_
 rintro _ u23 a ⟨F26, A27, c28, A30, c31, A33, c34, rfl, hC, g29, g32⟩ hE
 have hs := hC.sub
 replace hS := hS.called (X := []) hC
 replace g9 := g9.mono hs
 replace g12 := g12.mono hs
 replace g22 := g22.mono hs
 refine plc hE (.r 3 3 .nil) (fun a hE => ?_)
 replace hS := hS.front 1 rfl
 refine ple hE (.sto hS [.int .i64 t24.1.f0, .int .i64 t24.1.f1, .int .i64 t24.1.f2, .int .i64 t24.1.f3, .slice A27 t24.1.f4.length c28, .slice A30 t24.1.f5.length c31, .slice A33 t24.1.f6.length c34]) ?_
 rintro _ u37 a ⟨rfl, hb17, hS, hz⟩ hE
 refine pld (hK20 _ _ (sq fun K38 hK38 => pl0 (plc hE (.bn 0 0 7 hb17 <| .r 1 1 <| .nil) (fun a hE => ?_))))
 replace hS := hS.front 1 rfl
 obtain ⟨F39, hs, g40, hS⟩ := hS.give
 replace g9 := g9.mono hs
 replace g12 := g12.mono hs
 replace g22 := g22.mono hs
 replace g29 := g29.mono hs
 replace g32 := g32.mono hs
 obtain ⟨t42, h43, H⟩ := bd H
 refine ple hE (.cl en26 (qBH.calls k t24.1 (⟨3, 5, 0, 0, 0, 0, []⟩ : qAm) _ _ _ _ _ _ _ _ _ _ _ hS.own.sub g29 g32 g40 (Rd.nil _ _) h43)) ?_
 rintro _ u41 a ⟨F44, A45, c46, A48, c49, A51, c52, rfl, hC, g47, g50⟩ hE
 have hs := hC.sub
 replace hS := hS.called (X := []) hC
 replace g9 := g9.mono hs
 replace g12 := g12.mono hs
 replace g22 := g22.mono hs
 replace g29 := g29.mono hs
 replace g32 := g32.mono hs
 replace g40 := g40.mono hs
 refine plc hE (.r 3 3 .nil) (fun a hE => ?_)
 replace hS := hS.front 1 rfl
 refine ple hE (.sto hS [.int .i64 t42.1.f0, .int .i64 t42.1.f1, .int .i64 t42.1.f2, .int .i64 t42.1.f3, .slice A45 t42.1.f4.length c46, .slice A48 t42.1.f5.length c49, .slice A51 t42.1.f6.length c52]) ?_
 rintro _ u55 a ⟨rfl, hb17, hS, hz⟩ hE
 refine pld (hK38 _ _ (sq fun K56 hK56 => pl0 (plc hE (.bn 0 0 7 hb17 .nil) (fun a hE => ?_))))
 replace hS := hS.front 1 rfl
 obtain ⟨F57, hs, g58, hS⟩ := hS.give
 replace g9 := g9.mono hs
 replace g12 := g12.mono hs
 replace g22 := g22.mono hs
 replace g29 := g29.mono hs
 replace g32 := g32.mono hs
 replace g40 := g40.mono hs
 replace g47 := g47.mono hs
 replace g50 := g50.mono hs
 obtain ⟨t60, h61, H⟩ := bd H
 refine ple hE (.cl en50 (qp.calls k t42.1 0 [] _ _ _ _ _ _ _ _ _ _ _ hS.own.sub g47 g50 g58 (Rd.nil _ _) h61)) ?_
 rintro _ u59 a ⟨F62, A63, c64, A67, c68, rfl, hC⟩ hE
 have hs := hC.sub
 replace hS := hS.called (X := []) hC
 replace g9 := g9.mono hs
 replace g12 := g12.mono hs
 replace g22 := g22.mono hs
 replace g29 := g29.mono hs
 replace g32 := g32.mono hs
 replace g40 := g40.mono hs
 replace g47 := g47.mono hs
 replace g50 := g50.mono hs
 replace g58 := g58.mono hs
 refine plc hE (.r 2 3 .nil) (fun a hE => ple hE (.al (t := 74) hS [.bool false, .int .i64 0, .slice none 0 0, .slice none 0 0]) ?_)
 rintro _ u72 a ⟨b71, rfl, hb71, hS, hg⟩ hE
 refine ple hE (.sto hS [.bool t60.1.f0, .int .i64 t60.1.f1, .slice A63 t60.1.f2.length c64, .slice A67 t60.1.f3.length c68]) ?_
 rintro _ u73 a ⟨rfl, hb71, hS, hz⟩ hE
 refine plc hE (.r 7 1 .nil) (fun a hE => pld (hK56 _ _ (sq fun K74 hK74 => pl0 ?_)))
 have hb17 := hS.blk_at (i := 3) rfl
 refine plc hE (.bn 0 0 7 hb17 <| .r 1 1 <| .nil) (fun a hE => ple hE (.lit (d := qI.k) (e := 86) hS [(⟨5, 0, 0, 0, 0⟩ : qI)] (.cons rfl .nil)) ?_)
 rintro _ u75 a ⟨A76, c77, rfl, hS, hg⟩ hE
 obtain ⟨F79, hs, g80, hS⟩ := hS.give
 replace g9 := g9.mono hs
 replace g12 := g12.mono hs
 replace g22 := g22.mono hs
 replace g29 := g29.mono hs
 replace g32 := g32.mono hs
 replace g40 := g40.mono hs
 replace g47 := g47.mono hs
 replace g50 := g50.mono hs
 replace g58 := g58.mono hs
 obtain ⟨t82, h83, H⟩ := bd H
 refine ple hE (.cl en50 (qp.calls k t42.1 0 [(⟨5, 0, 0, 0, 0⟩ : qI)] _ _ _ _ _ _ _ _ _ _ _ hS.own.sub g47 g50 g58 g80 h83)) ?_
 rintro _ u81 a ⟨F84, A85, c86, A89, c90, rfl, hC⟩ hE
 have hs := hC.sub
 replace hS := hS.called (X := []) hC
 replace g9 := g9.mono hs
 replace g12 := g12.mono hs
 replace g22 := g22.mono hs
 replace g29 := g29.mono hs
 replace g32 := g32.mono hs
 replace g40 := g40.mono hs
 replace g47 := g47.mono hs
 replace g50 := g50.mono hs
 replace g58 := g58.mono hs
 replace g80 := g80.mono hs
 refine plc hE (.r 4 3 .nil) (fun a hE => ple hE (.al (t := 74) hS [.bool false, .int .i64 0, .slice none 0 0, .slice none 0 0]) ?_)
 rintro _ u94 a ⟨b93, rfl, hb93, hS, hg⟩ hE
 refine ple hE (.sto hS [.bool t82.1.f0, .int .i64 t82.1.f1, .slice A85 t82.1.f2.length c86, .slice A89 t82.1.f3.length c90]) ?_
 rintro _ u95 a ⟨rfl, hb93, hS, hz⟩ hE
 refine plc hE (.r 9 1 .nil) (fun a hE => pld (hK74 _ _ (sq fun K96 hK96 => pl0 (plc hE (.r 0 3 .nil) (fun a hE => ?_)))))
 rcases sp H with ⟨c97, H⟩ | ⟨c97, H⟩
 ·
  replace hE := hE.kt 37 c97
  refine plc hE (.r 3 4 .nil) (fun a hE => ?_)
  rcases sp H with ⟨c98, H⟩ | ⟨c98, H⟩
  ·
   replace hE := hE.kt 41 c98
   have hb71 := hS.blk_at (i := 3) rfl
   refine plc hE (.r 7 1 <| .b 8 0 hb71 <| .r 9 3 <| .nil) (fun a hE => ?_)
   rcases sp H with ⟨c99, H⟩ | ⟨c99, H⟩
   ·
    replace hE := hE.btn 46 c99
    refine plc hE (.r 12 15 .nil) (fun a hE => pld (hK96 _ _ (wp_ret ?_)))
    replace hS := hS.tail
    replace hS := hS.tail
    replace hS := hS.tail
    replace hS := hS.tail
    replace hS := hS.tail
    replace hS := hS.tail
    replace hS := hS.tail
    obtain rfl := si H
    exact rt1 hE ⟨_, rfl, _, rfl, hS⟩
   ·
    replace hE := hE.bfn 46 c99
    refine plc hE (.r 12 1 <| .b 13 2 hb71 <| .nil) (fun a hE => ple hE (.lit (d := (Kn.int .i64)) (e := 3) hS [5] (.cons rfl .nil)) ?_)
    rintro _ u100 a ⟨A101, c102, rfl, hS, hg⟩ hE
    obtain ⟨t105, h106, H⟩ := bd H
    refine ple hE (.cl en21 (qAO.calls k t60.1.f2 [5] _ _ _ _ _ _ _ (Sub.refl _) (hS.rd_at (i := 5) rfl) (hS.rd_at (i := 0) rfl) h106)) ?_
    rintro _ u104 a ⟨_, rfl, hC⟩ hE
    replace hS := hS.lent hC
    refine plc hE (.r 16 2 .nil) (fun a hE => ?_)
    rcases sp H with ⟨c107, H⟩ | ⟨c107, H⟩
    ·
     replace hE := hE.bt 52 c107
     have hb93 := hS.blk_at (i := 1) rfl
     refine plc hE (.r 18 1 <| .b 19 0 hb93 <| .r 20 2 <| .nil) (fun a hE => ?_)
     rcases sp H with ⟨c108, H⟩ | ⟨c108, H⟩
     ·
      replace hE := hE.bt 56 c108
      refine plc hE (.r 22 1 <| .b 23 1 hb93 <| .r 24 3 <| .nil) (fun a hE => pld (hK96 _ _ (wp_ret ?_)))
      replace hS := hS.tail
      replace hS := hS.tail
      replace hS := hS.tail
      replace hS := hS.tail
      replace hS := hS.tail
      replace hS := hS.tail
      replace hS := hS.tail
      replace hS := hS.tail
      obtain rfl := si H
      exact rt1 hE ⟨_, rfl, _, rfl, hS⟩
     ·
      replace hE := hE.bf 56 c108
      refine plc hE (.r 22 5 .nil) (fun a hE => pld (hK96 _ _ (wp_ret ?_)))
      replace hS := hS.tail
      replace hS := hS.tail
      replace hS := hS.tail
      replace hS := hS.tail
      replace hS := hS.tail
      replace hS := hS.tail
      replace hS := hS.tail
      replace hS := hS.tail
      obtain rfl := si H
      exact rt1 hE ⟨_, rfl, _, rfl, hS⟩
    ·
     replace hE := hE.bf 52 c107
     refine plc hE (.r 18 9 .nil) (fun a hE => pld (hK96 _ _ (wp_ret ?_)))
     replace hS := hS.tail
     replace hS := hS.tail
     replace hS := hS.tail
     replace hS := hS.tail
     replace hS := hS.tail
     replace hS := hS.tail
     replace hS := hS.tail
     replace hS := hS.tail
     obtain rfl := si H
     exact rt1 hE ⟨_, rfl, _, rfl, hS⟩
  ·
   replace hE := hE.kf 41 c98
   refine plc hE (.r 7 20 .nil) (fun a hE => pld (hK96 _ _ (wp_ret ?_)))
   replace hS := hS.tail
   replace hS := hS.tail
   replace hS := hS.tail
   replace hS := hS.tail
   replace hS := hS.tail
   replace hS := hS.tail
   replace hS := hS.tail
   obtain rfl := si H
   exact rt1 hE ⟨_, rfl, _, rfl, hS⟩
 ·
  replace hE := hE.kf 37 c97
  refine plc hE (.r 3 24 .nil) (fun a hE => pld (hK96 _ _ (wp_ret ?_)))
  replace hS := hS.tail
  replace hS := hS.tail
  replace hS := hS.tail
  replace hS := hS.tail
  replace hS := hS.tail
  replace hS := hS.tail
  replace hS := hS.tail
  obtain rfl := si H
  exact rt1 hE ⟨_, rfl, _, rfl, hS⟩
mutual
def qg.l5 : Nat → List qA → Int → Option Bool
  | 0, _, _ => none
  | k + 1, x0_, x4 => if x4 < (x0_.length : Int) then (if 0 ≤ x4 ∧ x4 < (x0_.length : Int) then (if (nth qA.z x0_ x4).f0 < 1 then (qg.j37 k x0_ x4 true) else (if (nth qA.z x0_ x4).f0 > 999 then (qg.j37 k x0_ x4 true) else (if (nth qA.z x0_ x4).f1 < 1 then (qg.j37 k x0_ x4 true) else (if (nth qA.z x0_ x4).f1 > 9 then (qg.j37 k x0_ x4 true) else (if (nth qA.z x0_ x4).f2 < 1 then (qg.j37 k x0_ x4 true) else (if (nth qA.z x0_ x4).f2 > 9 then (qg.j37 k x0_ x4 true) else (if (nth qA.z x0_ x4).f3 < 0 then (qg.j37 k x0_ x4 true) else (if (nth qA.z x0_ x4).f3 > 65536 then (qg.j37 k x0_ x4 true) else (if x4 > 0 then (if 0 ≤ (w64 (x4 - 1)) ∧ (w64 (x4 - 1)) < (x0_.length : Int) then (qg.j37 k x0_ x4 (decide ((nth qA.z x0_ (w64 (x4 - 1))).f0 ≥ (nth qA.z x0_ x4).f0))) else (none)) else (qg.j37 k x0_ x4 false)))))))))) else (none)) else (some (decide ((x0_.length : Int) ≤ 12)))
def qg.j37 : Nat → List qA → Int → Bool → Option Bool
  | 0, _, _, _ => none
  | k + 1, x0_, x4, y36 => if y36 = true then (some false) else (qg.l5 k x0_ (w64 (x4 + 1)))
end
theorem qg.l5_s (k : Nat) (x0_ : List qA) (x4 : Int) : qg.l5 (k + 1) x0_ x4 = (if x4 < (x0_.length : Int) then (if 0 ≤ x4 ∧ x4 < (x0_.length : Int) then (if (nth qA.z x0_ x4).f0 < 1 then (qg.j37 k x0_ x4 true) else (if (nth qA.z x0_ x4).f0 > 999 then (qg.j37 k x0_ x4 true) else (if (nth qA.z x0_ x4).f1 < 1 then (qg.j37 k x0_ x4 true) else (if (nth qA.z x0_ x4).f1 > 9 then (qg.j37 k x0_ x4 true) else (if (nth qA.z x0_ x4).f2 < 1 then (qg.j37 k x0_ x4 true) else (if (nth qA.z x0_ x4).f2 > 9 then (qg.j37 k x0_ x4 true) else (if (nth qA.z x0_ x4).f3 < 0 then (qg.j37 k x0_ x4 true) else (if (nth qA.z x0_ x4).f3 > 65536 then (qg.j37 k x0_ x4 true) else (if x4 > 0 then (if 0 ≤ (w64 (x4 - 1)) ∧ (w64 (x4 - 1)) < (x0_.length : Int) then (qg.j37 k x0_ x4 (decide ((nth qA.z x0_ (w64 (x4 - 1))).f0 ≥ (nth qA.z x0_ x4).f0))) else (none)) else (qg.j37 k x0_ x4 false)))))))))) else (none)) else (some (decide ((x0_.length : Int) ≤ 12)))) := by kernel_rfl
theorem qg.j37_s (k : Nat) (x0_ : List qA) (x4 : Int) (y36 : Bool) : qg.j37 (k + 1) x0_ x4 y36 = (if y36 = true then (some false) else (qg.l5 k x0_ (w64 (x4 + 1)))) := by kernel_rfl
def qg.f (k : Nat) (x0_ : List qA) : Option Bool := qg.l5 k x0_ 0
def qg.Post (W F : World) (r : Bool) (v : Value) (w' : World) : Prop := ∃ (F' : World), v = .bool r ∧ St W (mine W []) F w' F' []
theorem qg.calls (k : Nat) (x0_ : List qA) (A0_0 : Option Addr) (c0_0 : Nat) (r : Bool) (W F : World) (hown : Sub F W) (g0_0 : Rd qA.k F A0_0 c0_0 x0_) (H : qg.f k x0_ = some r) :
    Calls Tryz.prog 67 #[.slice A0_0 x0_.length c0_0] W fun e w' => ∃ v, e = .returned v ∧ qg.Post W F r v w' := by
 have hS := St.start (Own.nil hown)
 unfold qg.f at H
 refine enter (n := 71) rfl rfl rfl (Nat.le_of_ble_eq_true rfl) (fun a hE => ?_)
 refine sq fun K1 hK1 => pl0 (plc hE (.r 0 1 .nil) (fun a hE => pld (hK1 _ _ (sq fun K2 hK2 => sq fun K3 hK3 => pl0 (plc hE (.r 0 1 .nil) (fun a hE => pld (hK3 _ _ (wp_block ?_))))))))
 refine wp_loop_ghost (fun kq6 a w' => ∃ (G : Nat → Value) (x4 : Int), kq6 ≤ k ∧ Env 71 G a ∧ At G [(0, .slice A0_0 x0_.length c0_0), (3, .int .i64 x4)] ∧ St W (mine W []) F w' F [] ∧  qg.l5 kq6 x0_ x4 = some r) k ⟨_, 0, Nat.le_refl _, hE, .of, hS, H⟩ ?_
 rintro kq6 a u8 ⟨G, x4, hkq, hE, hA, hS, H⟩
 cases kq6 with
 | zero => cases (show none = some r from H)
 | succ k7 =>
  rw [qg.l5_s] at H
  obtain ⟨J, hE⟩ := hE.at hA
  refine sq fun K9 hK9 => sq fun K10 hK10 => pl0 (plc hE (.r 0 4 .nil) (fun a hE => pld (hK10 _ _ ?_)))
  rcases sp H with ⟨c11, H⟩ | ⟨c11, H⟩
  ·
   replace hE := hE.kt 8 c11
   refine ct hE (wp_skip (hK9 _ _ (sq fun K12 hK12 => wp_block (sq fun K13 hK13 => pl0 ?_))))
   obtain ⟨c14, H⟩ := gd H
   have hE_ := hE
   obtain ⟨ad15, rfl⟩ := g0_0.addr c14.1 c14.2
   replace hE := hE_
   obtain ⟨cs17, rfl, hc18⟩ := g0_0.el qA.z x4 c14.1 c14.2
   refine plc hE (.r 0 2 <| .x 2 c14 <| .cs 3 (hS.fcs hc18) <| .nil) (fun a hE => ple hE (.al (t := 104) hS [.int .i64 0, .int .i64 0, .int .i64 0, .int .i64 0, .bool false, .bool false]) ?_)
   rintro _ u20 a ⟨b19, rfl, hb19, hS, hg⟩ hE
   refine ple hE (.sto hS [.int .i64 ((nth qA.z x0_ x4).f0), .int .i64 ((nth qA.z x0_ x4).f1), .int .i64 ((nth qA.z x0_ x4).f2), .int .i64 ((nth qA.z x0_ x4).f3), .bool ((nth qA.z x0_ x4).f4), .bool ((nth qA.z x0_ x4).f5)]) ?_
   rintro _ u21 a ⟨rfl, hb19, hS, hz⟩ hE
   refine pld (hK13 _ _ (sq fun K22 hK22 => ?_))
   have J40 : ∀ kq38, kq38 ≤ k7 → ∀ (G : Nat → Value) (y36 : Bool) (a : Act) (w' : World), Env 71 G a → At G [(0, .slice (some ad15) x0_.length c0_0), (3, .int .i64 x4), (67, .bool y36)] → St W (mine W []) F w' F [box b19 #[.int .i64 ((nth qA.z x0_ x4).f0), .int .i64 ((nth qA.z x0_ x4).f1), .int .i64 ((nth qA.z x0_ x4).f2), .int .i64 ((nth qA.z x0_ x4).f3), .bool ((nth qA.z x0_ x4).f4), .bool ((nth qA.z x0_ x4).f5)] 104] → qg.j37 kq38 x0_ x4 y36 = some r → K22 a w' := by
    intro kq38 hkq G y36 a u41 hE hA hS H
    cases kq38 with
    | zero => cases (show none = some r from H)
    | succ k39 =>
     rw [qg.j37_s] at H
     obtain ⟨J, hE⟩ := hE.at hA
     refine hK22 _ _ ?_
     rcases sp H with ⟨c42, H⟩ | ⟨c42, H⟩
     ·
      replace hE := hE.bt 67 c42
      refine ct hE (sq fun K43 hK43 => pl0 (plc hE (.r 0 1 .nil) (fun a hE => pld (hK43 _ _ (wp_ret (qCC (qCB (qCB (qCC (qCB ?_))))))))))
      replace hS := hS.tail
      obtain rfl := si H
      exact rt1 hE ⟨_, rfl, _, rfl, hS⟩
     ·
      replace hE := hE.bf 67 c42
      refine cf hE (wp_skip ?_)
      refine qCD ?_
      refine hK12 _ _ (pl0 (plc hE (.r 0 3 .nil) (fun a hE => pld ?_)))
      replace hS := hS.tail
      exact qCE ⟨k39, by omega, _, (w64 (x4 + 1)), by omega, hE, .of, hS, H⟩
   refine drawn 53 ⟨[], [], fun q => False⟩ mixed rfl (by kernel_rfl) (fun hst => ?_)
   replace hS := hS.drew
   have hb19 := hS.blk_at (i := 0) rfl
   refine mny 49 hst hE (.r 0 1 <| .b 1 0 hb19 <| .r 2 2 <| .nil) (fun a hE => ?_)
   rcases sp H with ⟨c23, H⟩ | ⟨c23, H⟩
   ·
    replace hE := hE.kt 18 c23
    refine mny 0 hst hE (.r 4 49 .nil) (fun a hE => ?_)
    refine dn ?_
    exact J40 _ (by omega) _ true _ _ hE .of hS H
   ·
    replace hE := hE.kf 18 c23
    refine mny 44 hst hE (.r 4 1 <| .b 5 0 hb19 <| .r 6 3 <| .nil) (fun a hE => ?_)
    rcases sp H with ⟨c24, H⟩ | ⟨c24, H⟩
    ·
     replace hE := hE.kt 23 c24
     refine mny 0 hst hE (.r 9 44 .nil) (fun a hE => ?_)
     refine dn ?_
     exact J40 _ (by omega) _ true _ _ hE .of hS H
    ·
     replace hE := hE.kf 23 c24
     refine mny 39 hst hE (.r 9 1 <| .b 10 1 hb19 <| .r 11 3 <| .nil) (fun a hE => ?_)
     rcases sp H with ⟨c25, H⟩ | ⟨c25, H⟩
     ·
      replace hE := hE.kt 28 c25
      refine mny 0 hst hE (.r 14 39 .nil) (fun a hE => ?_)
      refine dn ?_
      exact J40 _ (by omega) _ true _ _ hE .of hS H
     ·
      replace hE := hE.kf 28 c25
      refine mny 34 hst hE (.r 14 1 <| .b 15 1 hb19 <| .r 16 3 <| .nil) (fun a hE => ?_)
      rcases sp H with ⟨c26, H⟩ | ⟨c26, H⟩
      ·
       replace hE := hE.kt 33 c26
       refine mny 0 hst hE (.r 19 34 .nil) (fun a hE => ?_)
       refine dn ?_
       exact J40 _ (by omega) _ true _ _ hE .of hS H
      ·
       replace hE := hE.kf 33 c26
       refine mny 29 hst hE (.r 19 1 <| .b 20 2 hb19 <| .r 21 3 <| .nil) (fun a hE => ?_)
       rcases sp H with ⟨c27, H⟩ | ⟨c27, H⟩
       ·
        replace hE := hE.kt 38 c27
        refine mny 0 hst hE (.r 24 29 .nil) (fun a hE => ?_)
        refine dn ?_
        exact J40 _ (by omega) _ true _ _ hE .of hS H
       ·
        replace hE := hE.kf 38 c27
        refine mny 24 hst hE (.r 24 1 <| .b 25 2 hb19 <| .r 26 3 <| .nil) (fun a hE => ?_)
        rcases sp H with ⟨c28, H⟩ | ⟨c28, H⟩
        ·
         replace hE := hE.kt 43 c28
         refine mny 0 hst hE (.r 29 24 .nil) (fun a hE => ?_)
         refine dn ?_
         exact J40 _ (by omega) _ true _ _ hE .of hS H
        ·
         replace hE := hE.kf 43 c28
         refine mny 19 hst hE (.r 29 1 <| .b 30 3 hb19 <| .r 31 3 <| .nil) (fun a hE => ?_)
         rcases sp H with ⟨c29, H⟩ | ⟨c29, H⟩
         ·
          replace hE := hE.kt 48 c29
          refine mny 0 hst hE (.r 34 19 .nil) (fun a hE => ?_)
          refine dn ?_
          exact J40 _ (by omega) _ true _ _ hE .of hS H
         ·
          replace hE := hE.kf 48 c29
          refine mny 14 hst hE (.r 34 1 <| .b 35 3 hb19 <| .r 36 3 <| .nil) (fun a hE => ?_)
          rcases sp H with ⟨c30, H⟩ | ⟨c30, H⟩
          ·
           replace hE := hE.kt 53 c30
           refine mny 0 hst hE (.r 39 14 .nil) (fun a hE => ?_)
           refine dn ?_
           exact J40 _ (by omega) _ true _ _ hE .of hS H
          ·
           replace hE := hE.kf 53 c30
           refine mny 11 hst hE (.r 39 3 .nil) (fun a hE => ?_)
           rcases sp H with ⟨c31, H⟩ | ⟨c31, H⟩
           ·
            replace hE := hE.kt 56 c31
            obtain ⟨c32, H⟩ := gd H
            obtain ⟨cs34, rfl, hc35⟩ := g0_0.el qA.z (w64 (x4 - 1)) c32.1 c32.2
            refine mny 0 hst hE (.r 42 3 <| .x 45 c32 <| .r 46 1 <| .c 47 (hS.fc hc35 0) <| .r 48 1 <| .b 49 0 hb19 <| .r 50 3 <| .nil) (fun a hE => ?_)
            refine dn ?_
            exact J40 _ (by omega) _ (decide ((nth qA.z x0_ (w64 (x4 - 1))).f0 ≥ (nth qA.z x0_ x4).f0)) _ _ hE .of hS H
           ·
            replace hE := hE.kf 56 c31
            refine mny 0 hst hE (.r 42 11 .nil) (fun a hE => ?_)
            refine dn ?_
            exact J40 _ (by omega) _ false _ _ hE .of hS H
  ·
   replace hE := hE.kf 8 c11
   refine cf hE ?_
   refine wp_exit ?_
   refine hK2 _ _ (sq fun K44 hK44 => pl0 (plc hE (.r 0 4 .nil) (fun a hE => pld (hK44 _ _ (wp_ret ?_)))))
   obtain rfl := si H
   exact rt1 hE ⟨_, rfl, _, rfl, hS⟩
def qy.l7 : Nat → List qA → Int → Int → Option (qA × Bool)
  | 0, _, _, _ => none
  | k + 1, x0_, x1_, x6 => if x6 < (x0_.length : Int) then (if 0 ≤ x6 ∧ x6 < (x0_.length : Int) then (if (nth qA.z x0_ x6).f0 = x1_ then (some ((⟨(nth qA.z x0_ x6).f0, (nth qA.z x0_ x6).f1, (nth qA.z x0_ x6).f2, (nth qA.z x0_ x6).f3, (nth qA.z x0_ x6).f4, (nth qA.z x0_ x6).f5⟩ : qA), true)) else (qy.l7 k x0_ x1_ (w64 (x6 + 1)))) else (none)) else (some ((⟨0, 0, 0, 0, false, false⟩ : qA), false))
theorem qy.l7_s (k : Nat) (x0_ : List qA) (x1_ : Int) (x6 : Int) : qy.l7 (k + 1) x0_ x1_ x6 = (if x6 < (x0_.length : Int) then (if 0 ≤ x6 ∧ x6 < (x0_.length : Int) then (if (nth qA.z x0_ x6).f0 = x1_ then (some ((⟨(nth qA.z x0_ x6).f0, (nth qA.z x0_ x6).f1, (nth qA.z x0_ x6).f2, (nth qA.z x0_ x6).f3, (nth qA.z x0_ x6).f4, (nth qA.z x0_ x6).f5⟩ : qA), true)) else (qy.l7 k x0_ x1_ (w64 (x6 + 1)))) else (none)) else (some ((⟨0, 0, 0, 0, false, false⟩ : qA), false))) := by kernel_rfl
def qy.f (k : Nat) (x0_ : List qA) (x1_ : Int) : Option (qA × Bool) := qy.l7 k x0_ x1_ 0
def qy.Post (W F : World) (r : qA × Bool) (v : Value) (w' : World) : Prop := ∃ (F' : World), v = .tuple #[.agg #[.int .i64 r.1.f0, .int .i64 r.1.f1, .int .i64 r.1.f2, .int .i64 r.1.f3, .bool r.1.f4, .bool r.1.f5], .bool r.2] ∧ St W (mine W []) F w' F' []
theorem qy.calls (k : Nat) (x0_ : List qA) (x1_ : Int) (A0_0 : Option Addr) (c0_0 : Nat) (r : qA × Bool) (W F : World) (hown : Sub F W) (g0_0 : Rd qA.k F A0_0 c0_0 x0_) (H : qy.f k x0_ x1_ = some r) :
    Calls Tryz.prog 75 #[.slice A0_0 x0_.length c0_0, .int .i64 x1_] W fun e w' => ∃ v, e = .returned v ∧ qy.Post W F r v w' := by
 have hS := St.start (Own.nil hown)
 unfold qy.f at H
 refine enter (n := 25) rfl rfl rfl (Nat.le_of_ble_eq_true rfl) (fun a hE => ?_)
 refine sq fun K1 hK1 => pl0 (ple hE (.al (t := 104) hS [.int .i64 0, .int .i64 0, .int .i64 0, .int .i64 0, .bool false, .bool false]) ?_)
 rintro _ u3 a ⟨b2, rfl, hb2, hS, hg⟩ hE
 refine plc hE (.r 1 1 .nil) (fun a hE => pld (hK1 _ _ (sq fun K4 hK4 => sq fun K5 hK5 => pl0 (plc hE (.r 0 1 .nil) (fun a hE => pld (hK5 _ _ (wp_block ?_)))))))
 refine wp_loop_ghost (fun kq8 a w' => ∃ (G : Nat → Value) (x6 : Int), kq8 ≤ k ∧ Env 25 G a ∧ At G [(0, .slice A0_0 x0_.length c0_0), (1, .int .i64 x1_), (4, .pointer (some ⟨b2, 0, none⟩)), (6, .int .i64 x6)] ∧ St W (mine W []) F w' F [box b2 #[.int .i64 0, .int .i64 0, .int .i64 0, .int .i64 0, .bool false, .bool false] 104] ∧  qy.l7 kq8 x0_ x1_ x6 = some r) k ⟨_, 0, Nat.le_refl _, hE, .of, hS, H⟩ ?_
 rintro kq8 a u10 ⟨G, x6, hkq, hE, hA, hS, H⟩
 cases kq8 with
 | zero => cases (show none = some r from H)
 | succ k9 =>
  rw [qy.l7_s] at H
  obtain ⟨J, hE⟩ := hE.at hA
  refine sq fun K11 hK11 => sq fun K12 hK12 => pl0 (plc hE (.r 0 4 .nil) (fun a hE => pld (hK12 _ _ ?_)))
  rcases sp H with ⟨c13, H⟩ | ⟨c13, H⟩
  ·
   replace hE := hE.kt 10 c13
   refine ct hE (wp_skip (hK11 _ _ (sq fun K14 hK14 => wp_block (sq fun K15 hK15 => pl0 ?_))))
   obtain ⟨c16, H⟩ := gd H
   have hE_ := hE
   obtain ⟨ad17, rfl⟩ := g0_0.addr c16.1 c16.2
   replace hE := hE_
   obtain ⟨cs19, rfl, hc20⟩ := g0_0.el qA.z x6 c16.1 c16.2
   refine plc hE (.r 0 2 <| .x 2 c16 <| .r 3 1 <| .c 4 (hS.fc hc20 0) <| .r 5 2 <| .nil) (fun a hE => pld (hK15 _ _ ?_))
   rcases sp H with ⟨c21, H⟩ | ⟨c21, H⟩
   ·
    replace hE := hE.kt 19 c21
    refine ct hE (sq fun K22 hK22 => pl0 (plc hE (.r 0 2 <| .x 2 c16 <| .cs 3 (hS.fcs hc20) <| .nil) (fun a hE => ple hE (.sto hS [.int .i64 ((nth qA.z x0_ x6).f0), .int .i64 ((nth qA.z x0_ x6).f1), .int .i64 ((nth qA.z x0_ x6).f2), .int .i64 ((nth qA.z x0_ x6).f3), .bool ((nth qA.z x0_ x6).f4), .bool ((nth qA.z x0_ x6).f5)]) ?_)))
    rintro _ u26 a ⟨rfl, hb2, hS, hz⟩ hE
    refine plc hE (.r 5 1 .nil) (fun a hE => pld (hK22 _ _ (wp_ret (qCC (qCB (qCB (qCC (qCB ?_))))))))
    replace hS := hS.tail
    obtain rfl := si H
    exact retN hE rfl (of_decide_eq_true rfl) (.cell (by kernel_rfl) (qCH [.int .i64 ((nth qA.z x0_ x6).f0), .int .i64 ((nth qA.z x0_ x6).f1), .int .i64 ((nth qA.z x0_ x6).f2), .int .i64 ((nth qA.z x0_ x6).f3), .bool ((nth qA.z x0_ x6).f4), .bool ((nth qA.z x0_ x6).f5)] ag104 sz104 hb2 rfl) (.tmp (by kernel_rfl) .nil)) ⟨_, rfl, _, rfl, hS⟩
   ·
    replace hE := hE.kf 19 c21
    refine cf hE (wp_skip ?_)
    refine qCD ?_
    refine hK14 _ _ (pl0 (plc hE (.r 0 3 .nil) (fun a hE => pld ?_)))
    exact qCE ⟨k9, by omega, _, (w64 (x6 + 1)), by omega, hE, .of, hS, H⟩
  ·
   replace hE := hE.kf 10 c13
   refine cf hE ?_
   refine wp_exit ?_
   refine hK4 _ _ (sq fun K27 hK27 => pl0 (plc hE (.r 0 1 .nil) (fun a hE => ple hE (.sto hS [.int .i64 0, .int .i64 0, .int .i64 0, .int .i64 0, .bool false, .bool false]) ?_)))
   rintro _ u28 a ⟨rfl, hb2, hS, hz⟩ hE
   refine plc hE (.r 2 1 .nil) (fun a hE => pld (hK27 _ _ (wp_ret ?_)))
   replace hS := hS.tail
   obtain rfl := si H
   exact retN hE rfl (of_decide_eq_true rfl) (.cell (by kernel_rfl) (qCH [.int .i64 0, .int .i64 0, .int .i64 0, .int .i64 0, .bool false, .bool false] ag104 sz104 hb2 rfl) (.tmp (by kernel_rfl) .nil)) ⟨_, rfl, _, rfl, hS⟩
mutual
def qo.l5 : Nat → List qA → List Int → Int → Option Bool
  | 0, _, _, _ => none
  | k + 1, x0_, x1_, x4 => if x4 < (x1_.length : Int) then (if 0 ≤ x4 ∧ x4 < (x1_.length : Int) then ((qy.f k x0_ (nth 0 x1_ x4)).bind fun t20 => (if t20.2 = true then (qo.l31 k x0_ x1_ x4 t20 0) else (some false))) else (none)) else (some true)
def qo.l31 : Nat → List qA → List Int → Int → qA × Bool → Int → Option Bool
  | 0, _, _, _, _, _ => none
  | k + 1, x0_, x1_, x4, t20, x30 => if x30 < x4 then (if 0 ≤ x30 ∧ x30 < (x1_.length : Int) then ((qy.f k x0_ (nth 0 x1_ x30)).bind fun t45 => (if t20.1.f1 = t45.1.f1 then (some false) else (qo.l31 k x0_ x1_ x4 t20 (w64 (x30 + 1))))) else (none)) else (qo.l5 k x0_ x1_ (w64 (x4 + 1)))
end
theorem qo.l5_s (k : Nat) (x0_ : List qA) (x1_ : List Int) (x4 : Int) : qo.l5 (k + 1) x0_ x1_ x4 = (if x4 < (x1_.length : Int) then (if 0 ≤ x4 ∧ x4 < (x1_.length : Int) then ((qy.f k x0_ (nth 0 x1_ x4)).bind fun t20 => (if t20.2 = true then (qo.l31 k x0_ x1_ x4 t20 0) else (some false))) else (none)) else (some true)) := by kernel_rfl
theorem qo.l31_s (k : Nat) (x0_ : List qA) (x1_ : List Int) (x4 : Int) (t20 : qA × Bool) (x30 : Int) : qo.l31 (k + 1) x0_ x1_ x4 t20 x30 = (if x30 < x4 then (if 0 ≤ x30 ∧ x30 < (x1_.length : Int) then ((qy.f k x0_ (nth 0 x1_ x30)).bind fun t45 => (if t20.1.f1 = t45.1.f1 then (some false) else (qo.l31 k x0_ x1_ x4 t20 (w64 (x30 + 1))))) else (none)) else (qo.l5 k x0_ x1_ (w64 (x4 + 1)))) := by kernel_rfl
def qo.f (k : Nat) (x0_ : List qA) (x1_ : List Int) : Option Bool := qo.l5 k x0_ x1_ 0
def qo.Post (W F : World) (r : Bool) (v : Value) (w' : World) : Prop := ∃ (F' : World), v = .bool r ∧ St W (mine W []) F w' F' []
theorem qo.calls (k : Nat) (x0_ : List qA) (x1_ : List Int) (A0_0 : Option Addr) (c0_0 : Nat) (A1_0 : Option Addr) (c1_0 : Nat) (r : Bool) (W F : World) (hown : Sub F W) (g0_0 : Rd qA.k F A0_0 c0_0 x0_) (g1_0 : Rd (Kn.int .i64) F A1_0 c1_0 x1_) (H : qo.f k x0_ x1_ = some r) :
    Calls Tryz.prog 68 #[.slice A0_0 x0_.length c0_0, .slice A1_0 x1_.length c1_0] W fun e w' => ∃ v, e = .returned v ∧ qo.Post W F r v w' := by
 have hS := St.start (Own.nil hown)
 unfold qo.f at H
 refine enter (n := 47) rfl rfl rfl (Nat.le_of_ble_eq_true rfl) (fun a hE => ?_)
 refine sq fun K1 hK1 => pl0 (plc hE (.r 0 1 .nil) (fun a hE => pld (hK1 _ _ (sq fun K2 hK2 => sq fun K3 hK3 => pl0 (plc hE (.r 0 1 .nil) (fun a hE => pld (hK3 _ _ (wp_block ?_))))))))
 refine wp_loop_ghost (fun kq6 a w' => ∃ (G : Nat → Value) (x4 : Int), kq6 ≤ k ∧ Env 47 G a ∧ At G [(0, .slice A0_0 x0_.length c0_0), (1, .slice A1_0 x1_.length c1_0), (5, .int .i64 x4)] ∧ St W (mine W []) F w' F [] ∧  qo.l5 kq6 x0_ x1_ x4 = some r) k ⟨_, 0, Nat.le_refl _, hE, .of, hS, H⟩ ?_
 rintro kq6 a u8 ⟨G, x4, hkq, hE, hA, hS, H⟩
 cases kq6 with
 | zero => cases (show none = some r from H)
 | succ k7 =>
  rw [qo.l5_s] at H
  obtain ⟨J, hE⟩ := hE.at hA
  refine sq fun K9 hK9 => sq fun K10 hK10 => pl0 (plc hE (.r 0 4 .nil) (fun a hE => pld (hK10 _ _ ?_)))
  rcases sp H with ⟨c11, H⟩ | ⟨c11, H⟩
  ·
   replace hE := hE.kt 14 c11
   refine ct hE (wp_skip (hK9 _ _ (sq fun K12 hK12 => wp_block (sq fun K13 hK13 => pl0 ?_))))
   obtain ⟨c14, H⟩ := gd H
   have hE_ := hE
   obtain ⟨ad15, rfl⟩ := g1_0.addr c14.1 c14.2
   replace hE := hE_
   obtain ⟨cs17, rfl, hc18⟩ := g1_0.el 0 x4 c14.1 c14.2
   refine plc hE (.r 0 3 <| .x 3 c14 <| .c 4 (hS.fc hc18 0) <| .nil) (fun a hE => ?_)
   obtain ⟨t20, h21, H⟩ := bd H
   refine ple hE (.cl en75 (qy.calls k7 x0_ (nth 0 x1_ x4) _ _ _ _ _ hS.own.sub g0_0 h21)) ?_
   rintro _ u19 a ⟨_, rfl, hC⟩ hE
   replace hS := hS.lent hC
   refine plc hE (.r 6 3 .nil) (fun a hE => ple hE (.al (t := 104) hS [.int .i64 0, .int .i64 0, .int .i64 0, .int .i64 0, .bool false, .bool false]) ?_)
   rintro _ u23 a ⟨b22, rfl, hb22, hS, hg⟩ hE
   refine ple hE (.sto hS [.int .i64 t20.1.f0, .int .i64 t20.1.f1, .int .i64 t20.1.f2, .int .i64 t20.1.f3, .bool t20.1.f4, .bool t20.1.f5]) ?_
   rintro _ u24 a ⟨rfl, hb22, hS, hz⟩ hE
   refine plc hE (.r 11 1 .nil) (fun a hE => pld (hK13 _ _ (sq fun K25 hK25 => sq fun K26 hK26 => pl0 (plc hE (.r 0 2 .nil) (fun a hE => pld (hK26 _ _ ?_))))))
   rcases sp H with ⟨c27, H⟩ | ⟨c27, H⟩
   ·
    replace hE := hE.btn 27 c27
    refine cf hE (wp_skip (hK25 _ _ (sq fun K29 hK29 => pl0 (plc hE (.r 0 1 .nil) (fun a hE => pld (hK29 _ _ (wp_block ?_)))))))
    refine wp_loop_ghost (fun kq32 a w' => ∃ (G : Nat → Value) (x30 : Int), kq32 ≤ k7 ∧ Env 47 G a ∧ At G [(0, .slice A0_0 x0_.length c0_0), (1, .slice (some ad15) x1_.length c1_0), (5, .int .i64 x4), (6, .pointer (some ⟨b22, 0, none⟩)), (8, .int .i64 x30)] ∧ St W (mine W []) F w' F [box b22 #[.int .i64 t20.1.f0, .int .i64 t20.1.f1, .int .i64 t20.1.f2, .int .i64 t20.1.f3, .bool t20.1.f4, .bool t20.1.f5] 104] ∧  qo.l31 kq32 x0_ x1_ x4 t20 x30 = some r) k7 ⟨_, 0, Nat.le_refl _, hE, .of, hS, H⟩ ?_
    rintro kq32 a u34 ⟨G, x30, hkq, hE, hA, hS, H⟩
    cases kq32 with
    | zero => cases (show none = some r from H)
    | succ k33 =>
     rw [qo.l31_s] at H
     obtain ⟨J, hE⟩ := hE.at hA
     refine sq fun K35 hK35 => sq fun K36 hK36 => pl0 (plc hE (.r 0 3 .nil) (fun a hE => pld (hK36 _ _ ?_)))
     rcases sp H with ⟨c37, H⟩ | ⟨c37, H⟩
     ·
      replace hE := hE.kt 30 c37
      refine ct hE (wp_skip (hK35 _ _ (sq fun K38 hK38 => wp_block (sq fun K39 hK39 => pl0 ?_))))
      obtain ⟨c40, H⟩ := gd H
      obtain ⟨cs42, rfl, hc43⟩ := g1_0.el 0 x30 c40.1 c40.2
      refine plc hE (.r 0 3 <| .x 3 c40 <| .c 4 (hS.fc hc43 0) <| .nil) (fun a hE => ?_)
      obtain ⟨t45, h46, H⟩ := bd H
      refine ple hE (.cl en75 (qy.calls k33 x0_ (nth 0 x1_ x30) _ _ _ _ _ hS.own.sub g0_0 h46)) ?_
      rintro _ u44 a ⟨_, rfl, hC⟩ hE
      replace hS := hS.lent hC
      refine plc hE (.r 6 3 .nil) (fun a hE => ple hE (.al (t := 104) hS [.int .i64 0, .int .i64 0, .int .i64 0, .int .i64 0, .bool false, .bool false]) ?_)
      rintro _ u48 a ⟨b47, rfl, hb47, hS, hg⟩ hE
      refine ple hE (.sto hS [.int .i64 t45.1.f0, .int .i64 t45.1.f1, .int .i64 t45.1.f2, .int .i64 t45.1.f3, .bool t45.1.f4, .bool t45.1.f5]) ?_
      rintro _ u49 a ⟨rfl, hb47, hS, hz⟩ hE
      refine plc hE (.r 11 1 .nil) (fun a hE => pld (hK39 _ _ (sq fun K50 hK50 => pl0 ?_)))
      have hb22 := hS.blk_at (i := 1) rfl
      refine plc hE (.r 0 1 <| .b 1 1 hb22 <| .r 2 1 <| .b 3 1 hb47 <| .r 4 1 <| .nil) (fun a hE => pld (hK50 _ _ ?_))
      rcases sp H with ⟨c51, H⟩ | ⟨c51, H⟩
      ·
       replace hE := hE.kt 46 c51
       refine ct hE (sq fun K52 hK52 => pl0 (plc hE (.r 0 1 .nil) (fun a hE => pld (hK52 _ _ (wp_ret (qCC (qCB (qCB (qCC (qCC (qCB (qCB (qCC (qCB ?_))))))))))))))
       replace hS := hS.tail
       replace hS := hS.tail
       obtain rfl := si H
       exact rt1 hE ⟨_, rfl, _, rfl, hS⟩
      ·
       replace hE := hE.kf 46 c51
       refine cf hE (wp_skip ?_)
       refine qCD ?_
       refine hK38 _ _ (pl0 (plc hE (.r 0 3 .nil) (fun a hE => pld ?_)))
       replace hS := hS.tail
       exact qCE ⟨k33, by omega, _, (w64 (x30 + 1)), by omega, hE, .of, hS, H⟩
     ·
      replace hE := hE.kf 30 c37
      refine cf hE ?_
      refine wp_exit ?_
      refine hK12 _ _ (pl0 (plc hE (.r 0 3 .nil) (fun a hE => pld ?_)))
      replace hS := hS.tail
      exact qCE ⟨k33, by omega, _, (w64 (x4 + 1)), by omega, hE, .of, hS, H⟩
   ·
    replace hE := hE.bfn 27 c27
    refine ct hE (sq fun K28 hK28 => pl0 (plc hE (.r 0 1 .nil) (fun a hE => pld (hK28 _ _ (wp_ret (qCB (qCC (qCB (qCB (qCC (qCB ?_)))))))))))
    replace hS := hS.tail
    obtain rfl := si H
    exact rt1 hE ⟨_, rfl, _, rfl, hS⟩
  ·
   replace hE := hE.kf 14 c11
   refine cf hE ?_
   refine wp_exit ?_
   refine hK2 _ _ (sq fun K53 hK53 => pl0 (plc hE (.r 0 1 .nil) (fun a hE => pld (hK53 _ _ (wp_ret ?_)))))
   obtain rfl := si H
   exact rt1 hE ⟨_, rfl, _, rfl, hS⟩
mutual
def qG.l7 : Nat → qJ → Int → Option Bool
  | 0, _, _ => none
  | k + 1, x0_, x6 => if x6 < (x0_.f6.length : Int) then (if 0 ≤ x6 ∧ x6 < (x0_.f6.length : Int) then (if (nth qC.z x0_.f6 x6).f0 < 0 then (qG.j31 k x0_ x6 true) else (qG.j31 k x0_ x6 (decide ((nth qC.z x0_.f6 x6).f0 > x0_.f0)))) else (none)) else (some ((x0_.f6.length : Int) == x0_.f3))
def qG.j31 : Nat → qJ → Int → Bool → Option Bool
  | 0, _, _, _ => none
  | k + 1, x0_, x6, y30 => if y30 = true then (some false) else (qG.l40 k x0_ x6 0)
def qG.l40 : Nat → qJ → Int → Int → Option Bool
  | 0, _, _, _ => none
  | k + 1, x0_, x6, x39 => if x39 < (((nth qC.z x0_.f6 x6).f1).length : Int) then (if 0 ≤ x39 ∧ x39 < (((nth qC.z x0_.f6 x6).f1).length : Int) then (if (nth qD.z ((nth qC.z x0_.f6 x6).f1) x39).f0 < 0 then (qG.j66 k x0_ x6 x39 true) else (if (nth qD.z ((nth qC.z x0_.f6 x6).f1) x39).f0 ≥ (nth qC.z x0_.f6 x6).f0 then (qG.j66 k x0_ x6 x39 true) else (if (((nth qD.z ((nth qC.z x0_.f6 x6).f1) x39).f1).length : Int) < x0_.f2 then (qG.j66 k x0_ x6 x39 true) else (qG.j66 k x0_ x6 x39 (decide ((((nth qD.z ((nth qC.z x0_.f6 x6).f1) x39).f1).length : Int) > x0_.f1)))))) else (none)) else (qG.l7 k x0_ (w64 (x6 + 1)))
def qG.j66 : Nat → qJ → Int → Int → Bool → Option Bool
  | 0, _, _, _, _ => none
  | k + 1, x0_, x6, x39, y65 => if y65 = true then (some false) else (qG.l76 k x0_ x6 x39 0)
def qG.l76 : Nat → qJ → Int → Int → Int → Option Bool
  | 0, _, _, _, _ => none
  | k + 1, x0_, x6, x39, x75 => if x75 < (((nth qD.z ((nth qC.z x0_.f6 x6).f1) x39).f1).length : Int) then (if 0 ≤ x75 ∧ x75 < (((nth qD.z ((nth qC.z x0_.f6 x6).f1) x39).f1).length : Int) then (if (nth 0 ((nth qD.z ((nth qC.z x0_.f6 x6).f1) x39).f1) x75) < 1 then (qG.j104 k x0_ x6 x39 x75 true) else (if (nth 0 ((nth qD.z ((nth qC.z x0_.f6 x6).f1) x39).f1) x75) > 999 then (qG.j104 k x0_ x6 x39 x75 true) else (if x75 > 0 then (if 0 ≤ (w64 (x75 - 1)) ∧ (w64 (x75 - 1)) < (((nth qD.z ((nth qC.z x0_.f6 x6).f1) x39).f1).length : Int) then (qG.j104 k x0_ x6 x39 x75 (decide ((nth 0 ((nth qD.z ((nth qC.z x0_.f6 x6).f1) x39).f1) (w64 (x75 - 1))) ≥ (nth 0 ((nth qD.z ((nth qC.z x0_.f6 x6).f1) x39).f1) x75)))) else (none)) else (qG.j104 k x0_ x6 x39 x75 false)))) else (none)) else (qG.l113 k x0_ x6 x39 0)
def qG.j104 : Nat → qJ → Int → Int → Int → Bool → Option Bool
  | 0, _, _, _, _, _ => none
  | k + 1, x0_, x6, x39, x75, y103 => if y103 = true then (some false) else (qG.l76 k x0_ x6 x39 (w64 (x75 + 1)))
def qG.l113 : Nat → qJ → Int → Int → Int → Option Bool
  | 0, _, _, _, _ => none
  | k + 1, x0_, x6, x39, x112 => if x112 < x39 then (if 0 ≤ x112 ∧ x112 < (((nth qC.z x0_.f6 x6).f1).length : Int) then (if (nth qD.z ((nth qC.z x0_.f6 x6).f1) x112).f0 ≥ (nth qD.z ((nth qC.z x0_.f6 x6).f1) x39).f0 then (qG.j137 k x0_ x6 x39 x112 true) else ((qAO.f k ((nth qD.z ((nth qC.z x0_.f6 x6).f1) x112).f1) ((nth qD.z ((nth qC.z x0_.f6 x6).f1) x39).f1)).bind fun t134 => (qG.j137 k x0_ x6 x39 x112 t134))) else (none)) else (qG.l40 k x0_ x6 (w64 (x39 + 1)))
def qG.j137 : Nat → qJ → Int → Int → Int → Bool → Option Bool
  | 0, _, _, _, _, _ => none
  | k + 1, x0_, x6, x39, x112, y136 => if y136 = true then (some false) else (qG.l113 k x0_ x6 x39 (w64 (x112 + 1)))
end
theorem qG.l7_s (k : Nat) (x0_ : qJ) (x6 : Int) : qG.l7 (k + 1) x0_ x6 = (if x6 < (x0_.f6.length : Int) then (if 0 ≤ x6 ∧ x6 < (x0_.f6.length : Int) then (if (nth qC.z x0_.f6 x6).f0 < 0 then (qG.j31 k x0_ x6 true) else (qG.j31 k x0_ x6 (decide ((nth qC.z x0_.f6 x6).f0 > x0_.f0)))) else (none)) else (some ((x0_.f6.length : Int) == x0_.f3))) := by kernel_rfl
theorem qG.j31_s (k : Nat) (x0_ : qJ) (x6 : Int) (y30 : Bool) : qG.j31 (k + 1) x0_ x6 y30 = (if y30 = true then (some false) else (qG.l40 k x0_ x6 0)) := by kernel_rfl
theorem qG.l40_s (k : Nat) (x0_ : qJ) (x6 : Int) (x39 : Int) : qG.l40 (k + 1) x0_ x6 x39 = (if x39 < (((nth qC.z x0_.f6 x6).f1).length : Int) then (if 0 ≤ x39 ∧ x39 < (((nth qC.z x0_.f6 x6).f1).length : Int) then (if (nth qD.z ((nth qC.z x0_.f6 x6).f1) x39).f0 < 0 then (qG.j66 k x0_ x6 x39 true) else (if (nth qD.z ((nth qC.z x0_.f6 x6).f1) x39).f0 ≥ (nth qC.z x0_.f6 x6).f0 then (qG.j66 k x0_ x6 x39 true) else (if (((nth qD.z ((nth qC.z x0_.f6 x6).f1) x39).f1).length : Int) < x0_.f2 then (qG.j66 k x0_ x6 x39 true) else (qG.j66 k x0_ x6 x39 (decide ((((nth qD.z ((nth qC.z x0_.f6 x6).f1) x39).f1).length : Int) > x0_.f1)))))) else (none)) else (qG.l7 k x0_ (w64 (x6 + 1)))) := by kernel_rfl
theorem qG.j66_s (k : Nat) (x0_ : qJ) (x6 : Int) (x39 : Int) (y65 : Bool) : qG.j66 (k + 1) x0_ x6 x39 y65 = (if y65 = true then (some false) else (qG.l76 k x0_ x6 x39 0)) := by kernel_rfl
theorem qG.l76_s (k : Nat) (x0_ : qJ) (x6 : Int) (x39 : Int) (x75 : Int) : qG.l76 (k + 1) x0_ x6 x39 x75 = (if x75 < (((nth qD.z ((nth qC.z x0_.f6 x6).f1) x39).f1).length : Int) then (if 0 ≤ x75 ∧ x75 < (((nth qD.z ((nth qC.z x0_.f6 x6).f1) x39).f1).length : Int) then (if (nth 0 ((nth qD.z ((nth qC.z x0_.f6 x6).f1) x39).f1) x75) < 1 then (qG.j104 k x0_ x6 x39 x75 true) else (if (nth 0 ((nth qD.z ((nth qC.z x0_.f6 x6).f1) x39).f1) x75) > 999 then (qG.j104 k x0_ x6 x39 x75 true) else (if x75 > 0 then (if 0 ≤ (w64 (x75 - 1)) ∧ (w64 (x75 - 1)) < (((nth qD.z ((nth qC.z x0_.f6 x6).f1) x39).f1).length : Int) then (qG.j104 k x0_ x6 x39 x75 (decide ((nth 0 ((nth qD.z ((nth qC.z x0_.f6 x6).f1) x39).f1) (w64 (x75 - 1))) ≥ (nth 0 ((nth qD.z ((nth qC.z x0_.f6 x6).f1) x39).f1) x75)))) else (none)) else (qG.j104 k x0_ x6 x39 x75 false)))) else (none)) else (qG.l113 k x0_ x6 x39 0)) := by kernel_rfl
theorem qG.j104_s (k : Nat) (x0_ : qJ) (x6 : Int) (x39 : Int) (x75 : Int) (y103 : Bool) : qG.j104 (k + 1) x0_ x6 x39 x75 y103 = (if y103 = true then (some false) else (qG.l76 k x0_ x6 x39 (w64 (x75 + 1)))) := by kernel_rfl
theorem qG.l113_s (k : Nat) (x0_ : qJ) (x6 : Int) (x39 : Int) (x112 : Int) : qG.l113 (k + 1) x0_ x6 x39 x112 = (if x112 < x39 then (if 0 ≤ x112 ∧ x112 < (((nth qC.z x0_.f6 x6).f1).length : Int) then (if (nth qD.z ((nth qC.z x0_.f6 x6).f1) x112).f0 ≥ (nth qD.z ((nth qC.z x0_.f6 x6).f1) x39).f0 then (qG.j137 k x0_ x6 x39 x112 true) else ((qAO.f k ((nth qD.z ((nth qC.z x0_.f6 x6).f1) x112).f1) ((nth qD.z ((nth qC.z x0_.f6 x6).f1) x39).f1)).bind fun t134 => (qG.j137 k x0_ x6 x39 x112 t134))) else (none)) else (qG.l40 k x0_ x6 (w64 (x39 + 1)))) := by kernel_rfl
theorem qG.j137_s (k : Nat) (x0_ : qJ) (x6 : Int) (x39 : Int) (x112 : Int) (y136 : Bool) : qG.j137 (k + 1) x0_ x6 x39 x112 y136 = (if y136 = true then (some false) else (qG.l113 k x0_ x6 x39 (w64 (x112 + 1)))) := by kernel_rfl
def qG.f (k : Nat) (x0_ : qJ) : Option Bool := qG.l7 k x0_ 0
def qG.Post (W F : World) (r : Bool) (v : Value) (w' : World) : Prop := ∃ (F' : World), v = .bool r ∧ St W (mine W []) F w' F' []
theorem qG.calls (k : Nat) (x0_ : qJ) (A0_4 : Option Addr) (c0_4 : Nat) (A0_5 : Option Addr) (c0_5 : Nat) (A0_6 : Option Addr) (c0_6 : Nat) (r : Bool) (W F : World) (hown : Sub F W) (g0_4 : Rd qA.k F A0_4 c0_4 x0_.f4) (g0_5 : Rd qK.k F A0_5 c0_5 x0_.f5) (g0_6 : Rd qC.k F A0_6 c0_6 x0_.f6) (H : qG.f k x0_ = some r) :
    Calls Tryz.prog 69 #[.agg #[.int .i64 x0_.f0, .int .i64 x0_.f1, .int .i64 x0_.f2, .int .i64 x0_.f3, .slice A0_4 x0_.f4.length c0_4, .slice A0_5 x0_.f5.length c0_5, .slice A0_6 x0_.f6.length c0_6]] W fun e w' => ∃ v, e = .returned v ∧ qG.Post W F r v w' := by
 have hS := St.start (Own.nil hown)
 unfold qG.f at H
 refine enter (n := 139) rfl rfl rfl (Nat.le_of_ble_eq_true rfl) (fun a hE => ?_)
 refine sq fun K1 hK1 => pl0 (ple hE (.bx (t := 26) hS [.int .i64 x0_.f0, .int .i64 x0_.f1, .int .i64 x0_.f2, .int .i64 x0_.f3, .slice A0_4 x0_.f4.length c0_4, .slice A0_5 x0_.f5.length c0_5, .slice A0_6 x0_.f6.length c0_6]) ?_)
 rintro _ u3 a ⟨b2, rfl, hb2, hS, hg⟩ hE
 refine plc hE (.r 1 1 .nil) (fun a hE => pld (hK1 _ _ (sq fun K4 hK4 => sq fun K5 hK5 => pl0 (plc hE (.r 0 1 .nil) (fun a hE => pld (hK5 _ _ (wp_block ?_)))))))
 refine wp_loop_ghost (fun kq8 a w' => ∃ (G : Nat → Value) (x6 : Int), kq8 ≤ k ∧ Env 139 G a ∧ At G [(1, .pointer (some ⟨b2, 0, none⟩)), (3, .int .i64 x6)] ∧ St W (mine W []) F w' F [box b2 #[.int .i64 x0_.f0, .int .i64 x0_.f1, .int .i64 x0_.f2, .int .i64 x0_.f3, .slice A0_4 x0_.f4.length c0_4, .slice A0_5 x0_.f5.length c0_5, .slice A0_6 x0_.f6.length c0_6] 26] ∧  qG.l7 kq8 x0_ x6 = some r) k ⟨_, 0, Nat.le_refl _, hE, .of, hS, H⟩ ?_
 rintro kq8 a u10 ⟨G, x6, hkq, hE, hA, hS, H⟩
 cases kq8 with
 | zero => cases (show none = some r from H)
 | succ k9 =>
  rw [qG.l7_s] at H
  obtain ⟨J, hE⟩ := hE.at hA
  refine sq fun K11 hK11 => sq fun K12 hK12 => pl0 ?_
  have hb2 := hS.blk_at (i := 0) rfl
  refine plc hE (.r 0 2 <| .b 2 6 hb2 <| .r 3 2 <| .nil) (fun a hE => pld (hK12 _ _ ?_))
  rcases sp H with ⟨c13, H⟩ | ⟨c13, H⟩
  ·
   replace hE := hE.kt 13 c13
   refine ct hE (wp_skip (hK11 _ _ (sq fun K14 hK14 => wp_block (sq fun K15 hK15 => pl0 ?_))))
   obtain ⟨c16, H⟩ := gd H
   have hE_ := hE
   obtain ⟨ad17, rfl⟩ := g0_6.addr c16.1 c16.2
   replace hE := hE_
   obtain ⟨cs19, ⟨A21, c22, rfl, g23⟩, hc20⟩ := g0_6.el qC.z x6 c16.1 c16.2
   refine plc hE (.r 0 1 <| .b 1 6 hb2 <| .r 2 1 <| .x 3 c16 <| .cs 4 (hS.fcs hc20) <| .nil) (fun a hE => ple hE (.al (t := 49) hS [.int .i64 0, .slice none 0 0]) ?_)
   rintro _ u25 a ⟨b24, rfl, hb24, hS, hg⟩ hE
   refine ple hE (.sto hS [.int .i64 ((nth qC.z x0_.f6 x6).f0), .slice A21 (((nth qC.z x0_.f6 x6).f1).length) c22]) ?_
   rintro _ u26 a ⟨rfl, hb24, hS, hz⟩ hE
   refine pld (hK15 _ _ (sq fun K27 hK27 => sq fun K28 hK28 => ?_))
   have J34 : ∀ kq32, kq32 ≤ k9 → ∀ (G : Nat → Value) (y30 : Bool) (a : Act) (w' : World), Env 139 G a → At G [(1, .pointer (some ⟨b2, 0, none⟩)), (3, .int .i64 x6), (4, .pointer (some ⟨b24, 0, none⟩)), (30, .bool y30)] → St W (mine W []) F w' F [box b24 #[.int .i64 ((nth qC.z x0_.f6 x6).f0), .slice A21 (((nth qC.z x0_.f6 x6).f1).length) c22] 49, box b2 #[.int .i64 x0_.f0, .int .i64 x0_.f1, .int .i64 x0_.f2, .int .i64 x0_.f3, .slice A0_4 x0_.f4.length c0_4, .slice A0_5 x0_.f5.length c0_5, .slice (some ad17) x0_.f6.length c0_6] 26] → qG.j31 kq32 x0_ x6 y30 = some r → K28 a w' := by
    intro kq32 hkq G y30 a u35 hE hA hS H
    cases kq32 with
    | zero => cases (show none = some r from H)
    | succ k33 =>
     rw [qG.j31_s] at H
     obtain ⟨J, hE⟩ := hE.at hA
     refine hK28 _ _ ?_
     rcases sp H with ⟨c36, H⟩ | ⟨c36, H⟩
     ·
      replace hE := hE.bt 30 c36
      refine ct hE (sq fun K37 hK37 => pl0 (plc hE (.r 0 1 .nil) (fun a hE => pld (hK37 _ _ (wp_ret (qCB (qCC (qCB (qCB (qCC (qCB ?_)))))))))))
      replace hS := hS.tail
      replace hS := hS.tail
      obtain rfl := si H
      exact rt1 hE ⟨_, rfl, _, rfl, hS⟩
     ·
      replace hE := hE.bf 30 c36
      refine cf hE (wp_skip (hK27 _ _ (sq fun K38 hK38 => pl0 (plc hE (.r 0 1 .nil) (fun a hE => pld (hK38 _ _ (wp_block ?_)))))))
      refine wp_loop_ghost (fun kq41 a w' => ∃ (G : Nat → Value) (x39 : Int), kq41 ≤ k33 ∧ Env 139 G a ∧ At G [(1, .pointer (some ⟨b2, 0, none⟩)), (3, .int .i64 x6), (4, .pointer (some ⟨b24, 0, none⟩)), (5, .int .i64 x39)] ∧ St W (mine W []) F w' F [box b24 #[.int .i64 ((nth qC.z x0_.f6 x6).f0), .slice A21 (((nth qC.z x0_.f6 x6).f1).length) c22] 49, box b2 #[.int .i64 x0_.f0, .int .i64 x0_.f1, .int .i64 x0_.f2, .int .i64 x0_.f3, .slice A0_4 x0_.f4.length c0_4, .slice A0_5 x0_.f5.length c0_5, .slice (some ad17) x0_.f6.length c0_6] 26] ∧  qG.l40 kq41 x0_ x6 x39 = some r) k33 ⟨_, 0, Nat.le_refl _, hE, .of, hS, H⟩ ?_
      rintro kq41 a u43 ⟨G, x39, hkq, hE, hA, hS, H⟩
      cases kq41 with
      | zero => cases (show none = some r from H)
      | succ k42 =>
       rw [qG.l40_s] at H
       obtain ⟨J, hE⟩ := hE.at hA
       refine sq fun K44 hK44 => sq fun K45 hK45 => pl0 ?_
       have hb24 := hS.blk_at (i := 0) rfl
       refine plc hE (.r 0 2 <| .b 2 1 hb24 <| .r 3 2 <| .nil) (fun a hE => pld (hK45 _ _ ?_))
       rcases sp H with ⟨c46, H⟩ | ⟨c46, H⟩
       ·
        replace hE := hE.kt 35 c46
        refine ct hE (wp_skip (hK44 _ _ (sq fun K47 hK47 => wp_block (sq fun K48 hK48 => pl0 ?_))))
        obtain ⟨c49, H⟩ := gd H
        have hE_ := hE
        obtain ⟨ad50, rfl⟩ := g23.addr c49.1 c49.2
        replace hE := hE_
        obtain ⟨cs52, ⟨A54, c55, rfl, g56⟩, hc53⟩ := g23.el qD.z x39 c49.1 c49.2
        refine plc hE (.r 0 1 <| .b 1 1 hb24 <| .r 2 1 <| .x 3 c49 <| .cs 4 (hS.fcs hc53) <| .nil) (fun a hE => ple hE (.al (t := 51) hS [.int .i64 0, .slice none 0 0]) ?_)
        rintro _ u58 a ⟨b57, rfl, hb57, hS, hg⟩ hE
        refine ple hE (.sto hS [.int .i64 ((nth qD.z ((nth qC.z x0_.f6 x6).f1) x39).f0), .slice A54 (((nth qD.z ((nth qC.z x0_.f6 x6).f1) x39).f1).length) c55]) ?_
        rintro _ u59 a ⟨rfl, hb57, hS, hz⟩ hE
        refine pld (hK48 _ _ (sq fun K60 hK60 => sq fun K61 hK61 => ?_))
        have J69 : ∀ kq67, kq67 ≤ k42 → ∀ (G : Nat → Value) (y65 : Bool) (a : Act) (w' : World), Env 139 G a → At G [(1, .pointer (some ⟨b2, 0, none⟩)), (3, .int .i64 x6), (4, .pointer (some ⟨b24, 0, none⟩)), (5, .int .i64 x39), (6, .pointer (some ⟨b57, 0, none⟩)), (68, .bool y65)] → St W (mine W []) F w' F [box b57 #[.int .i64 ((nth qD.z ((nth qC.z x0_.f6 x6).f1) x39).f0), .slice A54 (((nth qD.z ((nth qC.z x0_.f6 x6).f1) x39).f1).length) c55] 51, box b24 #[.int .i64 ((nth qC.z x0_.f6 x6).f0), .slice (some ad50) (((nth qC.z x0_.f6 x6).f1).length) c22] 49, box b2 #[.int .i64 x0_.f0, .int .i64 x0_.f1, .int .i64 x0_.f2, .int .i64 x0_.f3, .slice A0_4 x0_.f4.length c0_4, .slice A0_5 x0_.f5.length c0_5, .slice (some ad17) x0_.f6.length c0_6] 26] → qG.j66 kq67 x0_ x6 x39 y65 = some r → K61 a w' := by
         intro kq67 hkq G y65 a u70 hE hA hS H
         cases kq67 with
         | zero => cases (show none = some r from H)
         | succ k68 =>
          rw [qG.j66_s] at H
          obtain ⟨J, hE⟩ := hE.at hA
          refine hK61 _ _ ?_
          rcases sp H with ⟨c71, H⟩ | ⟨c71, H⟩
          ·
           replace hE := hE.bt 68 c71
           refine ct hE (sq fun K72 hK72 => pl0 (plc hE (.r 0 1 .nil) (fun a hE => pld (hK72 _ _ (wp_ret (qCB (qCC (qCB (qCB (qCC (qCC (qCB (qCB (qCC (qCB ?_)))))))))))))))
           replace hS := hS.tail
           replace hS := hS.tail
           replace hS := hS.tail
           obtain rfl := si H
           exact rt1 hE ⟨_, rfl, _, rfl, hS⟩
          ·
           replace hE := hE.bf 68 c71
           refine cf hE (wp_skip (hK60 _ _ (sq fun K73 hK73 => sq fun K74 hK74 => pl0 (plc hE (.r 0 1 .nil) (fun a hE => pld (hK74 _ _ (wp_block ?_)))))))
           refine wp_loop_ghost (fun kq77 a w' => ∃ (G : Nat → Value) (x75 : Int), kq77 ≤ k68 ∧ Env 139 G a ∧ At G [(1, .pointer (some ⟨b2, 0, none⟩)), (3, .int .i64 x6), (4, .pointer (some ⟨b24, 0, none⟩)), (5, .int .i64 x39), (6, .pointer (some ⟨b57, 0, none⟩)), (7, .int .i64 x75)] ∧ St W (mine W []) F w' F [box b57 #[.int .i64 ((nth qD.z ((nth qC.z x0_.f6 x6).f1) x39).f0), .slice A54 (((nth qD.z ((nth qC.z x0_.f6 x6).f1) x39).f1).length) c55] 51, box b24 #[.int .i64 ((nth qC.z x0_.f6 x6).f0), .slice (some ad50) (((nth qC.z x0_.f6 x6).f1).length) c22] 49, box b2 #[.int .i64 x0_.f0, .int .i64 x0_.f1, .int .i64 x0_.f2, .int .i64 x0_.f3, .slice A0_4 x0_.f4.length c0_4, .slice A0_5 x0_.f5.length c0_5, .slice (some ad17) x0_.f6.length c0_6] 26] ∧  qG.l76 kq77 x0_ x6 x39 x75 = some r) k68 ⟨_, 0, Nat.le_refl _, hE, .of, hS, H⟩ ?_
           rintro kq77 a u79 ⟨G, x75, hkq, hE, hA, hS, H⟩
           cases kq77 with
           | zero => cases (show none = some r from H)
           | succ k78 =>
            rw [qG.l76_s] at H
            obtain ⟨J, hE⟩ := hE.at hA
            refine sq fun K80 hK80 => sq fun K81 hK81 => pl0 ?_
            have hb57 := hS.blk_at (i := 0) rfl
            refine plc hE (.r 0 2 <| .b 2 1 hb57 <| .r 3 2 <| .nil) (fun a hE => pld (hK81 _ _ ?_))
            rcases sp H with ⟨c82, H⟩ | ⟨c82, H⟩
            ·
             replace hE := hE.kt 73 c82
             refine ct hE (wp_skip (hK80 _ _ (sq fun K83 hK83 => wp_block (sq fun K84 hK84 => ?_))))
             have J107 : ∀ kq105, kq105 ≤ k78 → ∀ (G : Nat → Value) (y103 : Bool) (a : Act) (w' : World), Env 139 G a → At G [(1, .pointer (some ⟨b2, 0, none⟩)), (3, .int .i64 x6), (4, .pointer (some ⟨b24, 0, none⟩)), (5, .int .i64 x39), (6, .pointer (some ⟨b57, 0, none⟩)), (7, .int .i64 x75), (107, .bool y103)] → St W (mine W []) F w' F [box b57 #[.int .i64 ((nth qD.z ((nth qC.z x0_.f6 x6).f1) x39).f0), .slice A54 (((nth qD.z ((nth qC.z x0_.f6 x6).f1) x39).f1).length) c55] 51, box b24 #[.int .i64 ((nth qC.z x0_.f6 x6).f0), .slice (some ad50) (((nth qC.z x0_.f6 x6).f1).length) c22] 49, box b2 #[.int .i64 x0_.f0, .int .i64 x0_.f1, .int .i64 x0_.f2, .int .i64 x0_.f3, .slice A0_4 x0_.f4.length c0_4, .slice A0_5 x0_.f5.length c0_5, .slice (some ad17) x0_.f6.length c0_6] 26] → qG.j104 kq105 x0_ x6 x39 x75 y103 = some r → K84 a w' := by
              intro kq105 hkq G y103 a u108 hE hA hS H
              cases kq105 with
              | zero => cases (show none = some r from H)
              | succ k106 =>
               rw [qG.j104_s] at H
               obtain ⟨J, hE⟩ := hE.at hA
               refine hK84 _ _ ?_
               rcases sp H with ⟨c109, H⟩ | ⟨c109, H⟩
               ·
                replace hE := hE.bt 107 c109
                refine ct hE (sq fun K110 hK110 => pl0 (plc hE (.r 0 1 .nil) (fun a hE => pld (hK110 _ _ (wp_ret (qCC (qCB (qCB (qCC (qCB (qCC (qCB (qCB (qCC (qCC (qCB (qCB (qCC (qCB ?_)))))))))))))))))))
                replace hS := hS.tail
                replace hS := hS.tail
                replace hS := hS.tail
                obtain rfl := si H
                exact rt1 hE ⟨_, rfl, _, rfl, hS⟩
               ·
                replace hE := hE.bf 107 c109
                refine cf hE (wp_skip ?_)
                refine qCD ?_
                refine hK83 _ _ (pl0 (plc hE (.r 0 3 .nil) (fun a hE => pld ?_)))
                exact qCE ⟨k106, by omega, _, (w64 (x75 + 1)), by omega, hE, .of, hS, H⟩
             refine drawn 32 ⟨[], [], fun q => False⟩ mixed rfl (by kernel_rfl) (fun hst => ?_)
             replace hS := hS.drew
             have hb57 := hS.blk_at (i := 0) rfl
             obtain ⟨c85, H⟩ := gd H
             have hE_ := hE
             obtain ⟨ad86, rfl⟩ := g56.addr c85.1 c85.2
             replace hE := hE_
             obtain ⟨cs88, rfl, hc89⟩ := g56.el 0 x75 c85.1 c85.2
             refine mny 25 hst hE (.r 0 1 <| .b 1 1 hb57 <| .r 2 1 <| .x 3 c85 <| .c 4 (hS.fc hc89 0) <| .r 5 2 <| .nil) (fun a hE => ?_)
             rcases sp H with ⟨c90, H⟩ | ⟨c90, H⟩
             ·
              replace hE := hE.kt 82 c90
              refine mny 0 hst hE (.r 7 25 .nil) (fun a hE => ?_)
              refine dn ?_
              exact J107 _ (by omega) _ true _ _ hE .of hS H
             ·
              replace hE := hE.kf 82 c90
              refine mny 17 hst hE (.r 7 1 <| .b 8 1 hb57 <| .r 9 1 <| .x 10 c85 <| .c 11 (hS.fc hc89 0) <| .r 12 3 <| .nil) (fun a hE => ?_)
              rcases sp H with ⟨c94, H⟩ | ⟨c94, H⟩
              ·
               replace hE := hE.kt 90 c94
               refine mny 0 hst hE (.r 15 17 .nil) (fun a hE => ?_)
               refine dn ?_
               exact J107 _ (by omega) _ true _ _ hE .of hS H
              ·
               replace hE := hE.kf 90 c94
               refine mny 14 hst hE (.r 15 3 .nil) (fun a hE => ?_)
               rcases sp H with ⟨c95, H⟩ | ⟨c95, H⟩
               ·
                replace hE := hE.kt 93 c95
                obtain ⟨c96, H⟩ := gd H
                obtain ⟨cs98, rfl, hc99⟩ := g56.el 0 (w64 (x75 - 1)) c96.1 c96.2
                refine mny 0 hst hE (.r 18 1 <| .b 19 1 hb57 <| .r 20 2 <| .x 22 c96 <| .c 23 (hS.fc hc99 0) <| .r 24 1 <| .b 25 1 hb57 <| .r 26 1 <| .x 27 c85 <| .c 28 (hS.fc hc89 0) <| .r 29 3 <| .nil) (fun a hE => ?_)
                refine dn ?_
                exact J107 _ (by omega) _ (decide ((nth 0 ((nth qD.z ((nth qC.z x0_.f6 x6).f1) x39).f1) (w64 (x75 - 1))) ≥ (nth 0 ((nth qD.z ((nth qC.z x0_.f6 x6).f1) x39).f1) x75))) _ _ hE .of hS H
               ·
                replace hE := hE.kf 93 c95
                refine mny 0 hst hE (.r 18 14 .nil) (fun a hE => ?_)
                refine dn ?_
                exact J107 _ (by omega) _ false _ _ hE .of hS H
            ·
             replace hE := hE.kf 73 c82
             refine cf hE ?_
             refine wp_exit ?_
             refine hK73 _ _ (sq fun K111 hK111 => pl0 (plc hE (.r 0 1 .nil) (fun a hE => pld (hK111 _ _ (wp_block ?_)))))
             refine wp_loop_ghost (fun kq114 a w' => ∃ (G : Nat → Value) (x112 : Int), kq114 ≤ k78 ∧ Env 139 G a ∧ At G [(1, .pointer (some ⟨b2, 0, none⟩)), (3, .int .i64 x6), (4, .pointer (some ⟨b24, 0, none⟩)), (5, .int .i64 x39), (6, .pointer (some ⟨b57, 0, none⟩)), (8, .int .i64 x112)] ∧ St W (mine W []) F w' F [box b57 #[.int .i64 ((nth qD.z ((nth qC.z x0_.f6 x6).f1) x39).f0), .slice A54 (((nth qD.z ((nth qC.z x0_.f6 x6).f1) x39).f1).length) c55] 51, box b24 #[.int .i64 ((nth qC.z x0_.f6 x6).f0), .slice (some ad50) (((nth qC.z x0_.f6 x6).f1).length) c22] 49, box b2 #[.int .i64 x0_.f0, .int .i64 x0_.f1, .int .i64 x0_.f2, .int .i64 x0_.f3, .slice A0_4 x0_.f4.length c0_4, .slice A0_5 x0_.f5.length c0_5, .slice (some ad17) x0_.f6.length c0_6] 26] ∧  qG.l113 kq114 x0_ x6 x39 x112 = some r) k78 ⟨_, 0, Nat.le_refl _, hE, .of, hS, H⟩ ?_
             rintro kq114 a u116 ⟨G, x112, hkq, hE, hA, hS, H⟩
             cases kq114 with
             | zero => cases (show none = some r from H)
             | succ k115 =>
              rw [qG.l113_s] at H
              obtain ⟨J, hE⟩ := hE.at hA
              refine sq fun K117 hK117 => sq fun K118 hK118 => pl0 (plc hE (.r 0 3 .nil) (fun a hE => pld (hK118 _ _ ?_)))
              rcases sp H with ⟨c119, H⟩ | ⟨c119, H⟩
              ·
               replace hE := hE.kt 110 c119
               refine ct hE (wp_skip (hK117 _ _ (sq fun K120 hK120 => wp_block (sq fun K121 hK121 => ?_))))
               have J140 : ∀ kq138, kq138 ≤ k115 → ∀ (G : Nat → Value) (y136 : Bool) (a : Act) (w' : World), Env 139 G a → At G [(1, .pointer (some ⟨b2, 0, none⟩)), (3, .int .i64 x6), (4, .pointer (some ⟨b24, 0, none⟩)), (5, .int .i64 x39), (6, .pointer (some ⟨b57, 0, none⟩)), (8, .int .i64 x112), (132, .bool y136)] → St W (mine W []) F w' F [box b57 #[.int .i64 ((nth qD.z ((nth qC.z x0_.f6 x6).f1) x39).f0), .slice A54 (((nth qD.z ((nth qC.z x0_.f6 x6).f1) x39).f1).length) c55] 51, box b24 #[.int .i64 ((nth qC.z x0_.f6 x6).f0), .slice (some ad50) (((nth qC.z x0_.f6 x6).f1).length) c22] 49, box b2 #[.int .i64 x0_.f0, .int .i64 x0_.f1, .int .i64 x0_.f2, .int .i64 x0_.f3, .slice A0_4 x0_.f4.length c0_4, .slice A0_5 x0_.f5.length c0_5, .slice (some ad17) x0_.f6.length c0_6] 26] → qG.j137 kq138 x0_ x6 x39 x112 y136 = some r → K121 a w' := by
                intro kq138 hkq G y136 a u141 hE hA hS H
                cases kq138 with
                | zero => cases (show none = some r from H)
                | succ k139 =>
                 rw [qG.j137_s] at H
                 obtain ⟨J, hE⟩ := hE.at hA
                 refine hK121 _ _ ?_
                 rcases sp H with ⟨c142, H⟩ | ⟨c142, H⟩
                 ·
                  replace hE := hE.bt 132 c142
                  refine ct hE (sq fun K143 hK143 => pl0 (plc hE (.r 0 1 .nil) (fun a hE => pld (hK143 _ _ (wp_ret (qCC (qCB (qCB (qCC (qCC (qCB (qCB (qCC (qCC (qCB (qCB (qCC (qCB ?_))))))))))))))))))
                  replace hS := hS.tail
                  replace hS := hS.tail
                  replace hS := hS.tail
                  obtain rfl := si H
                  exact rt1 hE ⟨_, rfl, _, rfl, hS⟩
                 ·
                  replace hE := hE.bf 132 c142
                  refine cf hE (wp_skip ?_)
                  refine qCD ?_
                  refine hK120 _ _ (pl0 (plc hE (.r 0 3 .nil) (fun a hE => pld ?_)))
                  exact qCE ⟨k139, by omega, _, (w64 (x112 + 1)), by omega, hE, .of, hS, H⟩
               refine drawn 20 ⟨[], [], fun q => False⟩ mixed rfl (by kernel_rfl) (fun hst => ?_)
               replace hS := hS.drew
               have hb24 := hS.blk_at (i := 1) rfl
               obtain ⟨c122, H⟩ := gd H
               obtain ⟨cs124, ⟨A126, c127, rfl, g128⟩, hc125⟩ := g23.el qD.z x112 c122.1 c122.2
               have hb57 := hS.blk_at (i := 0) rfl
               refine mny 10 hst hE (.r 0 1 <| .b 1 1 hb24 <| .r 2 1 <| .x 3 c122 <| .r 4 1 <| .c 5 (hS.fc hc125 0) <| .r 6 1 <| .b 7 0 hb57 <| .r 8 2 <| .nil) (fun a hE => ?_)
               rcases sp H with ⟨c129, H⟩ | ⟨c129, H⟩
               ·
                replace hE := hE.kt 122 c129
                refine mny 0 hst hE (.r 10 10 .nil) (fun a hE => ?_)
                refine dn ?_
                exact J140 _ (by omega) _ true _ _ hE .of hS H
               ·
                replace hE := hE.kf 122 c129
                refine mny 2 hst hE (.r 10 1 <| .b 11 1 hb24 <| .r 12 1 <| .x 13 c122 <| .r 14 1 <| .c 15 (hS.fc hc125 1) <| .r 16 1 <| .b 17 1 hb57 <| .nil) (fun a hE => ?_)
                obtain ⟨t134, h135, H⟩ := bd H
                refine on1 18 hE (.cl en21 (qAO.calls k115 ((nth qD.z ((nth qC.z x0_.f6 x6).f1) x112).f1) ((nth qD.z ((nth qC.z x0_.f6 x6).f1) x39).f1) _ _ _ _ _ _ _ hS.own.sub g128 g56 h135)) ?_
                rintro _ u133 a ⟨_, rfl, hC⟩ hE
                refine ⟨.of hC.agr, ?_⟩
                replace hS := hS.lent hC
                refine mny 0 hst hE (.r 19 1 .nil) (fun a hE => ?_)
                refine dn ?_
                exact J140 _ (by omega) _ t134 _ _ hE .of hS H
              ·
               replace hE := hE.kf 110 c119
               refine cf hE ?_
               refine wp_exit ?_
               refine hK47 _ _ (pl0 (plc hE (.r 0 3 .nil) (fun a hE => pld ?_)))
               replace hS := hS.tail
               exact qCE ⟨k115, by omega, _, (w64 (x39 + 1)), by omega, hE, .of, hS, H⟩
        refine pl0 (plc hE (.r 0 1 <| .b 1 0 hb57 <| .r 2 2 <| .nil) (fun a hE => ?_))
        rcases sp H with ⟨c62, H⟩ | ⟨c62, H⟩
        ·
         replace hE := hE.kt 46 c62
         refine plc hE (.r 4 22 .nil) (fun a hE => pld ?_)
         exact J69 _ (by omega) _ true _ _ hE .of hS H
        ·
         replace hE := hE.kf 46 c62
         have hb24 := hS.blk_at (i := 1) rfl
         refine plc hE (.r 4 1 <| .b 5 0 hb57 <| .r 6 1 <| .b 7 0 hb24 <| .r 8 3 <| .nil) (fun a hE => ?_)
         rcases sp H with ⟨c63, H⟩ | ⟨c63, H⟩
         ·
          replace hE := hE.kt 53 c63
          refine plc hE (.r 11 15 .nil) (fun a hE => pld ?_)
          exact J69 _ (by omega) _ true _ _ hE .of hS H
         ·
          replace hE := hE.kf 53 c63
          have hb2 := hS.blk_at (i := 2) rfl
          refine plc hE (.r 11 1 <| .b 12 1 hb57 <| .r 13 2 <| .b 15 2 hb2 <| .r 16 3 <| .nil) (fun a hE => ?_)
          rcases sp H with ⟨c64, H⟩ | ⟨c64, H⟩
          ·
           replace hE := hE.kt 61 c64
           refine plc hE (.r 19 7 .nil) (fun a hE => pld ?_)
           exact J69 _ (by omega) _ true _ _ hE .of hS H
          ·
           replace hE := hE.kf 61 c64
           refine plc hE (.r 19 1 <| .b 20 1 hb57 <| .r 21 2 <| .b 23 1 hb2 <| .r 24 2 <| .nil) (fun a hE => pld ?_)
           exact J69 _ (by omega) _ (decide ((((nth qD.z ((nth qC.z x0_.f6 x6).f1) x39).f1).length : Int) > x0_.f1)) _ _ hE .of hS H
       ·
        replace hE := hE.kf 35 c46
        refine cf hE ?_
        refine wp_exit ?_
        refine hK14 _ _ (pl0 (plc hE (.r 0 3 .nil) (fun a hE => pld ?_)))
        replace hS := hS.tail
        exact qCE ⟨k42, by omega, _, (w64 (x6 + 1)), by omega, hE, .of, hS, H⟩
   refine pl0 (plc hE (.r 0 1 <| .b 1 0 hb24 <| .r 2 2 <| .nil) (fun a hE => ?_))
   rcases sp H with ⟨c29, H⟩ | ⟨c29, H⟩
   ·
    replace hE := hE.kt 24 c29
    refine plc hE (.r 4 6 .nil) (fun a hE => pld ?_)
    exact J34 _ (by omega) _ true _ _ hE .of hS H
   ·
    replace hE := hE.kf 24 c29
    have hb2 := hS.blk_at (i := 1) rfl
    refine plc hE (.r 4 1 <| .b 5 0 hb24 <| .r 6 1 <| .b 7 0 hb2 <| .r 8 2 <| .nil) (fun a hE => pld ?_)
    exact J34 _ (by omega) _ (decide ((nth qC.z x0_.f6 x6).f0 > x0_.f0)) _ _ hE .of hS H
  ·
   replace hE := hE.kf 13 c13
   refine cf hE ?_
   refine wp_exit ?_
   refine hK4 _ _ (sq fun K144 hK144 => pl0 (plc hE (.r 0 1 <| .b 1 6 hb2 <| .r 2 2 <| .b 4 3 hb2 <| .r 5 2 <| .nil) (fun a hE => pld (hK144 _ _ (wp_ret ?_)))))
   replace hS := hS.tail
   obtain rfl := si H
   exact rt1 hE ⟨_, rfl, _, rfl, hS⟩
end Go.Proofs.YtpohepinmjmbkaaGreat.QS
