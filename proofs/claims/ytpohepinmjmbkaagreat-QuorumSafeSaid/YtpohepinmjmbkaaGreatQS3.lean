import Derived.Test.YtpohepinmjmbkaaGreatQS2
namespace Go.Proofs.YtpohepinmjmbkaaGreat.QS
open Go Go.RowKit Go.Proofs.YtpohepinmjmbkaaGreat.Sl
set_option linter.unusedVariables false
set_option linter.unusedSimpArgs false
set_option maxHeartbeats 4000000
set_option maxRecDepth 100000
mutual
def qAz.j45 : Nat → qJ → Int → qAm → Bool → Option (qJ × Int)
  | 0, _, _, _, _ => none
  | k + 1, x0_, x1_, x2_, y44 => if y44 = true then (if ((nth qA.z x0_.f4 x1_).f4) = (x2_.f0 == 3) then (some (x0_, 7)) else (some ((⟨x0_.f0, x0_.f1, x0_.f2, x0_.f3, (x0_.f4.set (x1_).toNat (⟨(nth qA.z x0_.f4 x1_).f0, (nth qA.z x0_.f4 x1_).f1, (nth qA.z x0_.f4 x1_).f2, (nth qA.z x0_.f4 x1_).f3, (x2_.f0 == 3), (nth qA.z x0_.f4 x1_).f5⟩ : qA)), x0_.f5, x0_.f6⟩ : qJ), 0))) else (if x2_.f0 = 5 then (qAz.j64 k x0_ x1_ x2_ true) else (qAz.j64 k x0_ x1_ x2_ (x2_.f0 == 6)))
def qAz.j64 : Nat → qJ → Int → qAm → Bool → Option (qJ × Int)
  | 0, _, _, _, _ => none
  | k + 1, x0_, x1_, x2_, y63 => if y63 = true then (if ((nth qA.z x0_.f4 x1_).f5) = (x2_.f0 == 6) then (some (x0_, 7)) else (some ((⟨x0_.f0, x0_.f1, x0_.f2, x0_.f3, (x0_.f4.set (x1_).toNat (⟨(nth qA.z x0_.f4 x1_).f0, (nth qA.z x0_.f4 x1_).f1, (nth qA.z x0_.f4 x1_).f2, (nth qA.z x0_.f4 x1_).f3, (nth qA.z x0_.f4 x1_).f4, (x2_.f0 == 6)⟩ : qA)), x0_.f5, x0_.f6⟩ : qJ), 0))) else (none)
end
theorem qAz.j45_s (k : Nat) (x0_ : qJ) (x1_ : Int) (x2_ : qAm) (y44 : Bool) : qAz.j45 (k + 1) x0_ x1_ x2_ y44 = (if y44 = true then (if ((nth qA.z x0_.f4 x1_).f4) = (x2_.f0 == 3) then (some (x0_, 7)) else (some ((⟨x0_.f0, x0_.f1, x0_.f2, x0_.f3, (x0_.f4.set (x1_).toNat (⟨(nth qA.z x0_.f4 x1_).f0, (nth qA.z x0_.f4 x1_).f1, (nth qA.z x0_.f4 x1_).f2, (nth qA.z x0_.f4 x1_).f3, (x2_.f0 == 3), (nth qA.z x0_.f4 x1_).f5⟩ : qA)), x0_.f5, x0_.f6⟩ : qJ), 0))) else (if x2_.f0 = 5 then (qAz.j64 k x0_ x1_ x2_ true) else (qAz.j64 k x0_ x1_ x2_ (x2_.f0 == 6)))) := by kernel_rfl
theorem qAz.j64_s (k : Nat) (x0_ : qJ) (x1_ : Int) (x2_ : qAm) (y63 : Bool) : qAz.j64 (k + 1) x0_ x1_ x2_ y63 = (if y63 = true then (if ((nth qA.z x0_.f4 x1_).f5) = (x2_.f0 == 6) then (some (x0_, 7)) else (some ((⟨x0_.f0, x0_.f1, x0_.f2, x0_.f3, (x0_.f4.set (x1_).toNat (⟨(nth qA.z x0_.f4 x1_).f0, (nth qA.z x0_.f4 x1_).f1, (nth qA.z x0_.f4 x1_).f2, (nth qA.z x0_.f4 x1_).f3, (nth qA.z x0_.f4 x1_).f4, (x2_.f0 == 6)⟩ : qA)), x0_.f5, x0_.f6⟩ : qJ), 0))) else (none)) := by kernel_rfl
def qAz.f (k : Nat) (x0_ : qJ) (x1_ : Int) (x2_ : qAm) : Option (qJ × Int) := if 0 ≤ x1_ ∧ x1_ < (x0_.f4.length : Int) then (if x2_.f0 = 2 then ((qAp.f x2_.f4 0 65536).bind fun t22 => (if t22 = true then (if (nth qA.z x0_.f4 x1_).f3 = x2_.f4 then (some (x0_, 7)) else (some ((⟨x0_.f0, x0_.f1, x0_.f2, x0_.f3, (x0_.f4.set (x1_).toNat (⟨(nth qA.z x0_.f4 x1_).f0, (nth qA.z x0_.f4 x1_).f1, (nth qA.z x0_.f4 x1_).f2, x2_.f4, (nth qA.z x0_.f4 x1_).f4, (nth qA.z x0_.f4 x1_).f5⟩ : qA)), x0_.f5, x0_.f6⟩ : qJ), 0))) else (some (x0_, 1)))) else (if x2_.f0 = 3 then (qAz.j45 k x0_ x1_ x2_ true) else (qAz.j45 k x0_ x1_ x2_ (x2_.f0 == 4)))) else (none)
def qAz.Post (x0_ : qJ) (x1_ : Int) (x2_ : qAm) (A0_4 : Option Addr) (c0_4 : Nat) (A0_5 : Option Addr) (c0_5 : Nat) (A0_6 : Option Addr) (c0_6 : Nat) (A2_6 : Option Addr) (c2_6 : Nat) (W F : World) (r : qJ × Int) (v : Value) (w' : World) : Prop := ∃ (F' : World) (RA0_4 : Option Addr) (rc0_4 : Nat) (RA0_5 : Option Addr) (rc0_5 : Nat) (RA0_6 : Option Addr) (rc0_6 : Nat), v = .tuple #[.agg #[.int .i64 r.1.f0, .int .i64 r.1.f1, .int .i64 r.1.f2, .int .i64 r.1.f3, .slice RA0_4 r.1.f4.length rc0_4, .slice RA0_5 r.1.f5.length rc0_5, .slice RA0_6 r.1.f6.length rc0_6], .int .i64 r.2] ∧ St W (mine W [row qA.k 104 (.slice A0_4 x0_.f4.length c0_4) x0_.f4]) F w' F' [row qA.k 104 (.slice RA0_4 r.1.f4.length rc0_4) r.1.f4] ∧ Rd qK.k F' RA0_5 rc0_5 r.1.f5 ∧ Rd qC.k F' RA0_6 rc0_6 r.1.f6
theorem qAz.calls (k : Nat) (x0_ : qJ) (x1_ : Int) (x2_ : qAm) (A0_4 : Option Addr) (c0_4 : Nat) (A0_5 : Option Addr) (c0_5 : Nat) (A0_6 : Option Addr) (c0_6 : Nat) (A2_6 : Option Addr) (c2_6 : Nat) (r : qJ × Int) (W F : World) (hown : Own W F [row qA.k 104 (.slice A0_4 x0_.f4.length c0_4) x0_.f4]) (g0_5 : Rd qK.k F A0_5 c0_5 x0_.f5) (g0_6 : Rd qC.k F A0_6 c0_6 x0_.f6) (g2_6 : Rd (Kn.int .i64) F A2_6 c2_6 x2_.f6) (H : qAz.f k x0_ x1_ x2_ = some r) :
    Calls Tryz.prog 136 #[.agg #[.int .i64 x0_.f0, .int .i64 x0_.f1, .int .i64 x0_.f2, .int .i64 x0_.f3, .slice A0_4 x0_.f4.length c0_4, .slice A0_5 x0_.f5.length c0_5, .slice A0_6 x0_.f6.length c0_6], .int .i64 x1_, .agg #[.int .i64 x2_.f0, .int .i64 x2_.f1, .int .i64 x2_.f2, .int .i64 x2_.f3, .int .i64 x2_.f4, .int .i64 x2_.f5, .slice A2_6 x2_.f6.length c2_6]] W fun e w' => ∃ v, e = .returned v ∧ qAz.Post x0_ x1_ x2_ A0_4 c0_4 A0_5 c0_5 A0_6 c0_6 A2_6 c2_6 W F r v w' := by
 have hS := St.start hown
 obtain ⟨N, hN⟩ : ∃ N, N = mine W [row qA.k 104 (.slice A0_4 x0_.f4.length c0_4) x0_.f4] := ⟨_, rfl⟩
 rw [← hN] at hS
 unfold qAz.f at H
 refine enter (n := 98) rfl rfl rfl (Nat.le_of_ble_eq_true rfl) (fun a hE => ?_)
 refine sq fun K1 hK1 => pl0 (ple hE (.bx (t := 26) hS [.int .i64 x0_.f0, .int .i64 x0_.f1, .int .i64 x0_.f2, .int .i64 x0_.f3, .slice A0_4 x0_.f4.length c0_4, .slice A0_5 x0_.f5.length c0_5, .slice A0_6 x0_.f6.length c0_6]) ?_)
 rintro _ u3 a ⟨b2, rfl, hb2, hS, hg⟩ hE
 refine ple hE (.bx (t := 40) hS [.int .i64 x2_.f0, .int .i64 x2_.f1, .int .i64 x2_.f2, .int .i64 x2_.f3, .int .i64 x2_.f4, .int .i64 x2_.f5, .slice A2_6 x2_.f6.length c2_6]) ?_
 rintro _ u5 a ⟨b4, rfl, hb4, hS, hg⟩ hE
 refine ple hE (.al (t := 26) hS [.int .i64 0, .int .i64 0, .int .i64 0, .int .i64 0, .slice none 0 0, .slice none 0 0, .slice none 0 0]) ?_
 rintro _ u7 a ⟨b6, rfl, hb6, hS, hg⟩ hE
 refine plc hE (.r 3 1 .nil) (fun a hE => pld (hK1 _ _ (sq fun K8 hK8 => pl0 ?_)))
 have hb2 := hS.blk_at (i := 2) rfl
 obtain ⟨c9, H⟩ := gd H
 have hr10 := hS.row_at (i := 3) rfl
 have hE_ := hE
 obtain ⟨b11, rfl⟩ := qCI hr10 c9.1 c9.2
 replace hE := hE_
 have hr_ := hS.row_at (i := 3) rfl
 obtain ⟨cs13, rfl, hc14⟩ := qCG hr_ qA.z x1_ c9.1 c9.2
 refine plc hE (.r 0 1 <| .b 1 4 hb2 <| .r 2 1 <| .x 3 c9 <| .r 4 1 <| .nil) (fun a hE => pld (hK8 _ _ (sq fun K15 hK15 => sq fun K16 hK16 => pl0 ?_)))
 have hb4 := hS.blk_at (i := 1) rfl
 refine plc hE (.r 0 1 <| .b 1 0 hb4 <| .nil) (fun a hE => pld (hK16 _ _ (wp_block (sq fun K17 hK17 => pl0 (plc hE (.r 0 2 .nil) (fun a hE => pld (hK17 _ _ ?_)))))))
 rcases sp H with ⟨c18, H⟩ | ⟨c18, H⟩
 ·
  replace hE := hE.kt 16 c18
  refine ct hE (sq fun K19 hK19 => sq fun K20 hK20 => pl0 (plc hE (.r 0 1 <| .b 1 4 hb4 <| .nil) (fun a hE => ?_)))
  obtain ⟨t22, h23, H⟩ := bd H
  refine ple hE (.cl en70 (qAp.calls x2_.f4 0 65536 _ _ _ hS.own.sub h23)) ?_
  rintro _ u21 a ⟨_, rfl, hC⟩ hE
  replace hS := hS.lent hC
  refine plc hE (.r 3 1 .nil) (fun a hE => pld (hK20 _ _ ?_))
  rcases sp H with ⟨c24, H⟩ | ⟨c24, H⟩
  ·
   replace hE := hE.btn 21 c24
   refine cf hE (wp_skip (hK19 _ _ (sq fun K27 hK27 => sq fun K28 hK28 => ?_)))
   refine drawn 7 ⟨[], [], fun q => False⟩ mixed rfl (by kernel_rfl) (fun hst => ?_)
   replace hS := hS.drew
   obtain ⟨cs29, rfl, hc30⟩ := qCG (hS.row_at (i := 3) rfl) qA.z x1_ c9.1 c9.2
   have hb4 := hS.blk_at (i := 1) rfl
   refine mny 0 hst hE (.r 0 3 <| .c 3 (hc30 3 _ rfl) <| .r 4 1 <| .b 5 4 hb4 <| .r 6 1 <| .nil) (fun a hE => ?_)
   refine dn ?_
   refine hK28 _ _ ?_
   rcases sp H with ⟨c31, H⟩ | ⟨c31, H⟩
   ·
    replace hE := hE.kt 29 c31
    refine ct hE (sq fun K32 hK32 => pl0 ?_)
    have hb2 := hS.blk_at (i := 2) rfl
    refine plc hE (.bn 0 0 7 hb2 .nil) (fun a hE => ple hE (.sto hS [.int .i64 x0_.f0, .int .i64 x0_.f1, .int .i64 x0_.f2, .int .i64 x0_.f3, .slice (some ⟨b11, 0, none⟩) x0_.f4.length c0_4, .slice A0_5 x0_.f5.length c0_5, .slice A0_6 x0_.f6.length c0_6]) ?_)
    rintro _ u33 a ⟨rfl, hb6, hS, hz⟩ hE
    refine plc hE (.r 2 1 .nil) (fun a hE => pld (hK32 _ _ (wp_ret (qCB (qCC (qCB ?_))))))
    replace hS := hS.tail
    replace hS := hS.tail
    replace hS := hS.tail
    rw [hN] at hS
    obtain rfl := si H
    exact retN hE rfl (of_decide_eq_true rfl) (.cell (by kernel_rfl) (qCH [.int .i64 x0_.f0, .int .i64 x0_.f1, .int .i64 x0_.f2, .int .i64 x0_.f3, .slice (some ⟨b11, 0, none⟩) x0_.f4.length c0_4, .slice A0_5 x0_.f5.length c0_5, .slice A0_6 x0_.f6.length c0_6] ag26 sz26 hb6 rfl) (.tmp (by kernel_rfl) .nil)) ⟨_, rfl, _, _, _, _, _, _, _, rfl, hS, g0_5, g0_6⟩
   ·
    replace hE := hE.kf 29 c31
    refine cf hE (wp_skip (hK27 _ _ (sq fun K34 hK34 => pl0 (plc hE (.r 0 2 <| .b 2 4 hb4 <| .r 3 2 <| .nil) (fun a hE => ?_)))))
    replace hS := hS.front 3 rfl
    obtain ⟨cs36, rfl, hc37⟩ := qCG (hS.row_at (i := 0) rfl) qA.z x1_ c9.1 c9.2
    refine ple hE (.set (d := qA.k) (n := x0_.f4.length) (i := x1_) (⟨(nth qA.z x0_.f4 x1_).f0, (nth qA.z x0_.f4 x1_).f1, (nth qA.z x0_.f4 x1_).f2, x2_.f4, (nth qA.z x0_.f4 x1_).f4, (nth qA.z x0_.f4 x1_).f5⟩ : qA) 3 (ea1 _ _ _) hS c9 [.int .i64 ((nth qA.z x0_.f4 x1_).f0), .int .i64 ((nth qA.z x0_.f4 x1_).f1), .int .i64 ((nth qA.z x0_.f4 x1_).f2), .int .i64 ((nth qA.z x0_.f4 x1_).f3), .bool ((nth qA.z x0_.f4 x1_).f4), .bool ((nth qA.z x0_.f4 x1_).f5)] hc37 [.int .i64 ((nth qA.z x0_.f4 x1_).f0), .int .i64 ((nth qA.z x0_.f4 x1_).f1), .int .i64 ((nth qA.z x0_.f4 x1_).f2), .int .i64 x2_.f4, .bool ((nth qA.z x0_.f4 x1_).f4), .bool ((nth qA.z x0_.f4 x1_).f5)] rfl) ?_
    rintro _ u35 a ⟨rfl, hS, hz⟩ hE
    refine pld (hK34 _ _ (sq fun K38 hK38 => pl0 ?_))
    have hb2 := hS.blk_at (i := 3) rfl
    refine plc hE (.bn 0 0 7 hb2 .nil) (fun a hE => ?_)
    replace hS := hS.front 1 rfl
    refine ple hE (.sto hS [.int .i64 x0_.f0, .int .i64 x0_.f1, .int .i64 x0_.f2, .int .i64 x0_.f3, .slice (some ⟨b11, 0, none⟩) x0_.f4.length c0_4, .slice A0_5 x0_.f5.length c0_5, .slice A0_6 x0_.f6.length c0_6]) ?_
    rintro _ u39 a ⟨rfl, hb6, hS, hz⟩ hE
    refine plc hE (.r 2 1 .nil) (fun a hE => pld (hK38 _ _ (wp_ret (qCC (qCB ?_)))))
    have hn40 := (qCF (hS.row_at (i := 1) rfl)).1
    replace hS : St W N F u39 F [box b6 #[.int .i64 x0_.f0, .int .i64 x0_.f1, .int .i64 x0_.f2, .int .i64 x0_.f3, .slice (some ⟨b11, 0, none⟩) ((x0_.f4.set (x1_).toNat (⟨(nth qA.z x0_.f4 x1_).f0, (nth qA.z x0_.f4 x1_).f1, (nth qA.z x0_.f4 x1_).f2, x2_.f4, (nth qA.z x0_.f4 x1_).f4, (nth qA.z x0_.f4 x1_).f5⟩ : qA)).length) c0_4, .slice A0_5 x0_.f5.length c0_5, .slice A0_6 x0_.f6.length c0_6] 26, row qA.k 104 (.slice (some ⟨b11, 0, none⟩) ((x0_.f4.set (x1_).toNat (⟨(nth qA.z x0_.f4 x1_).f0, (nth qA.z x0_.f4 x1_).f1, (nth qA.z x0_.f4 x1_).f2, x2_.f4, (nth qA.z x0_.f4 x1_).f4, (nth qA.z x0_.f4 x1_).f5⟩ : qA)).length) c0_4) (x0_.f4.set (x1_).toNat (⟨(nth qA.z x0_.f4 x1_).f0, (nth qA.z x0_.f4 x1_).f1, (nth qA.z x0_.f4 x1_).f2, x2_.f4, (nth qA.z x0_.f4 x1_).f4, (nth qA.z x0_.f4 x1_).f5⟩ : qA)), box b4 #[.int .i64 x2_.f0, .int .i64 x2_.f1, .int .i64 x2_.f2, .int .i64 x2_.f3, .int .i64 x2_.f4, .int .i64 x2_.f5, .slice A2_6 x2_.f6.length c2_6] 40, box b2 #[.int .i64 x0_.f0, .int .i64 x0_.f1, .int .i64 x0_.f2, .int .i64 x0_.f3, .slice (some ⟨b11, 0, none⟩) ((x0_.f4.set (x1_).toNat (⟨(nth qA.z x0_.f4 x1_).f0, (nth qA.z x0_.f4 x1_).f1, (nth qA.z x0_.f4 x1_).f2, x2_.f4, (nth qA.z x0_.f4 x1_).f4, (nth qA.z x0_.f4 x1_).f5⟩ : qA)).length) c0_4, .slice A0_5 x0_.f5.length c0_5, .slice A0_6 x0_.f6.length c0_6] 26] := by rw [← hn40]; exact hS
    have hb6 := hS.blk_at (i := 0) rfl
    replace hS := hS.tail
    replace hS := hS.front 1 rfl
    replace hS := hS.tail
    replace hS := hS.front 1 rfl
    replace hS := hS.tail
    rw [hN] at hS
    obtain rfl := si H
    exact retN hE rfl (of_decide_eq_true rfl) (.cell (by kernel_rfl) (qCH [.int .i64 x0_.f0, .int .i64 x0_.f1, .int .i64 x0_.f2, .int .i64 x0_.f3, .slice (some ⟨b11, 0, none⟩) ((x0_.f4.set (x1_).toNat (⟨(nth qA.z x0_.f4 x1_).f0, (nth qA.z x0_.f4 x1_).f1, (nth qA.z x0_.f4 x1_).f2, x2_.f4, (nth qA.z x0_.f4 x1_).f4, (nth qA.z x0_.f4 x1_).f5⟩ : qA)).length) c0_4, .slice A0_5 x0_.f5.length c0_5, .slice A0_6 x0_.f6.length c0_6] ag26 sz26 hb6 rfl) (.tmp (by kernel_rfl) .nil)) ⟨_, rfl, _, _, _, _, _, _, _, rfl, hS, g0_5, g0_6⟩
  ·
   replace hE := hE.bfn 21 c24
   refine ct hE (sq fun K25 hK25 => pl0 ?_)
   have hb2 := hS.blk_at (i := 2) rfl
   refine plc hE (.bn 0 0 7 hb2 .nil) (fun a hE => ple hE (.sto hS [.int .i64 x0_.f0, .int .i64 x0_.f1, .int .i64 x0_.f2, .int .i64 x0_.f3, .slice (some ⟨b11, 0, none⟩) x0_.f4.length c0_4, .slice A0_5 x0_.f5.length c0_5, .slice A0_6 x0_.f6.length c0_6]) ?_)
   rintro _ u26 a ⟨rfl, hb6, hS, hz⟩ hE
   refine plc hE (.r 2 1 .nil) (fun a hE => pld (hK25 _ _ (wp_ret (qCB (qCC (qCB ?_))))))
   replace hS := hS.tail
   replace hS := hS.tail
   replace hS := hS.tail
   rw [hN] at hS
   obtain rfl := si H
   exact retN hE rfl (of_decide_eq_true rfl) (.cell (by kernel_rfl) (qCH [.int .i64 x0_.f0, .int .i64 x0_.f1, .int .i64 x0_.f2, .int .i64 x0_.f3, .slice (some ⟨b11, 0, none⟩) x0_.f4.length c0_4, .slice A0_5 x0_.f5.length c0_5, .slice A0_6 x0_.f6.length c0_6] ag26 sz26 hb6 rfl) (.tmp (by kernel_rfl) .nil)) ⟨_, rfl, _, _, _, _, _, _, _, rfl, hS, g0_5, g0_6⟩
 ·
  replace hE := hE.kf 16 c18
  refine cf hE (sq fun K41 hK41 => ?_)
  have J48 : ∀ kq46, kq46 ≤ k → ∀ (G : Nat → Value) (y44 : Bool) (a : Act) (w' : World), Env 98 G a → At G [(1, .int .i64 x1_), (3, .pointer (some ⟨b2, 0, none⟩)), (5, .pointer (some ⟨b4, 0, none⟩)), (6, .pointer (some ⟨b6, 0, none⟩)), (8, .pointer (some ((⟨b11, 0, none⟩ : Addr).add (x1_.toNat * 6)))), (15, .int .i64 x2_.f0), (37, .bool y44)] → St W N F w' F [box b6 #[.int .i64 0, .int .i64 0, .int .i64 0, .int .i64 0, .slice none 0 0, .slice none 0 0, .slice none 0 0] 26, box b4 #[.int .i64 x2_.f0, .int .i64 x2_.f1, .int .i64 x2_.f2, .int .i64 x2_.f3, .int .i64 x2_.f4, .int .i64 x2_.f5, .slice A2_6 x2_.f6.length c2_6] 40, box b2 #[.int .i64 x0_.f0, .int .i64 x0_.f1, .int .i64 x0_.f2, .int .i64 x0_.f3, .slice (some ⟨b11, 0, none⟩) x0_.f4.length c0_4, .slice A0_5 x0_.f5.length c0_5, .slice A0_6 x0_.f6.length c0_6] 26, row qA.k 104 (.slice (some ⟨b11, 0, none⟩) x0_.f4.length c0_4) x0_.f4] → qAz.j45 kq46 x0_ x1_ x2_ y44 = some r → K41 a w' := by
   intro kq46 hkq G y44 a u49 hE hA hS H
   cases kq46 with
   | zero => cases (show none = some r from H)
   | succ k47 =>
    rw [qAz.j45_s] at H
    obtain ⟨J, hE⟩ := hE.at hA
    refine hK41 _ _ ?_
    rcases sp H with ⟨c50, H⟩ | ⟨c50, H⟩
    ·
     replace hE := hE.bt 37 c50
     refine ct hE (sq fun K51 hK51 => ?_)
     refine drawn 10 ⟨[7, 8], [7], fun q => q = b11⟩ mixed rfl (by kernel_rfl) (fun hst => ?_)
     replace hS := hS.drew
     have ne52 : ¬ (b2 = b11) := by intro h; exact hS.ne_row (i := 2) (j := 3) rfl rfl (by decide) h
     have hb2 := hS.blk_at (i := 2) rfl
     have hb4 := hS.blk_at (i := 1) rfl
     refine mny 3 hst hE (.bnX 0 0 7 hb2 ne52 <| .r 1 4 <| .b 5 0 hb4 <| .r 6 1 <| .nil) (fun a hE => ?_)
     replace hS := hS.front 3 rfl
     obtain ⟨cs53, rfl, hc54⟩ := qCG (hS.row_at (i := 0) rfl) qA.z x1_ c9.1 c9.2
     rcases sp H with ⟨c56, H⟩ | ⟨c56, H⟩
     ·
      refine on1 7 hE (.cl en180 (qBz.same (x2_.f0 == 3) _ _ (hc54 4 _ rfl) c56)) ?_
      rintro _ _ a ⟨rfl, rfl⟩ hE
      refine ⟨.of (Agr.refl _), ?_⟩
      replace hS := hS.front 1 rfl
      refine on1 8 hE (.sto hS [.int .i64 x0_.f0, .int .i64 x0_.f1, .int .i64 x0_.f2, .int .i64 x0_.f3, .slice (some ⟨b11, 0, none⟩) x0_.f4.length c0_4, .slice A0_5 x0_.f5.length c0_5, .slice A0_6 x0_.f6.length c0_6]) ?_
      rintro _ u57 a ⟨rfl, hb6, hS, hz⟩ hE
      refine ⟨.d, ?_⟩
      refine mny 0 hst hE (.r 9 1 .nil) (fun a hE => ?_)
      refine dn ?_
      refine hK51 _ _ (wp_ret (qCC (qCB ?_)))
      replace hS := hS.tail
      replace hS := hS.front 1 rfl
      replace hS := hS.tail
      replace hS := hS.front 1 rfl
      replace hS := hS.tail
      rw [hN] at hS
      obtain rfl := si H
      exact retN hE rfl (of_decide_eq_true rfl) (.cell (by kernel_rfl) (qCH [.int .i64 x0_.f0, .int .i64 x0_.f1, .int .i64 x0_.f2, .int .i64 x0_.f3, .slice (some ⟨b11, 0, none⟩) x0_.f4.length c0_4, .slice A0_5 x0_.f5.length c0_5, .slice A0_6 x0_.f6.length c0_6] ag26 sz26 hb6 rfl) (.tmp (by kernel_rfl) .nil)) ⟨_, rfl, _, _, _, _, _, _, _, rfl, hS, g0_5, g0_6⟩
     ·
      refine on1 7 hE (.cl en180 (qBz.turn (n := x0_.f4.length) (i := x1_) hS (⟨(nth qA.z x0_.f4 x1_).f0, (nth qA.z x0_.f4 x1_).f1, (nth qA.z x0_.f4 x1_).f2, (nth qA.z x0_.f4 x1_).f3, (x2_.f0 == 3), (nth qA.z x0_.f4 x1_).f5⟩ : qA) 4 c9 [.int .i64 ((nth qA.z x0_.f4 x1_).f0), .int .i64 ((nth qA.z x0_.f4 x1_).f1), .int .i64 ((nth qA.z x0_.f4 x1_).f2), .int .i64 ((nth qA.z x0_.f4 x1_).f3), .bool ((nth qA.z x0_.f4 x1_).f4), .bool ((nth qA.z x0_.f4 x1_).f5)] hc54 ((nth qA.z x0_.f4 x1_).f4) (x2_.f0 == 3) [.int .i64 ((nth qA.z x0_.f4 x1_).f0), .int .i64 ((nth qA.z x0_.f4 x1_).f1), .int .i64 ((nth qA.z x0_.f4 x1_).f2), .int .i64 ((nth qA.z x0_.f4 x1_).f3), .bool (x2_.f0 == 3), .bool ((nth qA.z x0_.f4 x1_).f5)] rfl rfl c56)) ?_
      rintro _ u55 a ⟨rfl, hS, hX⟩ hE
      refine ⟨.c hX, ?_⟩
      replace hS := hS.front 1 rfl
      refine on1 8 hE (.sto hS [.int .i64 x0_.f0, .int .i64 x0_.f1, .int .i64 x0_.f2, .int .i64 x0_.f3, .slice (some ⟨b11, 0, none⟩) x0_.f4.length c0_4, .slice A0_5 x0_.f5.length c0_5, .slice A0_6 x0_.f6.length c0_6]) ?_
      rintro _ u58 a ⟨rfl, hb6, hS, hz⟩ hE
      refine ⟨.d, ?_⟩
      refine mny 0 hst hE (.r 9 1 .nil) (fun a hE => ?_)
      refine dn ?_
      refine hK51 _ _ (wp_ret (qCC (qCB ?_)))
      have hn59 := (qCF (hS.row_at (i := 1) rfl)).1
      replace hS : St W N F u58 F [box b6 #[.int .i64 x0_.f0, .int .i64 x0_.f1, .int .i64 x0_.f2, .int .i64 x0_.f3, .slice (some ⟨b11, 0, none⟩) ((x0_.f4.set (x1_).toNat (⟨(nth qA.z x0_.f4 x1_).f0, (nth qA.z x0_.f4 x1_).f1, (nth qA.z x0_.f4 x1_).f2, (nth qA.z x0_.f4 x1_).f3, (x2_.f0 == 3), (nth qA.z x0_.f4 x1_).f5⟩ : qA)).length) c0_4, .slice A0_5 x0_.f5.length c0_5, .slice A0_6 x0_.f6.length c0_6] 26, row qA.k 104 (.slice (some ⟨b11, 0, none⟩) ((x0_.f4.set (x1_).toNat (⟨(nth qA.z x0_.f4 x1_).f0, (nth qA.z x0_.f4 x1_).f1, (nth qA.z x0_.f4 x1_).f2, (nth qA.z x0_.f4 x1_).f3, (x2_.f0 == 3), (nth qA.z x0_.f4 x1_).f5⟩ : qA)).length) c0_4) (x0_.f4.set (x1_).toNat (⟨(nth qA.z x0_.f4 x1_).f0, (nth qA.z x0_.f4 x1_).f1, (nth qA.z x0_.f4 x1_).f2, (nth qA.z x0_.f4 x1_).f3, (x2_.f0 == 3), (nth qA.z x0_.f4 x1_).f5⟩ : qA)), box b4 #[.int .i64 x2_.f0, .int .i64 x2_.f1, .int .i64 x2_.f2, .int .i64 x2_.f3, .int .i64 x2_.f4, .int .i64 x2_.f5, .slice A2_6 x2_.f6.length c2_6] 40, box b2 #[.int .i64 x0_.f0, .int .i64 x0_.f1, .int .i64 x0_.f2, .int .i64 x0_.f3, .slice (some ⟨b11, 0, none⟩) ((x0_.f4.set (x1_).toNat (⟨(nth qA.z x0_.f4 x1_).f0, (nth qA.z x0_.f4 x1_).f1, (nth qA.z x0_.f4 x1_).f2, (nth qA.z x0_.f4 x1_).f3, (x2_.f0 == 3), (nth qA.z x0_.f4 x1_).f5⟩ : qA)).length) c0_4, .slice A0_5 x0_.f5.length c0_5, .slice A0_6 x0_.f6.length c0_6] 26] := by rw [← hn59]; exact hS
      have hb6 := hS.blk_at (i := 0) rfl
      replace hS := hS.tail
      replace hS := hS.front 1 rfl
      replace hS := hS.tail
      replace hS := hS.front 1 rfl
      replace hS := hS.tail
      rw [hN] at hS
      obtain rfl := si H
      exact retN hE rfl (of_decide_eq_true rfl) (.cell (by kernel_rfl) (qCH [.int .i64 x0_.f0, .int .i64 x0_.f1, .int .i64 x0_.f2, .int .i64 x0_.f3, .slice (some ⟨b11, 0, none⟩) ((x0_.f4.set (x1_).toNat (⟨(nth qA.z x0_.f4 x1_).f0, (nth qA.z x0_.f4 x1_).f1, (nth qA.z x0_.f4 x1_).f2, (nth qA.z x0_.f4 x1_).f3, (x2_.f0 == 3), (nth qA.z x0_.f4 x1_).f5⟩ : qA)).length) c0_4, .slice A0_5 x0_.f5.length c0_5, .slice A0_6 x0_.f6.length c0_6] ag26 sz26 hb6 rfl) (.tmp (by kernel_rfl) .nil)) ⟨_, rfl, _, _, _, _, _, _, _, rfl, hS, g0_5, g0_6⟩
    ·
     replace hE := hE.bf 37 c50
     refine cf hE (sq fun K60 hK60 => ?_)
     have J67 : ∀ kq65, kq65 ≤ k47 → ∀ (G : Nat → Value) (y63 : Bool) (a : Act) (w' : World), Env 98 G a → At G [(1, .int .i64 x1_), (3, .pointer (some ⟨b2, 0, none⟩)), (5, .pointer (some ⟨b4, 0, none⟩)), (6, .pointer (some ⟨b6, 0, none⟩)), (8, .pointer (some ((⟨b11, 0, none⟩ : Addr).add (x1_.toNat * 6)))), (48, .bool y63)] → St W N F w' F [box b6 #[.int .i64 0, .int .i64 0, .int .i64 0, .int .i64 0, .slice none 0 0, .slice none 0 0, .slice none 0 0] 26, box b4 #[.int .i64 x2_.f0, .int .i64 x2_.f1, .int .i64 x2_.f2, .int .i64 x2_.f3, .int .i64 x2_.f4, .int .i64 x2_.f5, .slice A2_6 x2_.f6.length c2_6] 40, box b2 #[.int .i64 x0_.f0, .int .i64 x0_.f1, .int .i64 x0_.f2, .int .i64 x0_.f3, .slice (some ⟨b11, 0, none⟩) x0_.f4.length c0_4, .slice A0_5 x0_.f5.length c0_5, .slice A0_6 x0_.f6.length c0_6] 26, row qA.k 104 (.slice (some ⟨b11, 0, none⟩) x0_.f4.length c0_4) x0_.f4] → qAz.j64 kq65 x0_ x1_ x2_ y63 = some r → K60 a w' := by
      intro kq65 hkq G y63 a u68 hE hA hS H
      cases kq65 with
      | zero => cases (show none = some r from H)
      | succ k66 =>
       rw [qAz.j64_s] at H
       obtain ⟨J, hE⟩ := hE.at hA
       refine hK60 _ _ ?_
       rcases sp H with ⟨c69, H⟩ | ⟨c69, H⟩
       ·
        replace hE := hE.bt 48 c69
        refine ct hE (sq fun K70 hK70 => ?_)
        refine drawn 10 ⟨[7, 8], [7], fun q => q = b11⟩ mixed rfl (by kernel_rfl) (fun hst => ?_)
        replace hS := hS.drew
        have ne71 : ¬ (b2 = b11) := by intro h; exact hS.ne_row (i := 2) (j := 3) rfl rfl (by decide) h
        have hb2 := hS.blk_at (i := 2) rfl
        have hb4 := hS.blk_at (i := 1) rfl
        refine mny 3 hst hE (.bnX 0 0 7 hb2 ne71 <| .r 1 4 <| .b 5 0 hb4 <| .r 6 1 <| .nil) (fun a hE => ?_)
        replace hS := hS.front 3 rfl
        obtain ⟨cs72, rfl, hc73⟩ := qCG (hS.row_at (i := 0) rfl) qA.z x1_ c9.1 c9.2
        rcases sp H with ⟨c75, H⟩ | ⟨c75, H⟩
        ·
         refine on1 7 hE (.cl en180 (qBz.same (x2_.f0 == 6) _ _ (hc73 5 _ rfl) c75)) ?_
         rintro _ _ a ⟨rfl, rfl⟩ hE
         refine ⟨.of (Agr.refl _), ?_⟩
         replace hS := hS.front 1 rfl
         refine on1 8 hE (.sto hS [.int .i64 x0_.f0, .int .i64 x0_.f1, .int .i64 x0_.f2, .int .i64 x0_.f3, .slice (some ⟨b11, 0, none⟩) x0_.f4.length c0_4, .slice A0_5 x0_.f5.length c0_5, .slice A0_6 x0_.f6.length c0_6]) ?_
         rintro _ u76 a ⟨rfl, hb6, hS, hz⟩ hE
         refine ⟨.d, ?_⟩
         refine mny 0 hst hE (.r 9 1 .nil) (fun a hE => ?_)
         refine dn ?_
         refine hK70 _ _ (wp_ret (qCC (qCB ?_)))
         replace hS := hS.tail
         replace hS := hS.front 1 rfl
         replace hS := hS.tail
         replace hS := hS.front 1 rfl
         replace hS := hS.tail
         rw [hN] at hS
         obtain rfl := si H
         exact retN hE rfl (of_decide_eq_true rfl) (.cell (by kernel_rfl) (qCH [.int .i64 x0_.f0, .int .i64 x0_.f1, .int .i64 x0_.f2, .int .i64 x0_.f3, .slice (some ⟨b11, 0, none⟩) x0_.f4.length c0_4, .slice A0_5 x0_.f5.length c0_5, .slice A0_6 x0_.f6.length c0_6] ag26 sz26 hb6 rfl) (.tmp (by kernel_rfl) .nil)) ⟨_, rfl, _, _, _, _, _, _, _, rfl, hS, g0_5, g0_6⟩
        ·
         refine on1 7 hE (.cl en180 (qBz.turn (n := x0_.f4.length) (i := x1_) hS (⟨(nth qA.z x0_.f4 x1_).f0, (nth qA.z x0_.f4 x1_).f1, (nth qA.z x0_.f4 x1_).f2, (nth qA.z x0_.f4 x1_).f3, (nth qA.z x0_.f4 x1_).f4, (x2_.f0 == 6)⟩ : qA) 5 c9 [.int .i64 ((nth qA.z x0_.f4 x1_).f0), .int .i64 ((nth qA.z x0_.f4 x1_).f1), .int .i64 ((nth qA.z x0_.f4 x1_).f2), .int .i64 ((nth qA.z x0_.f4 x1_).f3), .bool ((nth qA.z x0_.f4 x1_).f4), .bool ((nth qA.z x0_.f4 x1_).f5)] hc73 ((nth qA.z x0_.f4 x1_).f5) (x2_.f0 == 6) [.int .i64 ((nth qA.z x0_.f4 x1_).f0), .int .i64 ((nth qA.z x0_.f4 x1_).f1), .int .i64 ((nth qA.z x0_.f4 x1_).f2), .int .i64 ((nth qA.z x0_.f4 x1_).f3), .bool ((nth qA.z x0_.f4 x1_).f4), .bool (x2_.f0 == 6)] rfl rfl c75)) ?_
         rintro _ u74 a ⟨rfl, hS, hX⟩ hE
         refine ⟨.c hX, ?_⟩
         replace hS := hS.front 1 rfl
         refine on1 8 hE (.sto hS [.int .i64 x0_.f0, .int .i64 x0_.f1, .int .i64 x0_.f2, .int .i64 x0_.f3, .slice (some ⟨b11, 0, none⟩) x0_.f4.length c0_4, .slice A0_5 x0_.f5.length c0_5, .slice A0_6 x0_.f6.length c0_6]) ?_
         rintro _ u77 a ⟨rfl, hb6, hS, hz⟩ hE
         refine ⟨.d, ?_⟩
         refine mny 0 hst hE (.r 9 1 .nil) (fun a hE => ?_)
         refine dn ?_
         refine hK70 _ _ (wp_ret (qCC (qCB ?_)))
         have hn78 := (qCF (hS.row_at (i := 1) rfl)).1
         replace hS : St W N F u77 F [box b6 #[.int .i64 x0_.f0, .int .i64 x0_.f1, .int .i64 x0_.f2, .int .i64 x0_.f3, .slice (some ⟨b11, 0, none⟩) ((x0_.f4.set (x1_).toNat (⟨(nth qA.z x0_.f4 x1_).f0, (nth qA.z x0_.f4 x1_).f1, (nth qA.z x0_.f4 x1_).f2, (nth qA.z x0_.f4 x1_).f3, (nth qA.z x0_.f4 x1_).f4, (x2_.f0 == 6)⟩ : qA)).length) c0_4, .slice A0_5 x0_.f5.length c0_5, .slice A0_6 x0_.f6.length c0_6] 26, row qA.k 104 (.slice (some ⟨b11, 0, none⟩) ((x0_.f4.set (x1_).toNat (⟨(nth qA.z x0_.f4 x1_).f0, (nth qA.z x0_.f4 x1_).f1, (nth qA.z x0_.f4 x1_).f2, (nth qA.z x0_.f4 x1_).f3, (nth qA.z x0_.f4 x1_).f4, (x2_.f0 == 6)⟩ : qA)).length) c0_4) (x0_.f4.set (x1_).toNat (⟨(nth qA.z x0_.f4 x1_).f0, (nth qA.z x0_.f4 x1_).f1, (nth qA.z x0_.f4 x1_).f2, (nth qA.z x0_.f4 x1_).f3, (nth qA.z x0_.f4 x1_).f4, (x2_.f0 == 6)⟩ : qA)), box b4 #[.int .i64 x2_.f0, .int .i64 x2_.f1, .int .i64 x2_.f2, .int .i64 x2_.f3, .int .i64 x2_.f4, .int .i64 x2_.f5, .slice A2_6 x2_.f6.length c2_6] 40, box b2 #[.int .i64 x0_.f0, .int .i64 x0_.f1, .int .i64 x0_.f2, .int .i64 x0_.f3, .slice (some ⟨b11, 0, none⟩) ((x0_.f4.set (x1_).toNat (⟨(nth qA.z x0_.f4 x1_).f0, (nth qA.z x0_.f4 x1_).f1, (nth qA.z x0_.f4 x1_).f2, (nth qA.z x0_.f4 x1_).f3, (nth qA.z x0_.f4 x1_).f4, (x2_.f0 == 6)⟩ : qA)).length) c0_4, .slice A0_5 x0_.f5.length c0_5, .slice A0_6 x0_.f6.length c0_6] 26] := by rw [← hn78]; exact hS
         have hb6 := hS.blk_at (i := 0) rfl
         replace hS := hS.tail
         replace hS := hS.front 1 rfl
         replace hS := hS.tail
         replace hS := hS.front 1 rfl
         replace hS := hS.tail
         rw [hN] at hS
         obtain rfl := si H
         exact retN hE rfl (of_decide_eq_true rfl) (.cell (by kernel_rfl) (qCH [.int .i64 x0_.f0, .int .i64 x0_.f1, .int .i64 x0_.f2, .int .i64 x0_.f3, .slice (some ⟨b11, 0, none⟩) ((x0_.f4.set (x1_).toNat (⟨(nth qA.z x0_.f4 x1_).f0, (nth qA.z x0_.f4 x1_).f1, (nth qA.z x0_.f4 x1_).f2, (nth qA.z x0_.f4 x1_).f3, (nth qA.z x0_.f4 x1_).f4, (x2_.f0 == 6)⟩ : qA)).length) c0_4, .slice A0_5 x0_.f5.length c0_5, .slice A0_6 x0_.f6.length c0_6] ag26 sz26 hb6 rfl) (.tmp (by kernel_rfl) .nil)) ⟨_, rfl, _, _, _, _, _, _, _, rfl, hS, g0_5, g0_6⟩
       ·
        replace hE := hE.bf 48 c69
        refine cf hE (wp_skip ?_)
        refine qCD ?_
        refine hK15 _ _ (sq fun K79 hK79 => pl0 ?_)
        have hb2 := hS.blk_at (i := 2) rfl
        refine plc hE (.r 0 1 <| .b 1 5 hb2 <| .r 2 1 <| .nil) (fun a hE => ?_)
        cases (show none = some r from H)
     refine sq fun K61 hK61 => pl0 (plc hE (.r 0 2 .nil) (fun a hE => pld (hK61 _ _ ?_)))
     rcases sp H with ⟨c62, H⟩ | ⟨c62, H⟩
     ·
      replace hE := hE.kt 48 c62
      refine ct hE (wp_skip ?_)
      exact J67 _ (by omega) _ true _ _ hE .of hS H
     ·
      replace hE := hE.kf 48 c62
      refine cf hE (pl0 (plc hE (.r 0 2 .nil) (fun a hE => pld ?_)))
      exact J67 _ (by omega) _ (x2_.f0 == 6) _ _ hE .of hS H
  refine sq fun K42 hK42 => pl0 (plc hE (.r 0 2 .nil) (fun a hE => pld (hK42 _ _ ?_)))
  rcases sp H with ⟨c43, H⟩ | ⟨c43, H⟩
  ·
   replace hE := hE.kt 37 c43
   refine ct hE (wp_skip ?_)
   exact J48 _ (by omega) _ true _ _ hE .of hS H
  ·
   replace hE := hE.kf 37 c43
   refine cf hE (pl0 (plc hE (.r 0 2 .nil) (fun a hE => pld ?_)))
   exact J48 _ (by omega) _ (x2_.f0 == 4) _ _ hE .of hS H
def qBk.f (k : Nat) (x0_ : qJ) (x1_ : qAm) : Option (qJ × Int) := if x1_.f0 = 1 then ((qBy.f k x0_ x1_).bind fun t14 => (some (t14.1, t14.2))) else (if x1_.f0 = 8 then (none) else (if x1_.f0 = 9 then (some (x0_, 0)) else (if x1_.f0 = 10 then (none) else ((qBx.f k x0_ x1_.f1).bind fun t40 => (if t40.2 = true then ((qAz.f k x0_ t40.1 x1_).bind fun t49 => (some (t49.1, t49.2))) else (some (x0_, 5)))))))
def qBk.Post (x0_ : qJ) (x1_ : qAm) (A0_4 : Option Addr) (c0_4 : Nat) (A0_5 : Option Addr) (c0_5 : Nat) (A0_6 : Option Addr) (c0_6 : Nat) (A1_6 : Option Addr) (c1_6 : Nat) (W F : World) (r : qJ × Int) (v : Value) (w' : World) : Prop := ∃ (F' : World) (RA0_4 : Option Addr) (rc0_4 : Nat) (RA0_5 : Option Addr) (rc0_5 : Nat) (RA0_6 : Option Addr) (rc0_6 : Nat), v = .tuple #[.agg #[.int .i64 r.1.f0, .int .i64 r.1.f1, .int .i64 r.1.f2, .int .i64 r.1.f3, .slice RA0_4 r.1.f4.length rc0_4, .slice RA0_5 r.1.f5.length rc0_5, .slice RA0_6 r.1.f6.length rc0_6], .int .i64 r.2] ∧ St W (mine W [row qA.k 104 (.slice A0_4 x0_.f4.length c0_4) x0_.f4]) F w' F' [row qA.k 104 (.slice RA0_4 r.1.f4.length rc0_4) r.1.f4] ∧ Rd qK.k F' RA0_5 rc0_5 r.1.f5 ∧ Rd qC.k F' RA0_6 rc0_6 r.1.f6
theorem qBk.calls (k : Nat) (x0_ : qJ) (x1_ : qAm) (A0_4 : Option Addr) (c0_4 : Nat) (A0_5 : Option Addr) (c0_5 : Nat) (A0_6 : Option Addr) (c0_6 : Nat) (A1_6 : Option Addr) (c1_6 : Nat) (r : qJ × Int) (W F : World) (hown : Own W F [row qA.k 104 (.slice A0_4 x0_.f4.length c0_4) x0_.f4]) (g0_5 : Rd qK.k F A0_5 c0_5 x0_.f5) (g0_6 : Rd qC.k F A0_6 c0_6 x0_.f6) (g1_6 : Rd (Kn.int .i64) F A1_6 c1_6 x1_.f6) (H : qBk.f k x0_ x1_ = some r) :
    Calls Tryz.prog 78 #[.agg #[.int .i64 x0_.f0, .int .i64 x0_.f1, .int .i64 x0_.f2, .int .i64 x0_.f3, .slice A0_4 x0_.f4.length c0_4, .slice A0_5 x0_.f5.length c0_5, .slice A0_6 x0_.f6.length c0_6], .agg #[.int .i64 x1_.f0, .int .i64 x1_.f1, .int .i64 x1_.f2, .int .i64 x1_.f3, .int .i64 x1_.f4, .int .i64 x1_.f5, .slice A1_6 x1_.f6.length c1_6]] W fun e w' => ∃ v, e = .returned v ∧ qBk.Post x0_ x1_ A0_4 c0_4 A0_5 c0_5 A0_6 c0_6 A1_6 c1_6 W F r v w' := by
 have hS := St.start hown
 obtain ⟨N, hN⟩ : ∃ N, N = mine W [row qA.k 104 (.slice A0_4 x0_.f4.length c0_4) x0_.f4] := ⟨_, rfl⟩
 rw [← hN] at hS
 unfold qBk.f at H
 refine enter (n := 50) rfl rfl rfl (Nat.le_of_ble_eq_true rfl) (fun a hE => ?_)
 refine sq fun K1 hK1 => pl0 (ple hE (.bx (t := 26) hS [.int .i64 x0_.f0, .int .i64 x0_.f1, .int .i64 x0_.f2, .int .i64 x0_.f3, .slice A0_4 x0_.f4.length c0_4, .slice A0_5 x0_.f5.length c0_5, .slice A0_6 x0_.f6.length c0_6]) ?_)
 rintro _ u3 a ⟨b2, rfl, hb2, hS, hg⟩ hE
 refine ple hE (.bx (t := 40) hS [.int .i64 x1_.f0, .int .i64 x1_.f1, .int .i64 x1_.f2, .int .i64 x1_.f3, .int .i64 x1_.f4, .int .i64 x1_.f5, .slice A1_6 x1_.f6.length c1_6]) ?_
 rintro _ u5 a ⟨b4, rfl, hb4, hS, hg⟩ hE
 refine ple hE (.al (t := 26) hS [.int .i64 0, .int .i64 0, .int .i64 0, .int .i64 0, .slice none 0 0, .slice none 0 0, .slice none 0 0]) ?_
 rintro _ u7 a ⟨b6, rfl, hb6, hS, hg⟩ hE
 refine plc hE (.r 3 1 .nil) (fun a hE => pld (hK1 _ _ (sq fun K8 hK8 => sq fun K9 hK9 => pl0 ?_)))
 have hb4 := hS.blk_at (i := 1) rfl
 refine plc hE (.r 0 1 <| .b 1 0 hb4 <| .nil) (fun a hE => pld (hK9 _ _ (wp_block (sq fun K10 hK10 => pl0 (plc hE (.r 0 2 .nil) (fun a hE => pld (hK10 _ _ ?_)))))))
 rcases sp H with ⟨c11, H⟩ | ⟨c11, H⟩
 ·
  replace hE := hE.kt 10 c11
  refine ct hE (sq fun K12 hK12 => pl0 ?_)
  have hb2 := hS.blk_at (i := 2) rfl
  refine plc hE (.bn 0 0 7 hb2 <| .bn 1 0 7 hb4 <| .nil) (fun a hE => ?_)
  replace hS := hS.front 3 rfl
  obtain ⟨t14, h15, H⟩ := bd H
  refine ple hE (.cl en132 (qBy.calls k x0_ x1_ _ _ _ _ _ _ _ _ _ _ _ (Own.left (X := [row qA.k 104 (.slice A0_4 x0_.f4.length c0_4) x0_.f4]) hS.own) g0_5 g0_6 g1_6 h15)) ?_
  rintro _ u13 a ⟨F16, A17, c18, A21, c22, A24, c25, rfl, hC, g23, g26⟩ hE
  have hs := hC.sub
  replace hS := hS.called (X := [row qA.k 104 (.slice A0_4 x0_.f4.length c0_4) x0_.f4]) hC
  replace g0_5 := g0_5.mono hs
  replace g0_6 := g0_6.mono hs
  replace g1_6 := g1_6.mono hs
  refine plc hE (.r 3 2 .nil) (fun a hE => ?_)
  replace hS := hS.front 1 rfl
  refine ple hE (.sto hS [.int .i64 t14.1.f0, .int .i64 t14.1.f1, .int .i64 t14.1.f2, .int .i64 t14.1.f3, .slice A17 t14.1.f4.length c18, .slice A21 t14.1.f5.length c22, .slice A24 t14.1.f6.length c25]) ?_
  rintro _ u27 a ⟨rfl, hb6, hS, hz⟩ hE
  refine plc hE (.r 6 1 .nil) (fun a hE => pld (hK12 _ _ (wp_ret (qCC (qCB ?_)))))
  replace hS := hS.tail
  replace hS := hS.front 1 rfl
  replace hS := hS.tail
  replace hS := hS.front 1 rfl
  replace hS := hS.tail
  rw [hN] at hS
  obtain rfl := si H
  exact retN hE rfl (of_decide_eq_true rfl) (.cell (by kernel_rfl) (qCH [.int .i64 t14.1.f0, .int .i64 t14.1.f1, .int .i64 t14.1.f2, .int .i64 t14.1.f3, .slice A17 t14.1.f4.length c18, .slice A21 t14.1.f5.length c22, .slice A24 t14.1.f6.length c25] ag26 sz26 hb6 rfl) (.tmp (by kernel_rfl) .nil)) ⟨_, rfl, _, _, _, _, _, _, _, rfl, hS, g23, g26⟩
 ·
  replace hE := hE.kf 10 c11
  refine cf hE (sq fun K28 hK28 => pl0 (plc hE (.r 0 2 .nil) (fun a hE => pld (hK28 _ _ ?_))))
  rcases sp H with ⟨c29, H⟩ | ⟨c29, H⟩
  ·
   replace hE := hE.kt 17 c29
   refine ct hE (sq fun K30 hK30 => pl0 ?_)
   have hb2 := hS.blk_at (i := 2) rfl
   refine plc hE (.bn 0 0 7 hb2 <| .bn 1 0 7 hb4 <| .nil) (fun a hE => ?_)
   cases (show none = some r from H)
  ·
   replace hE := hE.kf 17 c29
   refine cf hE (sq fun K31 hK31 => pl0 (plc hE (.r 0 2 .nil) (fun a hE => pld (hK31 _ _ ?_))))
   rcases sp H with ⟨c32, H⟩ | ⟨c32, H⟩
   ·
    replace hE := hE.kt 24 c32
    refine ct hE (sq fun K33 hK33 => pl0 ?_)
    have hb2 := hS.blk_at (i := 2) rfl
    refine plc hE (.bn 0 0 7 hb2 .nil) (fun a hE => ple hE (.sto hS [.int .i64 x0_.f0, .int .i64 x0_.f1, .int .i64 x0_.f2, .int .i64 x0_.f3, .slice A0_4 x0_.f4.length c0_4, .slice A0_5 x0_.f5.length c0_5, .slice A0_6 x0_.f6.length c0_6]) ?_)
    rintro _ u34 a ⟨rfl, hb6, hS, hz⟩ hE
    refine plc hE (.r 2 1 .nil) (fun a hE => pld (hK33 _ _ (wp_ret (qCC (qCB ?_)))))
    replace hS := hS.tail
    replace hS := hS.tail
    replace hS := hS.tail
    rw [hN] at hS
    obtain rfl := si H
    exact retN hE rfl (of_decide_eq_true rfl) (.cell (by kernel_rfl) (qCH [.int .i64 x0_.f0, .int .i64 x0_.f1, .int .i64 x0_.f2, .int .i64 x0_.f3, .slice A0_4 x0_.f4.length c0_4, .slice A0_5 x0_.f5.length c0_5, .slice A0_6 x0_.f6.length c0_6] ag26 sz26 hb6 rfl) (.tmp (by kernel_rfl) .nil)) ⟨_, rfl, _, _, _, _, _, _, _, rfl, hS, g0_5, g0_6⟩
   ·
    replace hE := hE.kf 24 c32
    refine cf hE (sq fun K35 hK35 => pl0 (plc hE (.r 0 2 .nil) (fun a hE => pld (hK35 _ _ ?_))))
    rcases sp H with ⟨c36, H⟩ | ⟨c36, H⟩
    ·
     replace hE := hE.kt 27 c36
     refine ct hE (sq fun K37 hK37 => pl0 ?_)
     have hb2 := hS.blk_at (i := 2) rfl
     refine plc hE (.bn 0 0 7 hb2 <| .bn 1 0 7 hb4 <| .nil) (fun a hE => ?_)
     cases (show none = some r from H)
    ·
     replace hE := hE.kf 27 c36
     refine cf hE (wp_skip ?_)
     refine qCD ?_
     refine hK8 _ _ (sq fun K38 hK38 => pl0 ?_)
     have hb2 := hS.blk_at (i := 2) rfl
     refine plc hE (.bn 0 0 7 hb2 <| .r 1 1 <| .b 2 1 hb4 <| .nil) (fun a hE => ?_)
     obtain ⟨t40, h41, H⟩ := bd H
     refine ple hE (.cl en135 (qBx.calls k x0_ x1_.f1 _ _ _ _ _ _ _ _ _ (Sub.refl _) (hS.rd_at (i := 3) rfl) (g0_5.mono hS.own.sub) (g0_6.mono hS.own.sub) h41)) ?_
     rintro _ u39 a ⟨_, rfl, hC⟩ hE
     replace hS := hS.lent hC
     refine plc hE (.r 4 5 .nil) (fun a hE => pld (hK38 _ _ (sq fun K42 hK42 => sq fun K43 hK43 => pl0 (plc hE (.r 0 2 .nil) (fun a hE => pld (hK43 _ _ ?_))))))
     rcases sp H with ⟨c44, H⟩ | ⟨c44, H⟩
     ·
      replace hE := hE.btn 42 c44
      refine cf hE (wp_skip (hK42 _ _ (sq fun K47 hK47 => pl0 ?_)))
      have hb2 := hS.blk_at (i := 2) rfl
      have hb4 := hS.blk_at (i := 1) rfl
      refine plc hE (.bn 0 0 7 hb2 <| .r 1 1 <| .bn 2 0 7 hb4 <| .nil) (fun a hE => ?_)
      replace hS := hS.front 3 rfl
      obtain ⟨t49, h50, H⟩ := bd H
      refine ple hE (.cl en136 (qAz.calls k x0_ t40.1 x1_ _ _ _ _ _ _ _ _ _ _ _ (Own.left (X := [row qA.k 104 (.slice A0_4 x0_.f4.length c0_4) x0_.f4]) hS.own) g0_5 g0_6 g1_6 h50)) ?_
      rintro _ u48 a ⟨F51, A52, c53, A56, c57, A59, c60, rfl, hC, g58, g61⟩ hE
      have hs := hC.sub
      replace hS := hS.called (X := [row qA.k 104 (.slice A0_4 x0_.f4.length c0_4) x0_.f4]) hC
      replace g0_5 := g0_5.mono hs
      replace g0_6 := g0_6.mono hs
      replace g1_6 := g1_6.mono hs
      refine plc hE (.r 4 2 .nil) (fun a hE => ?_)
      replace hS := hS.front 1 rfl
      refine ple hE (.sto hS [.int .i64 t49.1.f0, .int .i64 t49.1.f1, .int .i64 t49.1.f2, .int .i64 t49.1.f3, .slice A52 t49.1.f4.length c53, .slice A56 t49.1.f5.length c57, .slice A59 t49.1.f6.length c60]) ?_
      rintro _ u62 a ⟨rfl, hb6, hS, hz⟩ hE
      refine plc hE (.r 7 1 .nil) (fun a hE => pld (hK47 _ _ (wp_ret ?_)))
      replace hS := hS.tail
      replace hS := hS.front 1 rfl
      replace hS := hS.tail
      replace hS := hS.front 1 rfl
      replace hS := hS.tail
      rw [hN] at hS
      obtain rfl := si H
      exact retN hE rfl (of_decide_eq_true rfl) (.cell (by kernel_rfl) (qCH [.int .i64 t49.1.f0, .int .i64 t49.1.f1, .int .i64 t49.1.f2, .int .i64 t49.1.f3, .slice A52 t49.1.f4.length c53, .slice A56 t49.1.f5.length c57, .slice A59 t49.1.f6.length c60] ag26 sz26 hb6 rfl) (.tmp (by kernel_rfl) .nil)) ⟨_, rfl, _, _, _, _, _, _, _, rfl, hS, g58, g61⟩
     ·
      replace hE := hE.bfn 42 c44
      refine ct hE (sq fun K45 hK45 => pl0 ?_)
      have hb2 := hS.blk_at (i := 2) rfl
      refine plc hE (.bn 0 0 7 hb2 .nil) (fun a hE => ple hE (.sto hS [.int .i64 x0_.f0, .int .i64 x0_.f1, .int .i64 x0_.f2, .int .i64 x0_.f3, .slice A0_4 x0_.f4.length c0_4, .slice A0_5 x0_.f5.length c0_5, .slice A0_6 x0_.f6.length c0_6]) ?_)
      rintro _ u46 a ⟨rfl, hb6, hS, hz⟩ hE
      refine plc hE (.r 2 1 .nil) (fun a hE => pld (hK45 _ _ (wp_ret (qCB ?_))))
      replace hS := hS.tail
      replace hS := hS.tail
      replace hS := hS.tail
      rw [hN] at hS
      obtain rfl := si H
      exact retN hE rfl (of_decide_eq_true rfl) (.cell (by kernel_rfl) (qCH [.int .i64 x0_.f0, .int .i64 x0_.f1, .int .i64 x0_.f2, .int .i64 x0_.f3, .slice A0_4 x0_.f4.length c0_4, .slice A0_5 x0_.f5.length c0_5, .slice A0_6 x0_.f6.length c0_6] ag26 sz26 hb6 rfl) (.tmp (by kernel_rfl) .nil)) ⟨_, rfl, _, _, _, _, _, _, _, rfl, hS, g0_5, g0_6⟩
def qBR.f (x0_ : qK) (x1_ : Int) : Option Int := (qAk.f x0_.f0 x1_).bind fun t6 => (some t6)
def qBR.Post (W F : World) (r : Int) (v : Value) (w' : World) : Prop := ∃ (F' : World), v = .int .i64 r ∧ St W (mine W []) F w' F' []
theorem qBR.calls (x0_ : qK) (x1_ : Int) (A0_1 : Option Addr) (c0_1 : Nat) (r : Int) (W F : World) (hown : Sub F W) (g0_1 : Rd (Kn.int .i64) F A0_1 c0_1 x0_.f1) (H : qBR.f x0_ x1_ = some r) :
    Calls Tryz.prog 165 #[.agg #[.int .i64 x0_.f0, .slice A0_1 x0_.f1.length c0_1], .int .i64 x1_] W fun e w' => ∃ v, e = .returned v ∧ qBR.Post W F r v w' := by
 have hS := St.start (Own.nil hown)
 unfold qBR.f at H
 refine enter (n := 9) rfl rfl rfl (Nat.le_of_ble_eq_true rfl) (fun a hE => ?_)
 refine sq fun K1 hK1 => pl0 (ple hE (.bx (t := 97) hS [.int .i64 x0_.f0, .slice A0_1 x0_.f1.length c0_1]) ?_)
 rintro _ u3 a ⟨b2, rfl, hb2, hS, hg⟩ hE
 refine plc hE (.r 1 1 .nil) (fun a hE => pld (hK1 _ _ (sq fun K4 hK4 => pl0 (plc hE (.r 0 1 <| .b 1 0 hb2 <| .r 2 1 <| .nil) (fun a hE => ?_)))))
 obtain ⟨t6, h7, H⟩ := bd H
 refine ple hE (.cl en161 (qAk.calls x0_.f0 x1_ _ _ _ hS.own.sub h7)) ?_
 rintro _ u5 a ⟨_, rfl, hC⟩ hE
 replace hS := hS.lent hC
 refine plc hE (.r 4 1 .nil) (fun a hE => pld (hK4 _ _ (wp_ret ?_)))
 replace hS := hS.tail
 obtain rfl := si H
 exact rt1 hE ⟨_, rfl, _, rfl, hS⟩
def qP.l7 : Nat → List qK → Int → Int → Int → Option (Int × Bool)
  | 0, _, _, _, _ => none
  | k + 1, x0_, x1_, x5, x6 => if x5 < x6 then (if 0 ≤ (w64 ((IntKind.u64.wrap (w64 (x5 + x6))).fdiv 2)) ∧ (w64 ((IntKind.u64.wrap (w64 (x5 + x6))).fdiv 2)) < (x0_.length : Int) then ((qBR.f (⟨(nth qK.z x0_ (w64 ((IntKind.u64.wrap (w64 (x5 + x6))).fdiv 2))).f0, (nth qK.z x0_ (w64 ((IntKind.u64.wrap (w64 (x5 + x6))).fdiv 2))).f1⟩ : qK) x1_).bind fun t25 => (if t25 < 0 then (qP.l7 k x0_ x1_ (w64 ((w64 ((IntKind.u64.wrap (w64 (x5 + x6))).fdiv 2)) + 1)) x6) else (qP.l7 k x0_ x1_ x5 (w64 ((IntKind.u64.wrap (w64 (x5 + x6))).fdiv 2))))) else (none)) else (if x5 < (x0_.length : Int) then (if 0 ≤ x5 ∧ x5 < (x0_.length : Int) then ((qBR.f (⟨(nth qK.z x0_ x5).f0, (nth qK.z x0_ x5).f1⟩ : qK) x1_).bind fun t39 => (some (x5, (t39 == 0)))) else (none)) else (some (x5, false)))
theorem qP.l7_s (k : Nat) (x0_ : List qK) (x1_ : Int) (x5 : Int) (x6 : Int) : qP.l7 (k + 1) x0_ x1_ x5 x6 = (if x5 < x6 then (if 0 ≤ (w64 ((IntKind.u64.wrap (w64 (x5 + x6))).fdiv 2)) ∧ (w64 ((IntKind.u64.wrap (w64 (x5 + x6))).fdiv 2)) < (x0_.length : Int) then ((qBR.f (⟨(nth qK.z x0_ (w64 ((IntKind.u64.wrap (w64 (x5 + x6))).fdiv 2))).f0, (nth qK.z x0_ (w64 ((IntKind.u64.wrap (w64 (x5 + x6))).fdiv 2))).f1⟩ : qK) x1_).bind fun t25 => (if t25 < 0 then (qP.l7 k x0_ x1_ (w64 ((w64 ((IntKind.u64.wrap (w64 (x5 + x6))).fdiv 2)) + 1)) x6) else (qP.l7 k x0_ x1_ x5 (w64 ((IntKind.u64.wrap (w64 (x5 + x6))).fdiv 2))))) else (none)) else (if x5 < (x0_.length : Int) then (if 0 ≤ x5 ∧ x5 < (x0_.length : Int) then ((qBR.f (⟨(nth qK.z x0_ x5).f0, (nth qK.z x0_ x5).f1⟩ : qK) x1_).bind fun t39 => (some (x5, (t39 == 0)))) else (none)) else (some (x5, false)))) := by kernel_rfl
def qP.f (k : Nat) (x0_ : List qK) (x1_ : Int) : Option (Int × Bool) := qP.l7 k x0_ x1_ 0 (x0_.length : Int)
def qP.Post (W F : World) (r : Int × Bool) (v : Value) (w' : World) : Prop := ∃ (F' : World), v = .tuple #[.int .i64 r.1, .bool r.2] ∧ St W (mine W []) F w' F' []
theorem qP.calls (k : Nat) (x0_ : List qK) (x1_ : Int) (A0_0 : Option Addr) (c0_0 : Nat) (r : Int × Bool) (W F : World) (hown : Sub F W) (g0_0 : Rd qK.k F A0_0 c0_0 x0_) (H : qP.f k x0_ x1_ = some r) :
    Calls Tryz.prog 164 #[.slice A0_0 x0_.length c0_0, .int .i64 x1_, .func (.func 165) #[] #[]] W fun e w' => ∃ v, e = .returned v ∧ qP.Post W F r v w' := by
 have hS := St.start (Own.nil hown)
 unfold qP.f at H
 refine enter (n := 49) rfl rfl rfl (Nat.le_of_ble_eq_true rfl) (fun a hE => ?_)
 refine sq fun K1 hK1 => pl0 (plc hE (.r 0 2 .nil) (fun a hE => pld (hK1 _ _ (sq fun K2 hK2 => pl0 (plc hE (.r 0 3 .nil) (fun a hE => pld (hK2 _ _ (sq fun K3 hK3 => pl0 (plc hE (.r 0 3 .nil) (fun a hE => pld (hK3 _ _ (sq fun K4 hK4 => wp_block ?_))))))))))))
 refine wp_loop_ghost (fun kq8 a w' => ∃ (G : Nat → Value) (x5 : Int) (x6 : Int), kq8 ≤ k ∧ Env 49 G a ∧ At G [(0, .slice A0_0 x0_.length c0_0), (1, .int .i64 x1_), (2, .func (.func 165) #[] #[]), (8, .int .i64 (x0_.length : Int)), (9, .int .i64 x5), (10, .int .i64 x6)] ∧ St W (mine W []) F w' F [] ∧  qP.l7 kq8 x0_ x1_ x5 x6 = some r) k ⟨_, 0, (x0_.length : Int), Nat.le_refl _, hE, .of, hS, H⟩ ?_
 rintro kq8 a u10 ⟨G, x5, x6, hkq, hE, hA, hS, H⟩
 cases kq8 with
 | zero => cases (show none = some r from H)
 | succ k9 =>
  rw [qP.l7_s] at H
  obtain ⟨J, hE⟩ := hE.at hA
  refine sq fun K11 hK11 => sq fun K12 hK12 => pl0 (plc hE (.r 0 3 .nil) (fun a hE => pld (hK12 _ _ ?_)))
  rcases sp H with ⟨c13, H⟩ | ⟨c13, H⟩
  ·
   replace hE := hE.kt 17 c13
   refine ct hE (wp_skip (hK11 _ _ (wp_block (sq fun K14 hK14 => pl0 (plc hE (.r 0 7 .nil) (fun a hE => pld (hK14 _ _ (sq fun K15 hK15 => pl0 ?_))))))))
   obtain ⟨c16, H⟩ := gd H
   have hE_ := hE
   obtain ⟨ad17, rfl⟩ := g0_0.addr c16.1 c16.2
   replace hE := hE_
   obtain ⟨cs19, ⟨A21, c22, rfl, g23⟩, hc20⟩ := g0_0.el qK.z (w64 ((IntKind.u64.wrap (w64 (x5 + x6))).fdiv 2)) c16.1 c16.2
   refine plc hE (.r 0 3 <| .x 3 c16 <| .cs 4 (hS.fcs hc20) <| .r 5 1 <| .nil) (fun a hE => ?_)
   obtain ⟨t25, h26, H⟩ := bd H
   refine ple hE (.cl en165 (qBR.calls (⟨(nth qK.z x0_ (w64 ((IntKind.u64.wrap (w64 (x5 + x6))).fdiv 2))).f0, (nth qK.z x0_ (w64 ((IntKind.u64.wrap (w64 (x5 + x6))).fdiv 2))).f1⟩ : qK) x1_ _ _ _ _ _ hS.own.sub g23 h26)) ?_
   rintro _ u24 a ⟨_, rfl, hC⟩ hE
   replace hS := hS.lent hC
   refine plc hE (.r 7 1 .nil) (fun a hE => pld (hK15 _ _ ?_))
   rcases sp H with ⟨c27, H⟩ | ⟨c27, H⟩
   ·
    replace hE := hE.kt 31 c27
    refine ct hE (pl0 (plc hE (.r 0 3 .nil) (fun a hE => pld ?_)))
    refine qCD ?_
    exact qCE ⟨k9, by omega, _, (w64 ((w64 ((IntKind.u64.wrap (w64 (x5 + x6))).fdiv 2)) + 1)), x6, by omega, hE, .of, hS, H⟩
   ·
    replace hE := hE.kf 31 c27
    refine cf hE (pl0 (plc hE (.r 0 2 .nil) (fun a hE => pld ?_)))
    refine qCD ?_
    exact qCE ⟨k9, by omega, _, x5, (w64 ((IntKind.u64.wrap (w64 (x5 + x6))).fdiv 2)), by omega, hE, .of, hS, H⟩
  ·
   replace hE := hE.kf 17 c13
   refine cf hE ?_
   refine wp_exit ?_
   refine hK4 _ _ (sq fun K28 hK28 => pl0 (plc hE (.r 0 5 .nil) (fun a hE => ?_)))
   rcases sp H with ⟨c29, H⟩ | ⟨c29, H⟩
   ·
    replace hE := hE.kt 39 c29
    obtain ⟨c30, H⟩ := gd H
    have hE_ := hE
    obtain ⟨ad31, rfl⟩ := g0_0.addr c30.1 c30.2
    replace hE := hE_
    obtain ⟨cs33, ⟨A35, c36, rfl, g37⟩, hc34⟩ := g0_0.el qK.z x5 c30.1 c30.2
    refine plc hE (.r 5 3 <| .x 8 c30 <| .cs 9 (hS.fcs hc34) <| .r 10 1 <| .nil) (fun a hE => ?_)
    obtain ⟨t39, h40, H⟩ := bd H
    refine ple hE (.cl en165 (qBR.calls (⟨(nth qK.z x0_ x5).f0, (nth qK.z x0_ x5).f1⟩ : qK) x1_ _ _ _ _ _ hS.own.sub g37 h40)) ?_
    rintro _ u38 a ⟨_, rfl, hC⟩ hE
    replace hS := hS.lent hC
    refine plc hE (.r 12 4 .nil) (fun a hE => pld (hK28 _ _ (wp_ret ?_)))
    obtain rfl := si H
    exact rtN hE ⟨_, rfl, _, rfl, hS⟩
   ·
    replace hE := hE.kf 39 c29
    refine plc hE (.r 5 11 .nil) (fun a hE => pld (hK28 _ _ (wp_ret ?_)))
    obtain rfl := si H
    exact rtN hE ⟨_, rfl, _, rfl, hS⟩
def qBt.f (k : Nat) (x0_ : qJ) (x1_ : Int) : Option (Int × Bool) := (qP.f k x0_.f5 x1_).bind fun t6 => (some (t6.1, t6.2))
def qBt.Post (W F : World) (r : Int × Bool) (v : Value) (w' : World) : Prop := ∃ (F' : World), v = .tuple #[.int .i64 r.1, .bool r.2] ∧ St W (mine W []) F w' F' []
theorem qBt.calls (k : Nat) (x0_ : qJ) (x1_ : Int) (A0_4 : Option Addr) (c0_4 : Nat) (A0_5 : Option Addr) (c0_5 : Nat) (A0_6 : Option Addr) (c0_6 : Nat) (r : Int × Bool) (W F : World) (hown : Sub F W) (g0_4 : Rd qA.k F A0_4 c0_4 x0_.f4) (g0_5 : Rd qK.k F A0_5 c0_5 x0_.f5) (g0_6 : Rd qC.k F A0_6 c0_6 x0_.f6) (H : qBt.f k x0_ x1_ = some r) :
    Calls Tryz.prog 121 #[.agg #[.int .i64 x0_.f0, .int .i64 x0_.f1, .int .i64 x0_.f2, .int .i64 x0_.f3, .slice A0_4 x0_.f4.length c0_4, .slice A0_5 x0_.f5.length c0_5, .slice A0_6 x0_.f6.length c0_6], .int .i64 x1_] W fun e w' => ∃ v, e = .returned v ∧ qBt.Post W F r v w' := by
 have hS := St.start (Own.nil hown)
 unfold qBt.f at H
 refine enter (n := 12) rfl rfl rfl (Nat.le_of_ble_eq_true rfl) (fun a hE => ?_)
 refine sq fun K1 hK1 => pl0 (ple hE (.bx (t := 26) hS [.int .i64 x0_.f0, .int .i64 x0_.f1, .int .i64 x0_.f2, .int .i64 x0_.f3, .slice A0_4 x0_.f4.length c0_4, .slice A0_5 x0_.f5.length c0_5, .slice A0_6 x0_.f6.length c0_6]) ?_)
 rintro _ u3 a ⟨b2, rfl, hb2, hS, hg⟩ hE
 refine plc hE (.r 1 2 .nil) (fun a hE => pld (hK1 _ _ (sq fun K4 hK4 => pl0 (plc hE (.r 0 1 <| .b 1 5 hb2 <| .r 2 1 <| .nil) (fun a hE => ?_)))))
 obtain ⟨t6, h7, H⟩ := bd H
 refine ple hE (.cl en164 (qP.calls k x0_.f5 x1_ _ _ _ _ _ hS.own.sub g0_5 h7)) ?_
 rintro _ u5 a ⟨_, rfl, hC⟩ hE
 replace hS := hS.lent hC
 refine plc hE (.r 4 4 .nil) (fun a hE => pld (hK4 _ _ (wp_ret ?_)))
 replace hS := hS.tail
 obtain rfl := si H
 exact rtN hE ⟨_, rfl, _, rfl, hS⟩
def qAr.j6 : Nat → Int → Bool → Option (List qH)
  | 0, _, _ => none
  | k + 1, x0_, y5 => if y5 = true then (some []) else (some [(⟨1, 0, 0⟩ : qH), (⟨2, 1, x0_⟩ : qH), (⟨2, 2, 1⟩ : qH), (⟨2, 3, 1⟩ : qH), (⟨3, 0, 0⟩ : qH)])
theorem qAr.j6_s (k : Nat) (x0_ : Int) (y5 : Bool) : qAr.j6 (k + 1) x0_ y5 = (if y5 = true then (some []) else (some [(⟨1, 0, 0⟩ : qH), (⟨2, 1, x0_⟩ : qH), (⟨2, 2, 1⟩ : qH), (⟨2, 3, 1⟩ : qH), (⟨3, 0, 0⟩ : qH)])) := by kernel_rfl
def qAr.f (k : Nat) (x0_ : Int) : Option (List qH) := if x0_ < 1 then (qAr.j6 k x0_ true) else (qAr.j6 k x0_ (decide (x0_ > 3)))
def qAr.Post (W F : World) (r : List qH) (v : Value) (w' : World) : Prop := ∃ (F' : World) (RA0_0 : Option Addr) (rc0_0 : Nat), v = .slice RA0_0 r.length rc0_0 ∧ St W (mine W []) F w' F' [row qH.k 175 (.slice RA0_0 r.length rc0_0) r]
theorem qAr.calls (k : Nat) (x0_ : Int) (r : List qH) (W F : World) (hown : Sub F W) (H : qAr.f k x0_ = some r) :
    Calls Tryz.prog 167 #[.int .i64 x0_] W fun e w' => ∃ v, e = .returned v ∧ qAr.Post W F r v w' := by
 have hS := St.start (Own.nil hown)
 unfold qAr.f at H
 refine enter (n := 16) rfl rfl rfl (Nat.le_of_ble_eq_true rfl) (fun a hE => ?_)
 refine sq fun K1 hK1 => pl0 (plc hE (.r 0 1 .nil) (fun a hE => pld (hK1 _ _ (sq fun K2 hK2 => sq fun K3 hK3 => ?_))))
 have J9 : ∀ kq7, kq7 ≤ k → ∀ (G : Nat → Value) (y5 : Bool) (a : Act) (w' : World), Env 16 G a → At G [(0, .int .i64 x0_), (8, .bool y5)] → St W (mine W []) F w' F [] → qAr.j6 kq7 x0_ y5 = some r → K3 a w' := by
  intro kq7 hkq G y5 a u10 hE hA hS H
  cases kq7 with
  | zero => cases (show none = some r from H)
  | succ k8 =>
   rw [qAr.j6_s] at H
   obtain ⟨J, hE⟩ := hE.at hA
   refine hK3 _ _ ?_
   rcases sp H with ⟨c11, H⟩ | ⟨c11, H⟩
   ·
    replace hE := hE.bt 8 c11
    refine ct hE (sq fun K12 hK12 => pl0 (plc hE (.r 0 1 .nil) (fun a hE => pld (hK12 _ _ (wp_ret (qCB ?_))))))
    replace hS := hS.nilrow qH.k 175
    obtain rfl := si H
    exact rt1 hE ⟨_, rfl, _, _, _, rfl, hS⟩
   ·
    replace hE := hE.bf 8 c11
    refine cf hE (wp_skip (hK2 _ _ (sq fun K14 hK14 => pl0 (plc hE (.r 0 6 .nil) (fun a hE => ple hE (.lit (d := qH.k) (e := 175) hS [(⟨1, 0, 0⟩ : qH), (⟨2, 1, x0_⟩ : qH), (⟨2, 2, 1⟩ : qH), (⟨2, 3, 1⟩ : qH), (⟨3, 0, 0⟩ : qH)] (.cons rfl <| .cons rfl <| .cons rfl <| .cons rfl <| .cons rfl .nil)) ?_)))))
    rintro _ u15 a ⟨A16, c17, rfl, hS, hg⟩ hE
    refine plc hE (.r 7 1 .nil) (fun a hE => pld (hK14 _ _ (wp_ret ?_)))
    obtain rfl := si H
    exact rt1 hE ⟨_, rfl, _, _, _, rfl, hS⟩
 refine pl0 (plc hE (.r 0 3 .nil) (fun a hE => ?_))
 rcases sp H with ⟨c4, H⟩ | ⟨c4, H⟩
 ·
  replace hE := hE.kt 5 c4
  refine plc hE (.r 3 3 .nil) (fun a hE => pld ?_)
  exact J9 _ (by omega) _ true _ _ hE .of hS H
 ·
  replace hE := hE.kf 5 c4
  refine plc hE (.r 3 3 .nil) (fun a hE => pld ?_)
  exact J9 _ (by omega) _ (decide (x0_ > 3)) _ _ hE .of hS H
def qAy.j23 : Nat → Int → qH → Bool → Option (Int × Bool)
  | 0, _, _, _ => none
  | k + 1, x0_, x1_, y22 => if x0_ = (-1) then (some (x1_.f1, false)) else (if y22 = true then (if x1_.f2 ≥ 1 then (some (x1_.f1, (decide (x1_.f2 ≤ 12)))) else (some (x1_.f1, false))) else (some (x1_.f1, false)))
theorem qAy.j23_s (k : Nat) (x0_ : Int) (x1_ : qH) (y22 : Bool) : qAy.j23 (k + 1) x0_ x1_ y22 = (if x0_ = (-1) then (some (x1_.f1, false)) else (if y22 = true then (if x1_.f2 ≥ 1 then (some (x1_.f1, (decide (x1_.f2 ≤ 12)))) else (some (x1_.f1, false))) else (some (x1_.f1, false)))) := by kernel_rfl
def qAy.f (k : Nat) (x0_ : Int) (x1_ : qH) : Option (Int × Bool) := if x1_.f0 = 1 then (if x0_ = (-1) then (if x1_.f1 = 0 then (some (0, (x1_.f2 == 0))) else (some (0, false))) else (some (0, false))) else (if x1_.f0 = 3 then (if x0_ = 3 then (if x1_.f1 = 0 then (some ((-1), (x1_.f2 == 0))) else (some ((-1), false))) else (some ((-1), false))) else (if x1_.f0 = 2 then (if x1_.f1 > x0_ then (if x1_.f1 ≤ 3 then (if x1_.f1 = 2 then (qAy.j23 k x0_ x1_ (x0_ == 1)) else (qAy.j23 k x0_ x1_ true)) else (qAy.j23 k x0_ x1_ false)) else (qAy.j23 k x0_ x1_ false)) else (some ((-1), false))))
def qAy.Post (W F : World) (r : Int × Bool) (v : Value) (w' : World) : Prop := ∃ (F' : World), v = .tuple #[.int .i64 r.1, .bool r.2] ∧ St W (mine W []) F w' F' []
theorem qAy.calls (k : Nat) (x0_ : Int) (x1_ : qH) (r : Int × Bool) (W F : World) (hown : Sub F W) (H : qAy.f k x0_ x1_ = some r) :
    Calls Tryz.prog 224 #[.int .i64 x0_, .agg #[.int .i64 x1_.f0, .int .i64 x1_.f1, .int .i64 x1_.f2]] W fun e w' => ∃ v, e = .returned v ∧ qAy.Post W F r v w' := by
 have hS := St.start (Own.nil hown)
 unfold qAy.f at H
 refine enter (n := 74) rfl rfl rfl (Nat.le_of_ble_eq_true rfl) (fun a hE => ?_)
 refine sq fun K1 hK1 => pl0 (ple hE (.bx (t := 175) hS [.int .i64 x1_.f0, .int .i64 x1_.f1, .int .i64 x1_.f2]) ?_)
 rintro _ u3 a ⟨b2, rfl, hb2, hS, hg⟩ hE
 refine plc hE (.r 1 2 .nil) (fun a hE => pld (hK1 _ _ (sq fun K4 hK4 => sq fun K5 hK5 => pl0 (plc hE (.r 0 1 <| .b 1 0 hb2 <| .nil) (fun a hE => pld (hK5 _ _ (wp_block (sq fun K6 hK6 => pl0 (plc hE (.r 0 2 .nil) (fun a hE => pld (hK6 _ _ ?_)))))))))))
 rcases sp H with ⟨c7, H⟩ | ⟨c7, H⟩
 ·
  replace hE := hE.kt 9 c7
  refine ct hE (sq fun K8 hK8 => ?_)
  refine drawn 14 ⟨[], [], fun q => False⟩ mixed rfl (by kernel_rfl) (fun hst => ?_)
  replace hS := hS.drew
  refine mny 11 hst hE (.r 0 3 .nil) (fun a hE => ?_)
  rcases sp H with ⟨c9, H⟩ | ⟨c9, H⟩
  ·
   replace hE := hE.kt 13 c9
   have hb2 := hS.blk_at (i := 0) rfl
   refine mny 5 hst hE (.r 3 1 <| .b 4 1 hb2 <| .r 5 3 <| .r 12 1 <| .nil) (fun a hE => ?_)
   rcases sp H with ⟨c10, H⟩ | ⟨c10, H⟩
   ·
    replace hE := hE.kt 18 c10
    refine mny 0 hst hE (.r 8 1 <| .b 9 2 hb2 <| .r 10 2 <| .r 13 1 <| .nil) (fun a hE => ?_)
    refine dn ?_
    refine hK8 _ _ (wp_ret (qCC (qCB ?_)))
    replace hS := hS.tail
    obtain rfl := si H
    exact rtN hE ⟨_, rfl, _, rfl, hS⟩
   ·
    replace hE := hE.kf 18 c10
    refine mny 0 hst hE (.r 8 4 <| .r 13 1 <| .nil) (fun a hE => ?_)
    refine dn ?_
    refine hK8 _ _ (wp_ret (qCC (qCB ?_)))
    replace hS := hS.tail
    obtain rfl := si H
    exact rtN hE ⟨_, rfl, _, rfl, hS⟩
  ·
   replace hE := hE.kf 13 c9
   refine mny 0 hst hE (.r 3 11 .nil) (fun a hE => ?_)
   refine dn ?_
   refine hK8 _ _ (wp_ret (qCC (qCB ?_)))
   replace hS := hS.tail
   obtain rfl := si H
   exact rtN hE ⟨_, rfl, _, rfl, hS⟩
 ·
  replace hE := hE.kf 9 c7
  refine cf hE (sq fun K11 hK11 => pl0 (plc hE (.r 0 2 .nil) (fun a hE => pld (hK11 _ _ ?_))))
  rcases sp H with ⟨c12, H⟩ | ⟨c12, H⟩
  ·
   replace hE := hE.kt 23 c12
   refine ct hE (sq fun K13 hK13 => ?_)
   refine drawn 14 ⟨[], [], fun q => False⟩ mixed rfl (by kernel_rfl) (fun hst => ?_)
   replace hS := hS.drew
   refine mny 11 hst hE (.r 0 3 .nil) (fun a hE => ?_)
   rcases sp H with ⟨c14, H⟩ | ⟨c14, H⟩
   ·
    replace hE := hE.kt 27 c14
    have hb2 := hS.blk_at (i := 0) rfl
    refine mny 5 hst hE (.r 3 1 <| .b 4 1 hb2 <| .r 5 3 <| .r 12 1 <| .nil) (fun a hE => ?_)
    rcases sp H with ⟨c15, H⟩ | ⟨c15, H⟩
    ·
     replace hE := hE.kt 32 c15
     refine mny 0 hst hE (.r 8 1 <| .b 9 2 hb2 <| .r 10 2 <| .r 13 1 <| .nil) (fun a hE => ?_)
     refine dn ?_
     refine hK13 _ _ (wp_ret (qCC (qCB ?_)))
     replace hS := hS.tail
     obtain rfl := si H
     exact rtN hE ⟨_, rfl, _, rfl, hS⟩
    ·
     replace hE := hE.kf 32 c15
     refine mny 0 hst hE (.r 8 4 <| .r 13 1 <| .nil) (fun a hE => ?_)
     refine dn ?_
     refine hK13 _ _ (wp_ret (qCC (qCB ?_)))
     replace hS := hS.tail
     obtain rfl := si H
     exact rtN hE ⟨_, rfl, _, rfl, hS⟩
   ·
    replace hE := hE.kf 27 c14
    refine mny 0 hst hE (.r 3 11 .nil) (fun a hE => ?_)
    refine dn ?_
    refine hK13 _ _ (wp_ret (qCC (qCB ?_)))
    replace hS := hS.tail
    obtain rfl := si H
    exact rtN hE ⟨_, rfl, _, rfl, hS⟩
  ·
   replace hE := hE.kf 23 c12
   refine cf hE (sq fun K16 hK16 => pl0 (plc hE (.r 0 2 .nil) (fun a hE => pld (hK16 _ _ ?_))))
   rcases sp H with ⟨c17, H⟩ | ⟨c17, H⟩
   ·
    replace hE := hE.kt 37 c17
    refine ct hE (sq fun K18 hK18 => ?_)
    have J26 : ∀ kq24, kq24 ≤ k → ∀ (G : Nat → Value) (y22 : Bool) (a : Act) (w' : World), Env 74 G a → At G [(0, .int .i64 x0_), (3, .pointer (some ⟨b2, 0, none⟩)), (6, .bool y22)] → St W (mine W []) F w' F [box b2 #[.int .i64 x1_.f0, .int .i64 x1_.f1, .int .i64 x1_.f2] 175] → qAy.j23 kq24 x0_ x1_ y22 = some r → K18 a w' := by
     intro kq24 hkq G y22 a u27 hE hA hS H
     cases kq24 with
     | zero => cases (show none = some r from H)
     | succ k25 =>
      rw [qAy.j23_s] at H
      obtain ⟨J, hE⟩ := hE.at hA
      refine hK18 _ _ (sq fun K28 hK28 => ?_)
      refine drawn 19 ⟨[], [], fun q => False⟩ mixed rfl (by kernel_rfl) (fun hst => ?_)
      replace hS := hS.drew
      have hb2 := hS.blk_at (i := 0) rfl
      refine mny 14 hst hE (.r 0 1 <| .b 1 1 hb2 <| .r 2 3 <| .nil) (fun a hE => ?_)
      rcases sp H with ⟨c29, H⟩ | ⟨c29, H⟩
      ·
       replace hE := hE.ktn 61 c29
       refine mny 0 hst hE (.r 5 14 .nil) (fun a hE => ?_)
       refine dn ?_
       refine hK28 _ _ (wp_ret (qCC (qCB ?_)))
       replace hS := hS.tail
       obtain rfl := si H
       exact rtN hE ⟨_, rfl, _, rfl, hS⟩
      ·
       replace hE := hE.kfn 61 c29
       refine mny 11 hst hE (.r 5 3 .nil) (fun a hE => ?_)
       rcases sp H with ⟨c30, H⟩ | ⟨c30, H⟩
       ·
        replace hE := hE.bt 64 c30
        refine mny 5 hst hE (.r 8 1 <| .b 9 2 hb2 <| .r 10 3 <| .r 17 1 <| .nil) (fun a hE => ?_)
        rcases sp H with ⟨c31, H⟩ | ⟨c31, H⟩
        ·
         replace hE := hE.kt 69 c31
         refine mny 0 hst hE (.r 13 1 <| .b 14 2 hb2 <| .r 15 2 <| .r 18 1 <| .nil) (fun a hE => ?_)
         refine dn ?_
         refine hK28 _ _ (wp_ret (qCC (qCB ?_)))
         replace hS := hS.tail
         obtain rfl := si H
         exact rtN hE ⟨_, rfl, _, rfl, hS⟩
        ·
         replace hE := hE.kf 69 c31
         refine mny 0 hst hE (.r 13 4 <| .r 18 1 <| .nil) (fun a hE => ?_)
         refine dn ?_
         refine hK28 _ _ (wp_ret (qCC (qCB ?_)))
         replace hS := hS.tail
         obtain rfl := si H
         exact rtN hE ⟨_, rfl, _, rfl, hS⟩
       ·
        replace hE := hE.bf 64 c30
        refine mny 0 hst hE (.r 8 11 .nil) (fun a hE => ?_)
        refine dn ?_
        refine hK28 _ _ (wp_ret (qCC (qCB ?_)))
        replace hS := hS.tail
        obtain rfl := si H
        exact rtN hE ⟨_, rfl, _, rfl, hS⟩
    refine pl0 (plc hE (.r 0 1 <| .b 1 1 hb2 <| .r 2 3 <| .nil) (fun a hE => ?_))
    rcases sp H with ⟨c19, H⟩ | ⟨c19, H⟩
    ·
     replace hE := hE.kt 43 c19
     refine plc hE (.r 5 1 <| .b 6 1 hb2 <| .r 7 3 <| .nil) (fun a hE => ?_)
     rcases sp H with ⟨c20, H⟩ | ⟨c20, H⟩
     ·
      replace hE := hE.kt 48 c20
      refine plc hE (.r 10 1 <| .b 11 1 hb2 <| .r 12 2 <| .nil) (fun a hE => ?_)
      rcases sp H with ⟨c21, H⟩ | ⟨c21, H⟩
      ·
       replace hE := hE.ktn 52 c21
       refine plc hE (.r 14 5 .nil) (fun a hE => pld ?_)
       exact J26 _ (by omega) _ (x0_ == 1) _ _ hE .of hS H
      ·
       replace hE := hE.kfn 52 c21
       refine plc hE (.r 14 5 .nil) (fun a hE => pld ?_)
       exact J26 _ (by omega) _ true _ _ hE .of hS H
     ·
      replace hE := hE.kf 48 c20
      refine plc hE (.r 10 9 .nil) (fun a hE => pld ?_)
      exact J26 _ (by omega) _ false _ _ hE .of hS H
    ·
     replace hE := hE.kf 43 c19
     refine plc hE (.r 5 14 .nil) (fun a hE => pld ?_)
     exact J26 _ (by omega) _ false _ _ hE .of hS H
   ·
    replace hE := hE.kf 37 c17
    refine cf hE (wp_skip ?_)
    refine qCD ?_
    refine hK4 _ _ (sq fun K32 hK32 => pl0 (plc hE (.r 0 2 .nil) (fun a hE => pld (hK32 _ _ (wp_ret ?_)))))
    replace hS := hS.tail
    obtain rfl := si H
    exact rtN hE ⟨_, rfl, _, rfl, hS⟩
mutual
def qAc.j6 : Nat → List qH → Bool → Option Int
  | 0, _, _ => none
  | k + 1, x0_, y5 => if y5 = true then (some 1) else (qAc.l18 k x0_ (-1) 0)
def qAc.l18 : Nat → List qH → Int → Int → Option Int
  | 0, _, _, _ => none
  | k + 1, x0_, x16, x17 => if x17 < (x0_.length : Int) then (if 0 ≤ x17 ∧ x17 < (x0_.length : Int) then ((qAy.f k x16 (⟨(nth qH.z x0_ x17).f0, (nth qH.z x0_ x17).f1, (nth qH.z x0_ x17).f2⟩ : qH)).bind fun t37 => (if t37.2 = true then (qAc.l18 k x0_ t37.1 (w64 (x17 + 1))) else (some 1))) else (none)) else (some 0)
end
theorem qAc.j6_s (k : Nat) (x0_ : List qH) (y5 : Bool) : qAc.j6 (k + 1) x0_ y5 = (if y5 = true then (some 1) else (qAc.l18 k x0_ (-1) 0)) := by kernel_rfl
theorem qAc.l18_s (k : Nat) (x0_ : List qH) (x16 : Int) (x17 : Int) : qAc.l18 (k + 1) x0_ x16 x17 = (if x17 < (x0_.length : Int) then (if 0 ≤ x17 ∧ x17 < (x0_.length : Int) then ((qAy.f k x16 (⟨(nth qH.z x0_ x17).f0, (nth qH.z x0_ x17).f1, (nth qH.z x0_ x17).f2⟩ : qH)).bind fun t37 => (if t37.2 = true then (qAc.l18 k x0_ t37.1 (w64 (x17 + 1))) else (some 1))) else (none)) else (some 0)) := by kernel_rfl
def qAc.f (k : Nat) (x0_ : List qH) : Option Int := if (x0_.length : Int) = 0 then (qAc.j6 k x0_ true) else (qAc.j6 k x0_ (decide ((x0_.length : Int) > 8)))
def qAc.Post (W F : World) (r : Int) (v : Value) (w' : World) : Prop := ∃ (F' : World), v = .int .i64 r ∧ St W (mine W []) F w' F' []
theorem qAc.calls (k : Nat) (x0_ : List qH) (A0_0 : Option Addr) (c0_0 : Nat) (r : Int) (W F : World) (hown : Sub F W) (g0_0 : Rd qH.k F A0_0 c0_0 x0_) (H : qAc.f k x0_ = some r) :
    Calls Tryz.prog 203 #[.slice A0_0 x0_.length c0_0] W fun e w' => ∃ v, e = .returned v ∧ qAc.Post W F r v w' := by
 have hS := St.start (Own.nil hown)
 unfold qAc.f at H
 refine enter (n := 32) rfl rfl rfl (Nat.le_of_ble_eq_true rfl) (fun a hE => ?_)
 refine sq fun K1 hK1 => pl0 (plc hE (.r 0 1 .nil) (fun a hE => pld (hK1 _ _ (sq fun K2 hK2 => sq fun K3 hK3 => ?_))))
 have J9 : ∀ kq7, kq7 ≤ k → ∀ (G : Nat → Value) (y5 : Bool) (a : Act) (w' : World), Env 32 G a → At G [(0, .slice A0_0 x0_.length c0_0), (15, .bool y5)] → St W (mine W []) F w' F [] → qAc.j6 kq7 x0_ y5 = some r → K3 a w' := by
  intro kq7 hkq G y5 a u10 hE hA hS H
  cases kq7 with
  | zero => cases (show none = some r from H)
  | succ k8 =>
   rw [qAc.j6_s] at H
   obtain ⟨J, hE⟩ := hE.at hA
   refine hK3 _ _ ?_
   rcases sp H with ⟨c11, H⟩ | ⟨c11, H⟩
   ·
    replace hE := hE.bt 15 c11
    refine ct hE (sq fun K12 hK12 => pl0 (plc hE (.r 0 1 .nil) (fun a hE => pld (hK12 _ _ (wp_ret (qCB ?_))))))
    obtain rfl := si H
    exact rt1 hE ⟨_, rfl, _, rfl, hS⟩
   ·
    replace hE := hE.bf 15 c11
    refine cf hE (wp_skip (hK2 _ _ (sq fun K13 hK13 => pl0 (plc hE (.r 0 1 .nil) (fun a hE => pld (hK13 _ _ (sq fun K14 hK14 => sq fun K15 hK15 => pl0 (plc hE (.r 0 3 .nil) (fun a hE => pld (hK15 _ _ (wp_block ?_)))))))))))
    refine wp_loop_ghost (fun kq19 a w' => ∃ (G : Nat → Value) (x16 : Int) (x17 : Int), kq19 ≤ k8 ∧ Env 32 G a ∧ At G [(3, .int .i64 x16), (16, .slice A0_0 x0_.length c0_0), (17, .int .i64 (x0_.length : Int)), (18, .int .i64 x17)] ∧ St W (mine W []) F w' F [] ∧  qAc.l18 kq19 x0_ x16 x17 = some r) k8 ⟨_, (-1), 0, Nat.le_refl _, hE, .of, hS, H⟩ ?_
    rintro kq19 a u21 ⟨G, x16, x17, hkq, hE, hA, hS, H⟩
    cases kq19 with
    | zero => cases (show none = some r from H)
    | succ k20 =>
     rw [qAc.l18_s] at H
     obtain ⟨J, hE⟩ := hE.at hA
     refine sq fun K22 hK22 => pl0 (plc hE (.r 0 1 .nil) (fun a hE => pld (hK22 _ _ (sq fun K23 hK23 => ?_))))
     rcases sp H with ⟨c24, H⟩ | ⟨c24, H⟩
     ·
      replace hE := hE.kt 19 c24
      refine ct hE (wp_skip (hK23 _ _ (sq fun K25 hK25 => wp_block (sq fun K26 hK26 => pl0 ?_))))
      obtain ⟨c27, H⟩ := gd H
      have hE_ := hE
      obtain ⟨ad28, rfl⟩ := g0_0.addr c27.1 c27.2
      replace hE := hE_
      obtain ⟨cs30, rfl, hc31⟩ := g0_0.el qH.z x17 c27.1 c27.2
      refine plc hE (.x 0 c27 <| .cs 1 (hS.fcs hc31) <| .nil) (fun a hE => ple hE (.al (t := 175) hS [.int .i64 0, .int .i64 0, .int .i64 0]) ?_)
      rintro _ u33 a ⟨b32, rfl, hb32, hS, hg⟩ hE
      refine ple hE (.sto hS [.int .i64 ((nth qH.z x0_ x17).f0), .int .i64 ((nth qH.z x0_ x17).f1), .int .i64 ((nth qH.z x0_ x17).f2)]) ?_
      rintro _ u34 a ⟨rfl, hb32, hS, hz⟩ hE
      refine pld (hK26 _ _ (sq fun K35 hK35 => pl0 (plc hE (.r 0 1 <| .bn 1 0 3 hb32 <| .nil) (fun a hE => ?_))))
      obtain ⟨t37, h38, H⟩ := bd H
      refine ple hE (.cl en224 (qAy.calls k20 x16 (⟨(nth qH.z x0_ x17).f0, (nth qH.z x0_ x17).f1, (nth qH.z x0_ x17).f2⟩ : qH) _ _ _ hS.own.sub h38)) ?_
      rintro _ u36 a ⟨_, rfl, hC⟩ hE
      replace hS := hS.lent hC
      refine plc hE (.r 3 5 .nil) (fun a hE => pld (hK35 _ _ (sq fun K39 hK39 => sq fun K40 hK40 => pl0 (plc hE (.r 0 2 .nil) (fun a hE => pld (hK40 _ _ ?_))))))
      rcases sp H with ⟨c41, H⟩ | ⟨c41, H⟩
      ·
       replace hE := hE.btn 29 c41
       refine cf hE (wp_skip (hK39 _ _ (pl0 (plc hE (.r 0 2 .nil) (fun a hE => pld ?_)))))
       refine qCD ?_
       refine hK25 _ _ (pl0 (plc hE (.r 0 2 .nil) (fun a hE => pld ?_)))
       replace hS := hS.tail
       exact qCE ⟨k20, by omega, _, t37.1, (w64 (x17 + 1)), by omega, hE, .of, hS, H⟩
      ·
       replace hE := hE.bfn 29 c41
       refine ct hE (sq fun K42 hK42 => pl0 (plc hE (.r 0 1 .nil) (fun a hE => pld (hK42 _ _ (wp_ret (qCB (qCC (qCB (qCB (qCC (qCB ?_)))))))))))
       replace hS := hS.tail
       obtain rfl := si H
       exact rt1 hE ⟨_, rfl, _, rfl, hS⟩
     ·
      replace hE := hE.kf 19 c24
      refine cf hE ?_
      refine wp_exit ?_
      refine hK14 _ _ (sq fun K43 hK43 => pl0 (plc hE (.r 0 1 .nil) (fun a hE => pld (hK43 _ _ (wp_ret ?_)))))
      obtain rfl := si H
      exact rt1 hE ⟨_, rfl, _, rfl, hS⟩
 refine pl0 (plc hE (.r 0 4 .nil) (fun a hE => ?_))
 rcases sp H with ⟨c4, H⟩ | ⟨c4, H⟩
 ·
  replace hE := hE.kt 11 c4
  refine plc hE (.r 4 4 .nil) (fun a hE => pld ?_)
  exact J9 _ (by omega) _ true _ _ hE .of hS H
 ·
  replace hE := hE.kf 11 c4
  refine plc hE (.r 4 4 .nil) (fun a hE => pld ?_)
  exact J9 _ (by omega) _ (decide ((x0_.length : Int) > 8)) _ _ hE .of hS H
def qBc.f (x0_ : qA) : Option Bool := some true
def qBc.Post (W F : World) (r : Bool) (v : Value) (w' : World) : Prop := ∃ (F' : World), v = .bool r ∧ St W (mine W []) F w' F' []
theorem qBc.calls (x0_ : qA) (r : Bool) (W F : World) (hown : Sub F W) (H : qBc.f x0_ = some r) :
    Calls Tryz.prog 237 #[.agg #[.int .i64 x0_.f0, .int .i64 x0_.f1, .int .i64 x0_.f2, .int .i64 x0_.f3, .bool x0_.f4, .bool x0_.f5]] W fun e w' => ∃ v, e = .returned v ∧ qBc.Post W F r v w' := by
 have hS := St.start (Own.nil hown)
 unfold qBc.f at H
 refine enter (n := 3) rfl rfl rfl (Nat.le_of_ble_eq_true rfl) (fun a hE => ?_)
 refine sq fun K1 hK1 => pl0 (ple hE (.bx (t := 104) hS [.int .i64 x0_.f0, .int .i64 x0_.f1, .int .i64 x0_.f2, .int .i64 x0_.f3, .bool x0_.f4, .bool x0_.f5]) ?_)
 rintro _ u3 a ⟨b2, rfl, hb2, hS, hg⟩ hE
 refine plc hE (.r 1 1 .nil) (fun a hE => pld (hK1 _ _ (sq fun K4 hK4 => pl0 (plc hE (.r 0 1 .nil) (fun a hE => pld (hK4 _ _ (wp_ret ?_)))))))
 replace hS := hS.tail
 obtain rfl := si H
 exact rt1 hE ⟨_, rfl, _, rfl, hS⟩
def qBP.f (x0_ : qA) : Option Int := some x0_.f1
def qBP.Post (W F : World) (r : Int) (v : Value) (w' : World) : Prop := ∃ (F' : World), v = .int .i64 r ∧ St W (mine W []) F w' F' []
theorem qBP.calls (x0_ : qA) (r : Int) (W F : World) (hown : Sub F W) (H : qBP.f x0_ = some r) :
    Calls Tryz.prog 238 #[.agg #[.int .i64 x0_.f0, .int .i64 x0_.f1, .int .i64 x0_.f2, .int .i64 x0_.f3, .bool x0_.f4, .bool x0_.f5]] W fun e w' => ∃ v, e = .returned v ∧ qBP.Post W F r v w' := by
 have hS := St.start (Own.nil hown)
 unfold qBP.f at H
 refine enter (n := 5) rfl rfl rfl (Nat.le_of_ble_eq_true rfl) (fun a hE => ?_)
 refine sq fun K1 hK1 => pl0 (ple hE (.bx (t := 104) hS [.int .i64 x0_.f0, .int .i64 x0_.f1, .int .i64 x0_.f2, .int .i64 x0_.f3, .bool x0_.f4, .bool x0_.f5]) ?_)
 rintro _ u3 a ⟨b2, rfl, hb2, hS, hg⟩ hE
 refine plc hE (.r 1 1 .nil) (fun a hE => pld (hK1 _ _ (sq fun K4 hK4 => pl0 (plc hE (.r 0 1 <| .b 1 1 hb2 <| .r 2 1 <| .nil) (fun a hE => pld (hK4 _ _ (wp_ret ?_)))))))
 replace hS := hS.tail
 obtain rfl := si H
 exact rt1 hE ⟨_, rfl, _, rfl, hS⟩
def qBF.f (x0_ : qB) (x1_ : Int) : Option Int := (qAk.f x0_.f0 x1_).bind fun t6 => (some t6)
def qBF.Post (W F : World) (r : Int) (v : Value) (w' : World) : Prop := ∃ (F' : World), v = .int .i64 r ∧ St W (mine W []) F w' F' []
theorem qBF.calls (x0_ : qB) (x1_ : Int) (r : Int) (W F : World) (hown : Sub F W) (H : qBF.f x0_ x1_ = some r) :
    Calls Tryz.prog 255 #[.agg #[.int .i64 x0_.f0, .int .i64 x0_.f1], .int .i64 x1_] W fun e w' => ∃ v, e = .returned v ∧ qBF.Post W F r v w' := by
 have hS := St.start (Own.nil hown)
 unfold qBF.f at H
 refine enter (n := 9) rfl rfl rfl (Nat.le_of_ble_eq_true rfl) (fun a hE => ?_)
 refine sq fun K1 hK1 => pl0 (ple hE (.bx (t := 216) hS [.int .i64 x0_.f0, .int .i64 x0_.f1]) ?_)
 rintro _ u3 a ⟨b2, rfl, hb2, hS, hg⟩ hE
 refine plc hE (.r 1 1 .nil) (fun a hE => pld (hK1 _ _ (sq fun K4 hK4 => pl0 (plc hE (.r 0 1 <| .b 1 0 hb2 <| .r 2 1 <| .nil) (fun a hE => ?_)))))
 obtain ⟨t6, h7, H⟩ := bd H
 refine ple hE (.cl en161 (qAk.calls x0_.f0 x1_ _ _ _ hS.own.sub h7)) ?_
 rintro _ u5 a ⟨_, rfl, hC⟩ hE
 replace hS := hS.lent hC
 refine plc hE (.r 4 1 .nil) (fun a hE => pld (hK4 _ _ (wp_ret ?_)))
 replace hS := hS.tail
 obtain rfl := si H
 exact rt1 hE ⟨_, rfl, _, rfl, hS⟩
def qF.l7 : Nat → List qB → Int → Int → Int → Option (Int × Bool)
  | 0, _, _, _, _ => none
  | k + 1, x0_, x1_, x5, x6 => if x5 < x6 then (if 0 ≤ (w64 ((IntKind.u64.wrap (w64 (x5 + x6))).fdiv 2)) ∧ (w64 ((IntKind.u64.wrap (w64 (x5 + x6))).fdiv 2)) < (x0_.length : Int) then ((qBF.f (⟨(nth qB.z x0_ (w64 ((IntKind.u64.wrap (w64 (x5 + x6))).fdiv 2))).f0, (nth qB.z x0_ (w64 ((IntKind.u64.wrap (w64 (x5 + x6))).fdiv 2))).f1⟩ : qB) x1_).bind fun t22 => (if t22 < 0 then (qF.l7 k x0_ x1_ (w64 ((w64 ((IntKind.u64.wrap (w64 (x5 + x6))).fdiv 2)) + 1)) x6) else (qF.l7 k x0_ x1_ x5 (w64 ((IntKind.u64.wrap (w64 (x5 + x6))).fdiv 2))))) else (none)) else (if x5 < (x0_.length : Int) then (if 0 ≤ x5 ∧ x5 < (x0_.length : Int) then ((qBF.f (⟨(nth qB.z x0_ x5).f0, (nth qB.z x0_ x5).f1⟩ : qB) x1_).bind fun t33 => (some (x5, (t33 == 0)))) else (none)) else (some (x5, false)))
theorem qF.l7_s (k : Nat) (x0_ : List qB) (x1_ : Int) (x5 : Int) (x6 : Int) : qF.l7 (k + 1) x0_ x1_ x5 x6 = (if x5 < x6 then (if 0 ≤ (w64 ((IntKind.u64.wrap (w64 (x5 + x6))).fdiv 2)) ∧ (w64 ((IntKind.u64.wrap (w64 (x5 + x6))).fdiv 2)) < (x0_.length : Int) then ((qBF.f (⟨(nth qB.z x0_ (w64 ((IntKind.u64.wrap (w64 (x5 + x6))).fdiv 2))).f0, (nth qB.z x0_ (w64 ((IntKind.u64.wrap (w64 (x5 + x6))).fdiv 2))).f1⟩ : qB) x1_).bind fun t22 => (if t22 < 0 then (qF.l7 k x0_ x1_ (w64 ((w64 ((IntKind.u64.wrap (w64 (x5 + x6))).fdiv 2)) + 1)) x6) else (qF.l7 k x0_ x1_ x5 (w64 ((IntKind.u64.wrap (w64 (x5 + x6))).fdiv 2))))) else (none)) else (if x5 < (x0_.length : Int) then (if 0 ≤ x5 ∧ x5 < (x0_.length : Int) then ((qBF.f (⟨(nth qB.z x0_ x5).f0, (nth qB.z x0_ x5).f1⟩ : qB) x1_).bind fun t33 => (some (x5, (t33 == 0)))) else (none)) else (some (x5, false)))) := by kernel_rfl
def qF.f (k : Nat) (x0_ : List qB) (x1_ : Int) : Option (Int × Bool) := qF.l7 k x0_ x1_ 0 (x0_.length : Int)
def qF.Post (W F : World) (r : Int × Bool) (v : Value) (w' : World) : Prop := ∃ (F' : World), v = .tuple #[.int .i64 r.1, .bool r.2] ∧ St W (mine W []) F w' F' []
theorem qF.calls (k : Nat) (x0_ : List qB) (x1_ : Int) (A0_0 : Option Addr) (c0_0 : Nat) (r : Int × Bool) (W F : World) (hown : Sub F W) (g0_0 : Rd qB.k F A0_0 c0_0 x0_) (H : qF.f k x0_ x1_ = some r) :
    Calls Tryz.prog 254 #[.slice A0_0 x0_.length c0_0, .int .i64 x1_, .func (.func 255) #[] #[]] W fun e w' => ∃ v, e = .returned v ∧ qF.Post W F r v w' := by
 have hS := St.start (Own.nil hown)
 unfold qF.f at H
 refine enter (n := 49) rfl rfl rfl (Nat.le_of_ble_eq_true rfl) (fun a hE => ?_)
 refine sq fun K1 hK1 => pl0 (plc hE (.r 0 2 .nil) (fun a hE => pld (hK1 _ _ (sq fun K2 hK2 => pl0 (plc hE (.r 0 3 .nil) (fun a hE => pld (hK2 _ _ (sq fun K3 hK3 => pl0 (plc hE (.r 0 3 .nil) (fun a hE => pld (hK3 _ _ (sq fun K4 hK4 => wp_block ?_))))))))))))
 refine wp_loop_ghost (fun kq8 a w' => ∃ (G : Nat → Value) (x5 : Int) (x6 : Int), kq8 ≤ k ∧ Env 49 G a ∧ At G [(0, .slice A0_0 x0_.length c0_0), (1, .int .i64 x1_), (2, .func (.func 255) #[] #[]), (8, .int .i64 (x0_.length : Int)), (9, .int .i64 x5), (10, .int .i64 x6)] ∧ St W (mine W []) F w' F [] ∧  qF.l7 kq8 x0_ x1_ x5 x6 = some r) k ⟨_, 0, (x0_.length : Int), Nat.le_refl _, hE, .of, hS, H⟩ ?_
 rintro kq8 a u10 ⟨G, x5, x6, hkq, hE, hA, hS, H⟩
 cases kq8 with
 | zero => cases (show none = some r from H)
 | succ k9 =>
  rw [qF.l7_s] at H
  obtain ⟨J, hE⟩ := hE.at hA
  refine sq fun K11 hK11 => sq fun K12 hK12 => pl0 (plc hE (.r 0 3 .nil) (fun a hE => pld (hK12 _ _ ?_)))
  rcases sp H with ⟨c13, H⟩ | ⟨c13, H⟩
  ·
   replace hE := hE.kt 17 c13
   refine ct hE (wp_skip (hK11 _ _ (wp_block (sq fun K14 hK14 => pl0 (plc hE (.r 0 7 .nil) (fun a hE => pld (hK14 _ _ (sq fun K15 hK15 => pl0 ?_))))))))
   obtain ⟨c16, H⟩ := gd H
   have hE_ := hE
   obtain ⟨ad17, rfl⟩ := g0_0.addr c16.1 c16.2
   replace hE := hE_
   obtain ⟨cs19, rfl, hc20⟩ := g0_0.el qB.z (w64 ((IntKind.u64.wrap (w64 (x5 + x6))).fdiv 2)) c16.1 c16.2
   refine plc hE (.r 0 3 <| .x 3 c16 <| .cs 4 (hS.fcs hc20) <| .r 5 1 <| .nil) (fun a hE => ?_)
   obtain ⟨t22, h23, H⟩ := bd H
   refine ple hE (.cl en255 (qBF.calls (⟨(nth qB.z x0_ (w64 ((IntKind.u64.wrap (w64 (x5 + x6))).fdiv 2))).f0, (nth qB.z x0_ (w64 ((IntKind.u64.wrap (w64 (x5 + x6))).fdiv 2))).f1⟩ : qB) x1_ _ _ _ hS.own.sub h23)) ?_
   rintro _ u21 a ⟨_, rfl, hC⟩ hE
   replace hS := hS.lent hC
   refine plc hE (.r 7 1 .nil) (fun a hE => pld (hK15 _ _ ?_))
   rcases sp H with ⟨c24, H⟩ | ⟨c24, H⟩
   ·
    replace hE := hE.kt 31 c24
    refine ct hE (pl0 (plc hE (.r 0 3 .nil) (fun a hE => pld ?_)))
    refine qCD ?_
    exact qCE ⟨k9, by omega, _, (w64 ((w64 ((IntKind.u64.wrap (w64 (x5 + x6))).fdiv 2)) + 1)), x6, by omega, hE, .of, hS, H⟩
   ·
    replace hE := hE.kf 31 c24
    refine cf hE (pl0 (plc hE (.r 0 2 .nil) (fun a hE => pld ?_)))
    refine qCD ?_
    exact qCE ⟨k9, by omega, _, x5, (w64 ((IntKind.u64.wrap (w64 (x5 + x6))).fdiv 2)), by omega, hE, .of, hS, H⟩
  ·
   replace hE := hE.kf 17 c13
   refine cf hE ?_
   refine wp_exit ?_
   refine hK4 _ _ (sq fun K25 hK25 => pl0 (plc hE (.r 0 5 .nil) (fun a hE => ?_)))
   rcases sp H with ⟨c26, H⟩ | ⟨c26, H⟩
   ·
    replace hE := hE.kt 39 c26
    obtain ⟨c27, H⟩ := gd H
    have hE_ := hE
    obtain ⟨ad28, rfl⟩ := g0_0.addr c27.1 c27.2
    replace hE := hE_
    obtain ⟨cs30, rfl, hc31⟩ := g0_0.el qB.z x5 c27.1 c27.2
    refine plc hE (.r 5 3 <| .x 8 c27 <| .cs 9 (hS.fcs hc31) <| .r 10 1 <| .nil) (fun a hE => ?_)
    obtain ⟨t33, h34, H⟩ := bd H
    refine ple hE (.cl en255 (qBF.calls (⟨(nth qB.z x0_ x5).f0, (nth qB.z x0_ x5).f1⟩ : qB) x1_ _ _ _ hS.own.sub h34)) ?_
    rintro _ u32 a ⟨_, rfl, hC⟩ hE
    replace hS := hS.lent hC
    refine plc hE (.r 12 4 .nil) (fun a hE => pld (hK25 _ _ (wp_ret ?_)))
    obtain rfl := si H
    exact rtN hE ⟨_, rfl, _, rfl, hS⟩
   ·
    replace hE := hE.kf 39 c26
    refine plc hE (.r 5 11 .nil) (fun a hE => pld (hK25 _ _ (wp_ret ?_)))
    obtain rfl := si H
    exact rtN hE ⟨_, rfl, _, rfl, hS⟩
def qr.f (x0_ : List qB) (x1_ : Int) (x2_ : List qB) : Option (List qB) := match x2_ with
  | [x] => if 0 ≤ x1_ ∧ x1_ ≤ (x0_.length : Int) ∧ x0_.length ≤ 1000000 then some (x0_.take x1_.toNat ++ x :: x0_.drop x1_.toNat) else none
  | _ => none
def qr.Post (x0_ : List qB) (x1_ : Int) (x2_ : List qB) (A0_0 : Option Addr) (c0_0 : Nat) (A2_0 : Option Addr) (c2_0 : Nat) (W F : World) (r : List qB) (v : Value) (w' : World) : Prop := ∃ (F' : World) (RA0_0 : Option Addr) (rc0_0 : Nat), v = .slice RA0_0 r.length rc0_0 ∧ St W (mine W [row qB.k 216 (.slice A0_0 x0_.length c0_0) x0_, row qB.k 216 (.slice A2_0 x2_.length c2_0) x2_]) F w' F' [row qB.k 216 (.slice RA0_0 r.length rc0_0) r]
set_option maxHeartbeats 4000000 in
set_option maxRecDepth 100000 in
theorem qr.calls (x0_ : List qB) (x1_ : Int) (x2_ : List qB) (A0_0 : Option Addr) (c0_0 : Nat) (A2_0 : Option Addr) (c2_0 : Nat) (r : List qB) (W F : World) (hown : Own W F [row qB.k 216 (.slice A0_0 x0_.length c0_0) x0_, row qB.k 216 (.slice A2_0 x2_.length c2_0) x2_]) (H : qr.f x0_ x1_ x2_ = some r) :
    Calls Tryz.prog 256 #[.slice A0_0 x0_.length c0_0, .int .i64 x1_, .slice A2_0 x2_.length c2_0] W fun e w' => ∃ v, e = .returned v ∧ qr.Post x0_ x1_ x2_ A0_0 c0_0 A2_0 c2_0 W F r v w' := by
  have hS := St.start hown
  unfold qr.f at H
  rcases x2_ with _ | ⟨x, _ | ⟨y, l⟩⟩
  · cases H
  rotate_left
  · cases H
  replace H : (if 0 ≤ x1_ ∧ x1_ ≤ (x0_.length : Int) ∧ x0_.length ≤ 1000000 then some (x0_.take x1_.toNat ++ x :: x0_.drop x1_.toNat) else none) = some r := H
  by_cases hc : 0 ≤ x1_ ∧ x1_ ≤ (x0_.length : Int) ∧ x0_.length ≤ 1000000
  rotate_left
  · rw [if_neg hc] at H; cases H
  rw [if_pos hc] at H
  have hr := Option.some.inj H
  clear H
  obtain ⟨h0, h1, hm⟩ := hc
  obtain ⟨j, rfl⟩ : ∃ j : Nat, x1_ = j := ⟨x1_.toNat, by omega⟩
  simp only [Int.toNat_natCast] at hr
  refine enter (n := 95) rfl rfl rfl (Nat.le_of_ble_eq_true rfl) (fun a hE => ?_)
  obtain ⟨A12, c12, hA12, hv12⟩ := y_suf (P := Tryz.prog) (k := .i64) (hS.row_at (i := 0) rfl) ⟨h0, h1⟩
  refine sq fun K0 hK0 => ?_
  refine pl0 ?_
  refine plc hE (.r 0 1 .nil) (fun a hE => ?_)
  refine pld ?_
  refine hK0 _ _ ?_
  refine sq fun K1 hK1 => ?_
  refine pl0 ?_
  refine plc hE (.r 0 2 <| .y 2 (hv12 (by kernel_rfl)) .nil) (fun a hE => ?_)
  refine pld ?_
  refine hK1 _ _ ?_
  refine sq fun K2 hK2 => ?_
  refine pl0 ?_
  refine plc hE (.r 0 3 .nil) (fun a hE => ?_)
  refine pld ?_
  refine hK2 _ _ ?_
  refine sq fun K3 hK3 => ?_
  refine sq fun K4 hK4 => ?_
  refine pl0 ?_
  refine plc hE (.r 0 2 .nil) (fun a hE => ?_)
  refine pld ?_
  refine hK4 _ _ ?_
  refine cf hE ?_
  refine wp_skip ?_
  refine hK3 _ _ ?_
  refine sq fun K5 hK5 => ?_
  refine pl0 ?_
  refine plc hE (.r 0 3 .nil) (fun a hE => ?_)
  refine pld ?_
  refine hK5 _ _ ?_
  refine sq fun K6 hK6 => ?_
  refine sq fun K7 hK7 => ?_
  refine pl0 ?_
  refine plc hE (.r 0 3 .nil) (fun a hE => ?_)
  refine pld ?_
  refine hK7 _ _ ?_
  by_cases hi : (j : Int) = (x0_.length : Int)
  · replace hE := hE.kt 22 hi
    refine ct hE ?_
    obtain rfl : j = x0_.length := by omega
    obtain rfl : x0_ ++ [x] = r := by rw [← hr]; simp
    refine sq fun K8 hK8 => ?_
    refine pl0 ?_
    refine plc hE (.r 0 2 .nil) (fun a hE => ?_)
    refine ple hE (.ap (d := qB.k) 16 hS (qCM (hS.row_at (i := 1) rfl)) (by simp only [List.length_cons, List.length_nil]; omega) c2_0) ?_
    rintro _ w1 a ⟨A1, c1, rfl, hS, hz⟩ hE
    refine plc hE (.r 3 1 .nil) (fun a hE => ?_)
    refine pld ?_
    refine hK8 _ _ ?_
    refine wp_ret (qCB ?_)
    replace hS := hS.front 1 rfl
    replace hS := hS.tail
    exact rt1 hE ⟨_, rfl, F, _, _, rfl, hS⟩
  replace hE := hE.kf 22 hi
  refine cf hE ?_
  refine wp_skip ?_
  refine hK6 _ _ ?_
  have hlt : j < x0_.length := by omega
  have hxc : x0_.length ≤ c0_0 ∧ c0_0 ≤ maxLen := by
    obtain ⟨_, q1, q2, _⟩ := qCF (hS.row_at (i := 0) rfl)
    exact ⟨q1, q2⟩
  have hxc2 : [x].length ≤ c2_0 := (qCF (hS.row_at (i := 1) rfl)).2.1
  have hE_ := hE
  obtain ⟨g, cur, rfl, hsz, hrep, hS⟩ := hS.unrow (by omega)
  replace hS := hS.front 1 rfl
  obtain ⟨g2, cur2, rfl, hsz2, hrep2, hS⟩ := hS.unrow (by simp)
  replace hE := hE_
  have hne : g2 ≠ g := hS.ne (i := 0) (j := 1) rfl rfl (by decide)
  obtain ⟨cs, hcs⟩ : ∃ cs, cs = cur2.toList.take 2 := ⟨_, rfl⟩
  have hx : (qB.k).K F x cs := by
    have h5 := hrep2.2 0 x rfl
    rw [Nat.zero_mul, List.drop_zero, List.take_take] at h5
    rw [hcs]
    exact h5
  have hcl : cs.length = 2 := (qB.k).len hx
  have hcget : ∀ q u, cs[q]? = some u → cur2[q]? = some u := fun q u hq => by
    rw [hcs, List.getElem?_take] at hq
    split at hq
    · rwa [Array.getElem?_toList] at hq
    · cases hq
  have hcone : ∀ u ∈ cs, u.oneCell' = true := (qB.k).one hx
  obtain ⟨inner, hin⟩ : ∃ inner, inner = cur.toList.take (x0_.length * 2) := ⟨_, rfl⟩
  replace hrep : RepsK qB.k F x0_ inner := by rw [hin]; exact hrep
  have hil : inner.length = x0_.length * 2 := hrep.1
  have hione : ∀ u ∈ inner.drop (j * 2), u.oneCell' = true := fun u hu => hrep.one u (List.mem_of_mem_drop hu)
  have hidl : (inner.drop (j * 2)).length = (x0_.length - j) * 2 := by rw [List.length_drop, hil, Nat.sub_mul]
  have higet : ∀ q u, (inner.drop (j * 2))[q]? = some u → cur[j * 2 + q]? = some u := fun q u hq => by
    rw [List.getElem?_drop, hin, List.getElem?_take] at hq
    split at hq
    · rwa [Array.getElem?_toList] at hq
    · cases hq
  replace hsz : cur.size = c0_0 * 2 := hsz
  have hw1 : w64 ((x0_.length : Int) + (([x].length : Nat) : Int)) = ((x0_.length + 1 : Nat) : Int) := by
    simp only [List.length_cons, List.length_nil]
    rw [qCJ (by omega) (by omega)]
    omega
  have hw2 : w64 ((j : Int) + (([x].length : Nat) : Int)) = ((j + 1 : Nat) : Int) := by
    simp only [List.length_cons, List.length_nil]
    rw [qCJ (by omega) (by omega)]
    omega
  refine sq fun K9 hK9 => ?_
  refine sq fun K10 hK10 => ?_
  refine pl0 ?_
  refine plc hE (.r 0 4 <| .y 4 (y_cap (A := some ⟨g, 0, none⟩) (n := x0_.length) (c := c0_0)) <| .r 5 1 .nil) (fun a hE => ?_)
  refine pld ?_
  refine hK10 _ _ ?_
  by_cases hroom : w64 ((x0_.length : Int) + (([x].length : Nat) : Int)) > (c0_0 : Int)
  · replace hE := hE.kt 31 hroom
    rw [hw1] at hroom
    refine ct hE ?_
    have hw3 : w64 (w64 ((x0_.length : Int) + (([x].length : Nat) : Int)) - (j : Int)) = ((x0_.length + 1 - j : Nat) : Int) := by
      rw [hw1, qCJ (by omega) (by omega)]
      omega
    refine sq fun K11 hK11 => ?_
    refine pl0 ?_
    refine plc hE (.r 0 2 <| .y 2 (y_hi (e := 216) (z := 2) (g := g) (n := x0_.length) (c := c0_0) (k := .i64) (hi := (j : Int)) ⟨by omega, by omega⟩) <| .r 3 5 .nil) (fun a hE => ?_)
    refine ple hE (.gro (e := 216) (g := g) (c := c0_0) (j := j) (z := 2) (bytes := 16) (k := w64 (w64 ((x0_.length : Int) + (([x].length : Nat) : Int)) - (j : Int))) hS (hS.blk_at (i := 1) rfl) (by omega) (by omega) (by rw [hsz]; exact Nat.mul_le_mul_right _ (by omega)) (by rw [hw3]; omega) (by kernel_rfl)) ?_
    rintro _ w1 a ⟨b, arr, cc, rfl, has, hc1, hc2, hpre, hS, hag⟩ hE
    rw [hw3] at hc1 hE
    have hnb : g2 ≠ b := hS.ne (i := 1) (j := 0) rfl rfl (by decide)
    have hgb : g ≠ b := hS.ne (i := 2) (j := 0) rfl rfl (by decide)
    have hk3 : j + ((x0_.length + 1 - j : Nat) : Int).toNat = x0_.length + 1 := by rw [Int.toNat_natCast]; omega
    rw [hk3] at hc1 hE
    have hpi : arr.toList.take (j * 2) = inner.take (j * 2) := by
      rw [hpre, hin, List.take_take, Nat.min_eq_left (Nat.mul_le_mul_right _ (by omega))]
    obtain ⟨s1, s2, s3⟩ := qDY (sz := 2) (n := x0_.length) (i := j) (cap := cc) (c0 := arr.toList) (inner := inner) (cs := cs) hpi hil hcl (by omega) hc1 (by rw [Array.length_toList]; exact has)
    obtain ⟨C1, hC1⟩ : ∃ C1, C1 = arr.toList.take (j * 2) ++ cs ++ arr.toList.drop (j * 2 + cs.length) := ⟨_, rfl⟩
    rw [← hC1] at s1 s2 s3
    obtain ⟨C2, hC2⟩ : ∃ C2, C2 = C1.take ((j + 1) * 2) ++ inner.drop (j * 2) ++ C1.drop ((j + 1) * 2 + (inner.drop (j * 2)).length) := ⟨_, rfl⟩
    rw [← hC2] at s1 s2
    refine plc hE (.r 9 1 .nil) (fun a hE => ?_)
    refine pld ?_
    refine hK11 _ _ ?_
    refine sq fun K12 hK12 => ?_
    refine pl0 ?_
    refine plc hE (.r 0 2 <| .y 2 (y_lo (e := 216) (z := 2) (g := b) (n := x0_.length + 1) (c := cc) (k := .i64) (lo := (j : Int)) ⟨by omega, by omega⟩ (by omega)) <| .r 3 1 .nil) (fun a hE => ?_)
    have hb2 := hS.blk_at (i := 1) rfl
    have hbg := hS.blk_at (i := 2) rfl
    have hmin1 : Nat.min [x].length (x0_.length + 1 - (j : Int).toNat) = 1 := by
      rw [Int.toNat_natCast]
      simp only [List.length_cons, List.length_nil]
      exact Nat.min_eq_left (by omega)
    refine ple hE (.cpy (e := 216) (z := 2) (off := (j : Int).toNat * 2) (dn := x0_.length + 1 - (j : Int).toNat) (dc := cc - (j : Int).toNat) (sn := [x].length) (sc := c2_0) (sa := ⟨g2, 0, none⟩) hS cs (by rw [hmin1, hcl]) (fun q u hq => by rw [qCQ, Nat.zero_add]; exact qCL hb2 (hcget q u hq)) hcone (by
      rw [Int.toNat_natCast, has, hcl]
      have := Nat.mul_le_mul_right 2 (show j + 1 ≤ cc by omega)
      omega) (by kernel_rfl)) ?_
    rintro _ w2 a ⟨rfl, hS, hz, hnew, hoth⟩ hE
    simp only [Int.toNat_natCast] at hS hnew
    rw [← hC1] at hS hnew
    refine pld ?_
    refine hK12 _ _ ?_
    refine sq fun K13 hK13 => ?_
    refine drawn 9 ⟨[8], [], fun q => False⟩ mixed rfl (by kernel_rfl) (fun hst => ?_)
    replace hS := hS.drew
    have hbg2 := hS.blk_at (i := 2) rfl
    refine mny 1 hst hE (.r 0 4 <| .y 4 (y_lo (e := 216) (z := 2) (g := b) (n := x0_.length + 1) (c := cc) (k := .i64) (lo := w64 ((j : Int) + (([x].length : Nat) : Int))) ⟨by omega, by omega⟩ (by omega)) <| .r 5 2 <| .y 7 (y_lo (e := 216) (z := 2) (g := g) (n := x0_.length) (c := c0_0) (k := .i64) (lo := (j : Int)) ⟨by omega, by omega⟩ (by omega)) .nil) (fun a hE => ?_)
    refine on1 8 hE (.cpy (e := 216) (z := 2) (off := (w64 ((j : Int) + (([x].length : Nat) : Int))).toNat * 2) (dn := x0_.length + 1 - (w64 ((j : Int) + (([x].length : Nat) : Int))).toNat) (dc := cc - (w64 ((j : Int) + (([x].length : Nat) : Int))).toNat) (sn := x0_.length - (j : Int).toNat) (sc := c0_0 - (j : Int).toNat) (sa := ⟨g, (j : Int).toNat * 2, none⟩) hS (inner.drop (j * 2)) (by
      rw [hw2, Int.toNat_natCast, Int.toNat_natCast, hidl, show x0_.length + 1 - (j + 1) = x0_.length - j by omega]
      congr 1
      exact (Nat.min_self _).symm) (fun q u hq => by rw [qCQ, Int.toNat_natCast]; exact qCL hbg2 (higet q u hq)) hione (by
      rw [hw2, Int.toNat_natCast, hidl, List.size_toArray, s3, ← Nat.add_mul]
      exact Nat.mul_le_mul_right _ (by omega)) (by kernel_rfl)) ?_
    rintro _ w3 a ⟨rfl, hS, hz, hnew, hoth⟩ hE
    refine ⟨.d, ?_⟩
    refine dn ?_
    rw [hw2, Int.toNat_natCast] at hS
    simp only [List.toList_toArray] at hS
    rw [← hC2] at hS
    refine hK13 _ _ ?_
    refine sq fun K14 hK14 => ?_
    refine pl0 ?_
    refine plc hE (.r 0 2 .nil) (fun a hE => ?_)
    refine pld ?_
    refine hK14 _ _ ?_
    refine wp_ret (qCB ?_)
    have hrl : r.length = x0_.length + 1 := by rw [← hr]; simp; omega
    have hrr : RepsK qB.k F r (C2.toArray.toList.take (r.length * (qB.k).sz)) := by
      rw [hrl]
      show RepsK qB.k F r (C2.take ((x0_.length + 1) * 2))
      rw [s1, ← hr]
      exact qCb hrep hx (by omega) rfl
    have hS2 := hS.rerow (c := cc) r (show C2.toArray.size = cc * 2 by simpa using s2) (by omega) hc2 hrr
    replace hS2 := hS2.front 1 rfl
    replace hS2 := hS2.tail
    replace hS2 := hS2.front 1 rfl
    replace hS2 := hS2.tail
    rw [← hrl] at hE
    exact rt1 hE ⟨_, rfl, F, _, _, rfl, hS2⟩
  replace hE := hE.kf 31 hroom
  rw [hw1] at hroom
  have hrm : x0_.length + 1 ≤ c0_0 := by omega
  refine cf hE ?_
  refine wp_skip ?_
  refine hK9 _ _ ?_
  obtain ⟨s1, s2, s3⟩ := qDu (sz := 2) (n := x0_.length) (i := j) (cap := c0_0) (cur := cur.toList) (inner := inner) (cs := cs) hin.symm hcl (by omega) hrm (by rw [Array.length_toList]; exact hsz)
  obtain ⟨C1, hC1⟩ : ∃ C1, C1 = cur.toList.take ((j + 1) * 2) ++ inner.drop (j * 2) ++ cur.toList.drop ((j + 1) * 2 + (inner.drop (j * 2)).length) := ⟨_, rfl⟩
  rw [← hC1] at s1 s2 s3
  obtain ⟨C2, hC2⟩ : ∃ C2, C2 = C1.take (j * 2) ++ cs ++ C1.drop (j * 2 + cs.length) := ⟨_, rfl⟩
  rw [← hC2] at s1 s2
  refine sq fun K15 hK15 => ?_
  refine pl0 ?_
  refine plc hE (.r 0 4 <| .y 4 (y_hi (e := 216) (z := 2) (g := g) (n := x0_.length) (c := c0_0) (k := .i64) (hi := w64 ((x0_.length : Int) + (([x].length : Nat) : Int))) ⟨by omega, by omega⟩) <| .r 5 1 .nil) (fun a hE => ?_)
  refine pld ?_
  refine hK15 _ _ ?_
  have hn1 : (w64 ((x0_.length : Int) + (([x].length : Nat) : Int))).toNat = x0_.length + 1 := by rw [hw1, Int.toNat_natCast]
  rw [hn1] at hE
  refine sq fun K16 hK16 => ?_
  refine sq fun K17 hK17 => ?_
  refine pl0 ?_
  refine plc hE (.r 0 5 <| .y 5 (y_lo (e := 216) (z := 2) (g := g) (n := x0_.length + 1) (c := c0_0) (k := .i64) (lo := w64 ((j : Int) + (([x].length : Nat) : Int))) ⟨by omega, by omega⟩ (by omega)) .nil) (fun a hE => ?_)
  have hb2 := hS.blk_at (i := 0) rfl
  have hbg := hS.blk_at (i := 1) rfl
  have hcz : cur.size ≠ 0 := by rw [hsz]; exact Nat.mul_ne_zero (by omega) (by decide)
  refine ple hE (.ext (f := 261) (args := [.slice (some ⟨g2, 0, none⟩) [x].length c2_0, .slice (some ⟨g, (w64 ((j : Int) + (([x].length : Nat) : Int))).toNat * 2, none⟩) (x0_.length + 1 - (w64 ((j : Int) + (([x].length : Nat) : Int))).toNat) (c0_0 - (w64 ((j : Int) + (([x].length : Nat) : Int))).toNat)]) (v := .bool false) (R := fun v w' => v = .bool false ∧ w' = _) (by
    rw [run_callFunc_extern Tryz.func261 (by kernel_rfl) (by kernel_rfl) (by kernel_rfl) (e := Extern.SlicesOverlaps.overlaps #[177, 177] #[4]) (by kernel_rfl)]
    refine (congrArg (fun r : Result Value => r.andThen fun v w' => Result.ok (Next.value v) w') (Lib.run_overlaps_apart _ 177 4 216 Tryz.underlying177 2 (fun _ => by kernel_rfl) ⟨g2, 0, none⟩ ⟨g, (w64 ((j : Int) + (([x].length : Nat) : Int))).toNat * 2, none⟩ [x].length c2_0 _ _ hne 216 216 cur2.size cur.size (by simp [World.shape?, hb2]) (by simp [World.shape?, hbg]) hcz (by simp [World.frozen?, hb2]) (by simp [World.frozen?, hb2]))).trans rfl) ⟨rfl, rfl⟩) ?_
  rintro _ _ a ⟨rfl, rfl⟩ hE
  refine plc hE (.r 7 1 .nil) (fun a hE => ?_)
  refine pld ?_
  refine hK17 _ _ ?_
  refine ct hE ?_
  refine sq fun K18 hK18 => ?_
  refine drawn 9 ⟨[8], [], fun q => False⟩ mixed rfl (by kernel_rfl) (fun hst => ?_)
  replace hS := hS.drew
  replace hS := hS.front 1 rfl
  have hbg2 := hS.blk_at (i := 0) rfl
  refine mny 1 hst hE (.r 0 4 <| .y 4 (y_lo (e := 216) (z := 2) (g := g) (n := x0_.length + 1) (c := c0_0) (k := .i64) (lo := w64 ((j : Int) + (([x].length : Nat) : Int))) ⟨by omega, by omega⟩ (by omega)) <| .r 5 2 <| .y 7 (y_lo (e := 216) (z := 2) (g := g) (n := x0_.length + 1) (c := c0_0) (k := .i64) (lo := (j : Int)) ⟨by omega, by omega⟩ (by omega)) .nil) (fun a hE => ?_)
  refine on1 8 hE (.cpy (e := 216) (z := 2) (off := (w64 ((j : Int) + (([x].length : Nat) : Int))).toNat * 2) (dn := x0_.length + 1 - (w64 ((j : Int) + (([x].length : Nat) : Int))).toNat) (dc := c0_0 - (w64 ((j : Int) + (([x].length : Nat) : Int))).toNat) (sn := x0_.length + 1 - (j : Int).toNat) (sc := c0_0 - (j : Int).toNat) (sa := ⟨g, (j : Int).toNat * 2, none⟩) hS (inner.drop (j * 2)) (by
    rw [hw2, Int.toNat_natCast, Int.toNat_natCast, hidl, show x0_.length + 1 - (j + 1) = x0_.length - j by omega]
    congr 1
    exact (Nat.min_eq_right (by omega)).symm) (fun q u hq => by rw [qCQ, Int.toNat_natCast]; exact qCL hbg2 (higet q u hq)) hione (by
    rw [hw2, Int.toNat_natCast, hidl, hsz, ← Nat.add_mul]
    exact Nat.mul_le_mul_right _ (by omega)) (by kernel_rfl)) ?_
  rintro _ w2 a ⟨rfl, hS, hz, hnew, hoth⟩ hE
  refine ⟨.d, ?_⟩
  refine dn ?_
  rw [hw2, Int.toNat_natCast, ← hC1] at hS
  refine hK18 _ _ ?_
  refine sq fun K19 hK19 => ?_
  refine pl0 ?_
  have hb3 := hS.blk_at (i := 1) rfl
  refine plc hE (.r 0 2 <| .y 2 (y_lo (e := 216) (z := 2) (g := g) (n := x0_.length + 1) (c := c0_0) (k := .i64) (lo := (j : Int)) ⟨by omega, by omega⟩ (by omega)) <| .r 3 1 .nil) (fun a hE => ?_)
  have hmin1 : Nat.min [x].length (x0_.length + 1 - (j : Int).toNat) = 1 := by
    rw [Int.toNat_natCast]
    simp only [List.length_cons, List.length_nil]
    exact Nat.min_eq_left (by omega)
  refine ple hE (.cpy (e := 216) (z := 2) (off := (j : Int).toNat * 2) (dn := x0_.length + 1 - (j : Int).toNat) (dc := c0_0 - (j : Int).toNat) (sn := [x].length) (sc := c2_0) (sa := ⟨g2, 0, none⟩) hS cs (by rw [hmin1, hcl]) (fun q u hq => by rw [qCQ, Nat.zero_add]; exact qCL hb3 (hcget q u hq)) hcone (by
    rw [Int.toNat_natCast, List.size_toArray, s3, hcl]
    have := Nat.mul_le_mul_right 2 (show j + 1 ≤ c0_0 by omega)
    omega) (by kernel_rfl)) ?_
  rintro _ w3 a ⟨rfl, hS, hz, hnew, hoth⟩ hE
  simp only [Int.toNat_natCast, List.toList_toArray] at hS
  rw [← hC2] at hS
  refine pld ?_
  refine hK19 _ _ ?_
  refine sq fun K20 hK20 => ?_
  refine pl0 ?_
  refine plc hE (.r 0 2 .nil) (fun a hE => ?_)
  refine pld ?_
  refine hK20 _ _ ?_
  refine wp_ret (qCB ?_)
  have hrl : r.length = x0_.length + 1 := by rw [← hr]; simp; omega
  have hrr : RepsK qB.k F r (C2.toArray.toList.take (r.length * (qB.k).sz)) := by
    rw [hrl]
    show RepsK qB.k F r (C2.take ((x0_.length + 1) * 2))
    rw [s1, ← hr]
    exact qCb hrep hx (by omega) rfl
  have hS2 := hS.rerow (c := c0_0) r (show C2.toArray.size = c0_0 * 2 by simpa using s2) (by omega) hxc.2 hrr
  replace hS2 := hS2.front 1 rfl
  replace hS2 := hS2.tail
  rw [← hrl] at hE
  exact rt1 hE ⟨_, rfl, F, _, _, rfl, hS2⟩
mutual
def qQ.l19 : Nat → List qA → List qB → Int → Option (List qB)
  | 0, _, _, _ => none
  | k + 1, x0_, l16, x17 => if x17 < (x0_.length : Int) then (if 0 ≤ x17 ∧ x17 < (x0_.length : Int) then ((qBc.f (⟨(nth qA.z x0_ x17).f0, (nth qA.z x0_ x17).f1, (nth qA.z x0_ x17).f2, (nth qA.z x0_ x17).f3, (nth qA.z x0_ x17).f4, (nth qA.z x0_ x17).f5⟩ : qA)).bind fun t39 => (if t39 = true then ((qBP.f (⟨(nth qA.z x0_ x17).f0, (nth qA.z x0_ x17).f1, (nth qA.z x0_ x17).f2, (nth qA.z x0_ x17).f3, (nth qA.z x0_ x17).f4, (nth qA.z x0_ x17).f5⟩ : qA)).bind fun t44 => ((qF.f k l16 t44).bind fun t47 => (if t47.2 = true then (qQ.j72 k x0_ x17 t47 l16) else ((qBP.f (⟨(nth qA.z x0_ x17).f0, (nth qA.z x0_ x17).f1, (nth qA.z x0_ x17).f2, (nth qA.z x0_ x17).f3, (nth qA.z x0_ x17).f4, (nth qA.z x0_ x17).f5⟩ : qA)).bind fun t53 => ((qr.f l16 t47.1 [(⟨t53, 0⟩ : qB)]).bind fun t60 => (qQ.j72 k x0_ x17 t47 t60)))))) else (qQ.l19 k x0_ l16 (w64 (x17 + 1))))) else (none)) else (some l16)
def qQ.j72 : Nat → List qA → Int → Int × Bool → List qB → Option (List qB)
  | 0, _, _, _, _ => none
  | k + 1, x0_, x17, t47, l70 => if ((nth qA.z x0_ x17).f5) = true then (if 0 ≤ t47.1 ∧ t47.1 < (l70.length : Int) then (qQ.l19 k x0_ (l70.set (t47.1).toNat (⟨(nth qB.z l70 t47.1).f0, (if (w64 ((nth qB.z l70 t47.1).f1 + (nth qA.z x0_ x17).f3)) < 65536 then (w64 ((nth qB.z l70 t47.1).f1 + (nth qA.z x0_ x17).f3)) else 65536)⟩ : qB)) (w64 (x17 + 1))) else (none)) else (qQ.l19 k x0_ l70 (w64 (x17 + 1)))
end
theorem qQ.l19_s (k : Nat) (x0_ : List qA) (l16 : List qB) (x17 : Int) : qQ.l19 (k + 1) x0_ l16 x17 = (if x17 < (x0_.length : Int) then (if 0 ≤ x17 ∧ x17 < (x0_.length : Int) then ((qBc.f (⟨(nth qA.z x0_ x17).f0, (nth qA.z x0_ x17).f1, (nth qA.z x0_ x17).f2, (nth qA.z x0_ x17).f3, (nth qA.z x0_ x17).f4, (nth qA.z x0_ x17).f5⟩ : qA)).bind fun t39 => (if t39 = true then ((qBP.f (⟨(nth qA.z x0_ x17).f0, (nth qA.z x0_ x17).f1, (nth qA.z x0_ x17).f2, (nth qA.z x0_ x17).f3, (nth qA.z x0_ x17).f4, (nth qA.z x0_ x17).f5⟩ : qA)).bind fun t44 => ((qF.f k l16 t44).bind fun t47 => (if t47.2 = true then (qQ.j72 k x0_ x17 t47 l16) else ((qBP.f (⟨(nth qA.z x0_ x17).f0, (nth qA.z x0_ x17).f1, (nth qA.z x0_ x17).f2, (nth qA.z x0_ x17).f3, (nth qA.z x0_ x17).f4, (nth qA.z x0_ x17).f5⟩ : qA)).bind fun t53 => ((qr.f l16 t47.1 [(⟨t53, 0⟩ : qB)]).bind fun t60 => (qQ.j72 k x0_ x17 t47 t60)))))) else (qQ.l19 k x0_ l16 (w64 (x17 + 1))))) else (none)) else (some l16)) := by kernel_rfl
theorem qQ.j72_s (k : Nat) (x0_ : List qA) (x17 : Int) (t47 : Int × Bool) (l70 : List qB) : qQ.j72 (k + 1) x0_ x17 t47 l70 = (if ((nth qA.z x0_ x17).f5) = true then (if 0 ≤ t47.1 ∧ t47.1 < (l70.length : Int) then (qQ.l19 k x0_ (l70.set (t47.1).toNat (⟨(nth qB.z l70 t47.1).f0, (if (w64 ((nth qB.z l70 t47.1).f1 + (nth qA.z x0_ x17).f3)) < 65536 then (w64 ((nth qB.z l70 t47.1).f1 + (nth qA.z x0_ x17).f3)) else 65536)⟩ : qB)) (w64 (x17 + 1))) else (none)) else (qQ.l19 k x0_ l70 (w64 (x17 + 1)))) := by kernel_rfl
def qQ.f (k : Nat) (x0_ : List qA) : Option (List qB) := (qAG.f k x0_).bind fun t6 => (if t6 = 0 then (qQ.l19 k x0_ [] 0) else (some []))
def qQ.Post (W F : World) (r : List qB) (v : Value) (w' : World) : Prop := ∃ (F' : World) (RA0_0 : Option Addr) (rc0_0 : Nat), v = .slice RA0_0 r.length rc0_0 ∧ St W (mine W []) F w' F' [row qB.k 216 (.slice RA0_0 r.length rc0_0) r]
theorem qQ.calls (k : Nat) (x0_ : List qA) (A0_0 : Option Addr) (c0_0 : Nat) (r : List qB) (W F : World) (hown : Sub F W) (g0_0 : Rd qA.k F A0_0 c0_0 x0_) (H : qQ.f k x0_ = some r) :
    Calls Tryz.prog 236 #[.slice A0_0 x0_.length c0_0, .func (.func 237) #[] #[], .func (.func 238) #[] #[]] W fun e w' => ∃ v, e = .returned v ∧ qQ.Post W F r v w' := by
 have hS := St.start (Own.nil hown)
 unfold qQ.f at H
 refine enter (n := 60) rfl rfl rfl (Nat.le_of_ble_eq_true rfl) (fun a hE => ?_)
 refine sq fun K1 hK1 => pl0 (plc hE (.r 0 1 .nil) (fun a hE => pld (hK1 _ _ (sq fun K2 hK2 => pl0 (plc hE (.r 0 1 .nil) (fun a hE => pld (hK2 _ _ (sq fun K3 hK3 => sq fun K4 hK4 => pl0 (plc hE (.r 0 1 .nil) (fun a hE => ?_))))))))))
 obtain ⟨t6, h7, H⟩ := bd H
 refine ple hE (.cl en80 (qAG.calls k x0_ _ _ _ _ _ hS.own.sub g0_0 h7)) ?_
 rintro _ u5 a ⟨_, rfl, hC⟩ hE
 replace hS := hS.lent hC
 refine plc hE (.r 2 1 .nil) (fun a hE => pld (hK4 _ _ ?_))
 rcases sp H with ⟨c8, H⟩ | ⟨c8, H⟩
 ·
  replace hE := hE.ktn 14 c8
  refine cf hE (wp_skip (hK3 _ _ (sq fun K11 hK11 => sq fun K12 hK12 => pl0 (plc hE (.r 0 3 .nil) (fun a hE => pld (hK12 _ _ (wp_block ?_)))))))
  replace hS := hS.nilrow qB.k 216
  refine wp_loop_ghost (fun kq20 a w' => ∃ (G : Nat → Value) (A14 : Option Addr) (c15 : Nat) (l16 : List qB) (x17 : Int) (F18 : World), kq20 ≤ k ∧ Env 60 G a ∧ At G [(1, .func (.func 237) #[] #[]), (2, .func (.func 238) #[] #[]), (7, .slice A14 l16.length c15), (15, .slice A0_0 x0_.length c0_0), (16, .int .i64 (x0_.length : Int)), (17, .int .i64 x17)] ∧ St W (mine W []) F w' F18 [row qB.k 216 (.slice A14 l16.length c15) l16] ∧ Rd qA.k F18 A0_0 c0_0 x0_ ∧  qQ.l19 kq20 x0_ l16 x17 = some r) k ⟨_, none, 0, [], 0, F, Nat.le_refl _, hE, .of, hS, g0_0, H⟩ ?_
  rintro kq20 a u22 ⟨G, A14, c15, l16, x17, F18, hkq, hE, hA, hS, g0_0, H⟩
  cases kq20 with
  | zero => cases (show none = some r from H)
  | succ k21 =>
   rw [qQ.l19_s] at H
   obtain ⟨J, hE⟩ := hE.at hA
   refine sq fun K23 hK23 => pl0 (plc hE (.r 0 1 .nil) (fun a hE => pld (hK23 _ _ (sq fun K24 hK24 => ?_))))
   rcases sp H with ⟨c25, H⟩ | ⟨c25, H⟩
   ·
    replace hE := hE.kt 18 c25
    refine ct hE (wp_skip (hK24 _ _ (sq fun K26 hK26 => wp_block (sq fun K27 hK27 => pl0 ?_))))
    obtain ⟨c28, H⟩ := gd H
    have hE_ := hE
    obtain ⟨ad29, rfl⟩ := g0_0.addr c28.1 c28.2
    replace hE := hE_
    obtain ⟨cs31, rfl, hc32⟩ := g0_0.el qA.z x17 c28.1 c28.2
    refine plc hE (.x 0 c28 <| .cs 1 (hS.fcs hc32) <| .nil) (fun a hE => ple hE (.al (t := 104) hS [.int .i64 0, .int .i64 0, .int .i64 0, .int .i64 0, .bool false, .bool false]) ?_)
    rintro _ u34 a ⟨b33, rfl, hb33, hS, hg⟩ hE
    refine ple hE (.sto hS [.int .i64 ((nth qA.z x0_ x17).f0), .int .i64 ((nth qA.z x0_ x17).f1), .int .i64 ((nth qA.z x0_ x17).f2), .int .i64 ((nth qA.z x0_ x17).f3), .bool ((nth qA.z x0_ x17).f4), .bool ((nth qA.z x0_ x17).f5)]) ?_
    rintro _ u35 a ⟨rfl, hb33, hS, hz⟩ hE
    refine pld (hK27 _ _ (sq fun K36 hK36 => sq fun K37 hK37 => pl0 (plc hE (.r 0 1 <| .bn 1 0 6 hb33 <| .nil) (fun a hE => ?_))))
    obtain ⟨t39, h40, H⟩ := bd H
    refine ple hE (.cl en237 (qBc.calls (⟨(nth qA.z x0_ x17).f0, (nth qA.z x0_ x17).f1, (nth qA.z x0_ x17).f2, (nth qA.z x0_ x17).f3, (nth qA.z x0_ x17).f4, (nth qA.z x0_ x17).f5⟩ : qA) _ _ _ hS.own.sub h40)) ?_
    rintro _ u38 a ⟨_, rfl, hC⟩ hE
    replace hS := hS.lent hC
    refine plc hE (.r 3 1 .nil) (fun a hE => pld (hK37 _ _ ?_))
    rcases sp H with ⟨c41, H⟩ | ⟨c41, H⟩
    ·
     replace hE := hE.btn 24 c41
     refine cf hE (wp_skip (hK36 _ _ (sq fun K42 hK42 => pl0 ?_)))
     have hb33 := hS.blk_at (i := 0) rfl
     refine plc hE (.r 0 2 <| .bn 2 0 6 hb33 <| .nil) (fun a hE => ?_)
     obtain ⟨t44, h45, H⟩ := bd H
     refine ple hE (.cl en238 (qBP.calls (⟨(nth qA.z x0_ x17).f0, (nth qA.z x0_ x17).f1, (nth qA.z x0_ x17).f2, (nth qA.z x0_ x17).f3, (nth qA.z x0_ x17).f4, (nth qA.z x0_ x17).f5⟩ : qA) _ _ _ hS.own.sub h45)) ?_
     rintro _ u43 a ⟨_, rfl, hC⟩ hE
     replace hS := hS.lent hC
     obtain ⟨t47, h48, H⟩ := bd H
     refine ple hE (.cl en254 (qF.calls k21 l16 t44 _ _ _ _ _ (Sub.refl _) (hS.rd_at (i := 1) rfl) h48)) ?_
     rintro _ u46 a ⟨_, rfl, hC⟩ hE
     replace hS := hS.lent hC
     refine plc hE (.r 5 5 .nil) (fun a hE => pld (hK42 _ _ (sq fun K49 hK49 => ?_)))
     have J75 : ∀ kq73, kq73 ≤ k21 → ∀ (G : Nat → Value) (A68 : Option Addr) (c69 : Nat) (l70 : List qB) (F71 : World) (a : Act) (w' : World), Env 60 G a → At G [(1, .func (.func 237) #[] #[]), (2, .func (.func 238) #[] #[]), (7, .slice A68 l70.length c69), (9, .pointer (some ⟨b33, 0, none⟩)), (10, .int .i64 t47.1), (15, .slice (some ad29) x0_.length c0_0), (16, .int .i64 (x0_.length : Int)), (17, .int .i64 x17)] → St W (mine W []) F w' F71 [box b33 #[.int .i64 ((nth qA.z x0_ x17).f0), .int .i64 ((nth qA.z x0_ x17).f1), .int .i64 ((nth qA.z x0_ x17).f2), .int .i64 ((nth qA.z x0_ x17).f3), .bool ((nth qA.z x0_ x17).f4), .bool ((nth qA.z x0_ x17).f5)] 104, row qB.k 216 (.slice A68 l70.length c69) l70] → Rd qA.k F71 (some ad29) c0_0 x0_ → qQ.j72 kq73 x0_ x17 t47 l70 = some r → K49 a w' := by
      intro kq73 hkq G A68 c69 l70 F71 a u76 hE hA hS g0_0 H
      cases kq73 with
      | zero => cases (show none = some r from H)
      | succ k74 =>
       rw [qQ.j72_s] at H
       obtain ⟨J, hE⟩ := hE.at hA
       refine hK49 _ _ (sq fun K77 hK77 => pl0 ?_)
       have hb33 := hS.blk_at (i := 0) rfl
       refine plc hE (.r 0 1 <| .b 1 5 hb33 <| .nil) (fun a hE => pld (hK77 _ _ ?_))
       rcases sp H with ⟨c78, H⟩ | ⟨c78, H⟩
       ·
        replace hE := hE.bt 44 c78
        refine ct hE ?_
        refine drawn 14 ⟨[13], [], fun q => False⟩ mixed rfl (by kernel_rfl) (fun hst => ?_)
        replace hS := hS.drew
        obtain ⟨c79, H⟩ := gd H
        have hr80 := hS.row_at (i := 1) rfl
        have hE_ := hE
        obtain ⟨b81, rfl⟩ := qCI hr80 c79.1 c79.2
        replace hE := hE_
        have hr_ := hS.row_at (i := 1) rfl
        obtain ⟨cs83, rfl, hc84⟩ := qCG hr_ qB.z t47.1 c79.1 c79.2
        have hb33 := hS.blk_at (i := 0) rfl
        have hr85 := hS.row_at (i := 1) rfl
        refine mny 1 hst hE (.r 0 4 <| .x 4 c79 <| .r 5 1 <| .c 6 (hc84 1 _ rfl) <| .r 7 1 <| .b 8 3 hb33 <| .r 9 2 <| .x 11 c79 <| .r 12 1 <| .nil) (fun a hE => ?_)
        replace hS := hS.front 1 rfl
        obtain ⟨cs90, rfl, hc91⟩ := qCG (hS.row_at (i := 0) rfl) qB.z t47.1 c79.1 c79.2
        refine on1 13 hE (.set (d := qB.k) (n := l70.length) (i := t47.1) (⟨(nth qB.z l70 t47.1).f0, (if (w64 ((nth qB.z l70 t47.1).f1 + (nth qA.z x0_ x17).f3)) < 65536 then (w64 ((nth qB.z l70 t47.1).f1 + (nth qA.z x0_ x17).f3)) else 65536)⟩ : qB) 1 (ea1 _ _ _) hS c79 [.int .i64 ((nth qB.z l70 t47.1).f0), .int .i64 ((nth qB.z l70 t47.1).f1)] hc91 [.int .i64 ((nth qB.z l70 t47.1).f0), .int .i64 (if (w64 ((nth qB.z l70 t47.1).f1 + (nth qA.z x0_ x17).f3)) < 65536 then (w64 ((nth qB.z l70 t47.1).f1 + (nth qA.z x0_ x17).f3)) else 65536)] rfl) ?_
        rintro _ u89 a ⟨rfl, hS, hz⟩ hE
        refine ⟨.d, ?_⟩
        refine dn ?_
        refine qCD ?_
        refine hK26 _ _ (pl0 (plc hE (.r 0 2 .nil) (fun a hE => pld ?_)))
        have hn92 := (qCF (hS.row_at (i := 0) rfl)).1
        replace hE := hE.set (d := 7) (v := .slice (some ⟨b81, 0, none⟩) ((l70.set (t47.1).toNat (⟨(nth qB.z l70 t47.1).f0, (if (w64 ((nth qB.z l70 t47.1).f1 + (nth qA.z x0_ x17).f3)) < 65536 then (w64 ((nth qB.z l70 t47.1).f1 + (nth qA.z x0_ x17).f3)) else 65536)⟩ : qB)).length) c69) (Eq.trans (b := .slice (some ⟨b81, 0, none⟩) l70.length c69) (by kernel_rfl) (by rw [← hn92]))
        replace hS : St W (mine W []) F u89 F71 [row qB.k 216 (.slice (some ⟨b81, 0, none⟩) ((l70.set (t47.1).toNat (⟨(nth qB.z l70 t47.1).f0, (if (w64 ((nth qB.z l70 t47.1).f1 + (nth qA.z x0_ x17).f3)) < 65536 then (w64 ((nth qB.z l70 t47.1).f1 + (nth qA.z x0_ x17).f3)) else 65536)⟩ : qB)).length) c69) (l70.set (t47.1).toNat (⟨(nth qB.z l70 t47.1).f0, (if (w64 ((nth qB.z l70 t47.1).f1 + (nth qA.z x0_ x17).f3)) < 65536 then (w64 ((nth qB.z l70 t47.1).f1 + (nth qA.z x0_ x17).f3)) else 65536)⟩ : qB)), box b33 #[.int .i64 ((nth qA.z x0_ x17).f0), .int .i64 ((nth qA.z x0_ x17).f1), .int .i64 ((nth qA.z x0_ x17).f2), .int .i64 ((nth qA.z x0_ x17).f3), .bool ((nth qA.z x0_ x17).f4), .bool ((nth qA.z x0_ x17).f5)] 104] := by rw [← hn92]; exact hS
        replace hS := hS.front 1 rfl
        replace hS := hS.tail
        exact qCE ⟨k74, by omega, _, (some ⟨b81, 0, none⟩), c69, (l70.set (t47.1).toNat (⟨(nth qB.z l70 t47.1).f0, (if (w64 ((nth qB.z l70 t47.1).f1 + (nth qA.z x0_ x17).f3)) < 65536 then (w64 ((nth qB.z l70 t47.1).f1 + (nth qA.z x0_ x17).f3)) else 65536)⟩ : qB)), (w64 (x17 + 1)), F71, by omega, hE, .of, hS, g0_0, H⟩
       ·
        replace hE := hE.bf 44 c78
        refine cf hE (wp_skip ?_)
        refine qCD ?_
        refine hK26 _ _ (pl0 (plc hE (.r 0 2 .nil) (fun a hE => pld ?_)))
        replace hS := hS.tail
        exact qCE ⟨k74, by omega, _, A68, c69, l70, (w64 (x17 + 1)), F71, by omega, hE, .of, hS, g0_0, H⟩
     refine sq fun K50 hK50 => pl0 (plc hE (.r 0 2 .nil) (fun a hE => pld (hK50 _ _ ?_)))
     rcases sp H with ⟨c51, H⟩ | ⟨c51, H⟩
     ·
      replace hE := hE.btn 34 c51
      refine cf hE (wp_skip ?_)
      exact J75 _ (by omega) _ A14 c15 l16 F18 _ _ hE .of hS g0_0 H
     ·
      replace hE := hE.bfn 34 c51
      refine ct hE (pl0 ?_)
      have hb33 := hS.blk_at (i := 0) rfl
      refine plc hE (.r 0 3 <| .bn 3 0 6 hb33 <| .nil) (fun a hE => ?_)
      obtain ⟨t53, h54, H⟩ := bd H
      refine ple hE (.cl en238 (qBP.calls (⟨(nth qA.z x0_ x17).f0, (nth qA.z x0_ x17).f1, (nth qA.z x0_ x17).f2, (nth qA.z x0_ x17).f3, (nth qA.z x0_ x17).f4, (nth qA.z x0_ x17).f5⟩ : qA) _ _ _ hS.own.sub h54)) ?_
      rintro _ u52 a ⟨_, rfl, hC⟩ hE
      replace hS := hS.lent hC
      refine plc hE (.r 5 1 .nil) (fun a hE => ple hE (.lit (d := qB.k) (e := 216) hS [(⟨t53, 0⟩ : qB)] (.cons rfl .nil)) ?_)
      rintro _ u55 a ⟨A56, c57, rfl, hS, hg⟩ hE
      replace hS := hS.front 2 rfl
      obtain ⟨t60, h61, H⟩ := bd H
      refine ple hE (.cl en256 (qr.calls l16 t47.1 [(⟨t53, 0⟩ : qB)] _ _ _ _ _ _ _ (Own.left (X := [row qB.k 216 (.slice A14 l16.length c15) l16, row qB.k 216 (.slice A56 ([(⟨t53, 0⟩ : qB)].length) c57) [(⟨t53, 0⟩ : qB)]]) hS.own) h61)) ?_
      rintro _ u59 a ⟨F62, A63, c64, rfl, hC⟩ hE
      have hs := hC.sub
      replace hS := hS.called (X := [row qB.k 216 (.slice A14 l16.length c15) l16, row qB.k 216 (.slice A56 ([(⟨t53, 0⟩ : qB)].length) c57) [(⟨t53, 0⟩ : qB)]]) hC
      replace g0_0 := g0_0.mono hs
      refine plc hE (.r 8 1 .nil) (fun a hE => pld ?_)
      replace hS := hS.front 1 rfl
      exact J75 _ (by omega) _ A63 c64 t60 F62 _ _ hE .of hS g0_0 H
    ·
     replace hE := hE.bfn 24 c41
     refine ct hE ?_
     refine wp_exit ?_
     refine hK26 _ _ (pl0 (plc hE (.r 0 2 .nil) (fun a hE => pld ?_)))
     replace hS := hS.tail
     exact qCE ⟨k21, by omega, _, A14, c15, l16, (w64 (x17 + 1)), F18, by omega, hE, .of, hS, g0_0, H⟩
   ·
    replace hE := hE.kf 18 c25
    refine cf hE ?_
    refine wp_exit ?_
    refine hK11 _ _ (sq fun K94 hK94 => pl0 (plc hE (.r 0 2 .nil) (fun a hE => pld (hK94 _ _ (wp_ret ?_)))))
    obtain rfl := si H
    exact rt1 hE ⟨_, rfl, _, _, _, rfl, hS⟩
 ·
  replace hE := hE.kfn 14 c8
  refine ct hE (sq fun K9 hK9 => pl0 (plc hE (.r 0 1 .nil) (fun a hE => pld (hK9 _ _ (wp_ret (qCB ?_))))))
  replace hS := hS.nilrow qB.k 216
  obtain rfl := si H
  exact rt1 hE ⟨_, rfl, _, _, _, rfl, hS⟩
end Go.Proofs.YtpohepinmjmbkaaGreat.QS
