import Derived.Test.YtpohepinmjmbkaaGreatQS3
namespace Go.Proofs.YtpohepinmjmbkaaGreat.QS
open Go Go.RowKit Go.Proofs.YtpohepinmjmbkaaGreat.Sl
set_option linter.unusedVariables false
set_option linter.unusedSimpArgs false
set_option maxHeartbeats 4000000
set_option maxRecDepth 100000
def qBq.f (k : Nat) (x0_ : List qA) : Option (List qB) := (qQ.f k x0_).bind fun t4 => (some t4)
def qBq.Post (W F : World) (r : List qB) (v : Value) (w' : World) : Prop := ∃ (F' : World) (RA0_0 : Option Addr) (rc0_0 : Nat), v = .slice RA0_0 r.length rc0_0 ∧ St W (mine W []) F w' F' [row qB.k 216 (.slice RA0_0 r.length rc0_0) r]
theorem qBq.calls (k : Nat) (x0_ : List qA) (A0_0 : Option Addr) (c0_0 : Nat) (r : List qB) (W F : World) (hown : Sub F W) (g0_0 : Rd qA.k F A0_0 c0_0 x0_) (H : qBq.f k x0_ = some r) :
    Calls Tryz.prog 225 #[.slice A0_0 x0_.length c0_0] W fun e w' => ∃ v, e = .returned v ∧ qBq.Post W F r v w' := by
 have hS := St.start (Own.nil hown)
 unfold qBq.f at H
 refine enter (n := 5) rfl rfl rfl (Nat.le_of_ble_eq_true rfl) (fun a hE => ?_)
 refine sq fun K1 hK1 => pl0 (plc hE (.r 0 1 .nil) (fun a hE => pld (hK1 _ _ (sq fun K2 hK2 => pl0 (plc hE (.r 0 1 .nil) (fun a hE => ?_))))))
 obtain ⟨t4, h5, H⟩ := bd H
 refine ple hE (.cl en236 (qQ.calls k x0_ _ _ _ _ _ hS.own.sub g0_0 h5)) ?_
 rintro _ u3 a ⟨F6, A7, c8, rfl, hC⟩ hE
 have hs := hC.sub
 replace hS := hS.called (X := []) hC
 replace g0_0 := g0_0.mono hs
 refine plc hE (.r 2 1 .nil) (fun a hE => pld (hK2 _ _ (wp_ret ?_)))
 obtain rfl := si H
 exact rt1 hE ⟨_, rfl, _, _, _, rfl, hS⟩
def qBd.f (x0_ : qA) (xf0_ : Int) : Option Bool := some (x0_.f1 == xf0_)
def qBd.Post (W F : World) (r : Bool) (v : Value) (w' : World) : Prop := ∃ (F' : World), v = .bool r ∧ St W (mine W []) F w' F' []
theorem qBd.calls (x0_ : qA) (xf0_ : Int) (pf0_ : Nat) (r : Bool) (W F : World) (hown : Sub F W) (hpf0_ : F.heap[pf0_]? = some (.cells #[.int .i64 xf0_] 3 (0, 0))) (H : qBd.f x0_ xf0_ = some r) :
    Calls Tryz.prog 239 #[.agg #[.int .i64 x0_.f0, .int .i64 x0_.f1, .int .i64 x0_.f2, .int .i64 x0_.f3, .bool x0_.f4, .bool x0_.f5], .pointer (some ⟨pf0_, 0, none⟩)] W fun e w' => ∃ v, e = .returned v ∧ qBd.Post W F r v w' := by
 have hS := St.start (Own.nil hown)
 unfold qBd.f at H
 refine enter (n := 8) rfl rfl rfl (Nat.le_of_ble_eq_true rfl) (fun a hE => ?_)
 refine sq fun K1 hK1 => pl0 (ple hE (.bx (t := 104) hS [.int .i64 x0_.f0, .int .i64 x0_.f1, .int .i64 x0_.f2, .int .i64 x0_.f3, .bool x0_.f4, .bool x0_.f5]) ?_)
 rintro _ u3 a ⟨b2, rfl, hb2, hS, hg⟩ hE
 refine plc hE (.r 1 1 .nil) (fun a hE => pld (hK1 _ _ (sq fun K4 hK4 => pl0 (plc hE (.r 0 1 <| .b 1 1 hb2 <| .b 2 0 (hS.own.sub _ _ _ _ hpf0_) <| .r 3 2 <| .nil) (fun a hE => pld (hK4 _ _ (wp_ret ?_)))))))
 replace hS := hS.tail
 obtain rfl := si H
 exact rt1 hE ⟨_, rfl, _, rfl, hS⟩
def qBQ.f (x0_ : qA) : Option Int := some x0_.f2
def qBQ.Post (W F : World) (r : Int) (v : Value) (w' : World) : Prop := ∃ (F' : World), v = .int .i64 r ∧ St W (mine W []) F w' F' []
theorem qBQ.calls (x0_ : qA) (r : Int) (W F : World) (hown : Sub F W) (H : qBQ.f x0_ = some r) :
    Calls Tryz.prog 240 #[.agg #[.int .i64 x0_.f0, .int .i64 x0_.f1, .int .i64 x0_.f2, .int .i64 x0_.f3, .bool x0_.f4, .bool x0_.f5]] W fun e w' => ∃ v, e = .returned v ∧ qBQ.Post W F r v w' := by
 have hS := St.start (Own.nil hown)
 unfold qBQ.f at H
 refine enter (n := 5) rfl rfl rfl (Nat.le_of_ble_eq_true rfl) (fun a hE => ?_)
 refine sq fun K1 hK1 => pl0 (ple hE (.bx (t := 104) hS [.int .i64 x0_.f0, .int .i64 x0_.f1, .int .i64 x0_.f2, .int .i64 x0_.f3, .bool x0_.f4, .bool x0_.f5]) ?_)
 rintro _ u3 a ⟨b2, rfl, hb2, hS, hg⟩ hE
 refine plc hE (.r 1 1 .nil) (fun a hE => pld (hK1 _ _ (sq fun K4 hK4 => pl0 (plc hE (.r 0 1 <| .b 1 2 hb2 <| .r 2 1 <| .nil) (fun a hE => pld (hK4 _ _ (wp_ret ?_)))))))
 replace hS := hS.tail
 obtain rfl := si H
 exact rt1 hE ⟨_, rfl, _, rfl, hS⟩
mutual
def qR.l19 : Nat → List qA → Int → List qB → Int → Option (List qB)
  | 0, _, _, _, _ => none
  | k + 1, x0_, x1c0_, l16, x17 => if x17 < (x0_.length : Int) then (if 0 ≤ x17 ∧ x17 < (x0_.length : Int) then ((qBd.f (⟨(nth qA.z x0_ x17).f0, (nth qA.z x0_ x17).f1, (nth qA.z x0_ x17).f2, (nth qA.z x0_ x17).f3, (nth qA.z x0_ x17).f4, (nth qA.z x0_ x17).f5⟩ : qA) x1c0_).bind fun t39 => (if t39 = true then ((qBQ.f (⟨(nth qA.z x0_ x17).f0, (nth qA.z x0_ x17).f1, (nth qA.z x0_ x17).f2, (nth qA.z x0_ x17).f3, (nth qA.z x0_ x17).f4, (nth qA.z x0_ x17).f5⟩ : qA)).bind fun t44 => ((qF.f k l16 t44).bind fun t47 => (if t47.2 = true then (qR.j72 k x0_ x1c0_ x17 t47 l16) else ((qBQ.f (⟨(nth qA.z x0_ x17).f0, (nth qA.z x0_ x17).f1, (nth qA.z x0_ x17).f2, (nth qA.z x0_ x17).f3, (nth qA.z x0_ x17).f4, (nth qA.z x0_ x17).f5⟩ : qA)).bind fun t53 => ((qr.f l16 t47.1 [(⟨t53, 0⟩ : qB)]).bind fun t60 => (qR.j72 k x0_ x1c0_ x17 t47 t60)))))) else (qR.l19 k x0_ x1c0_ l16 (w64 (x17 + 1))))) else (none)) else (some l16)
def qR.j72 : Nat → List qA → Int → Int → Int × Bool → List qB → Option (List qB)
  | 0, _, _, _, _, _ => none
  | k + 1, x0_, x1c0_, x17, t47, l70 => if ((nth qA.z x0_ x17).f5) = true then (if 0 ≤ t47.1 ∧ t47.1 < (l70.length : Int) then (qR.l19 k x0_ x1c0_ (l70.set (t47.1).toNat (⟨(nth qB.z l70 t47.1).f0, (if (w64 ((nth qB.z l70 t47.1).f1 + (nth qA.z x0_ x17).f3)) < 65536 then (w64 ((nth qB.z l70 t47.1).f1 + (nth qA.z x0_ x17).f3)) else 65536)⟩ : qB)) (w64 (x17 + 1))) else (none)) else (qR.l19 k x0_ x1c0_ l70 (w64 (x17 + 1)))
end
theorem qR.l19_s (k : Nat) (x0_ : List qA) (x1c0_ : Int) (l16 : List qB) (x17 : Int) : qR.l19 (k + 1) x0_ x1c0_ l16 x17 = (if x17 < (x0_.length : Int) then (if 0 ≤ x17 ∧ x17 < (x0_.length : Int) then ((qBd.f (⟨(nth qA.z x0_ x17).f0, (nth qA.z x0_ x17).f1, (nth qA.z x0_ x17).f2, (nth qA.z x0_ x17).f3, (nth qA.z x0_ x17).f4, (nth qA.z x0_ x17).f5⟩ : qA) x1c0_).bind fun t39 => (if t39 = true then ((qBQ.f (⟨(nth qA.z x0_ x17).f0, (nth qA.z x0_ x17).f1, (nth qA.z x0_ x17).f2, (nth qA.z x0_ x17).f3, (nth qA.z x0_ x17).f4, (nth qA.z x0_ x17).f5⟩ : qA)).bind fun t44 => ((qF.f k l16 t44).bind fun t47 => (if t47.2 = true then (qR.j72 k x0_ x1c0_ x17 t47 l16) else ((qBQ.f (⟨(nth qA.z x0_ x17).f0, (nth qA.z x0_ x17).f1, (nth qA.z x0_ x17).f2, (nth qA.z x0_ x17).f3, (nth qA.z x0_ x17).f4, (nth qA.z x0_ x17).f5⟩ : qA)).bind fun t53 => ((qr.f l16 t47.1 [(⟨t53, 0⟩ : qB)]).bind fun t60 => (qR.j72 k x0_ x1c0_ x17 t47 t60)))))) else (qR.l19 k x0_ x1c0_ l16 (w64 (x17 + 1))))) else (none)) else (some l16)) := by kernel_rfl
theorem qR.j72_s (k : Nat) (x0_ : List qA) (x1c0_ : Int) (x17 : Int) (t47 : Int × Bool) (l70 : List qB) : qR.j72 (k + 1) x0_ x1c0_ x17 t47 l70 = (if ((nth qA.z x0_ x17).f5) = true then (if 0 ≤ t47.1 ∧ t47.1 < (l70.length : Int) then (qR.l19 k x0_ x1c0_ (l70.set (t47.1).toNat (⟨(nth qB.z l70 t47.1).f0, (if (w64 ((nth qB.z l70 t47.1).f1 + (nth qA.z x0_ x17).f3)) < 65536 then (w64 ((nth qB.z l70 t47.1).f1 + (nth qA.z x0_ x17).f3)) else 65536)⟩ : qB)) (w64 (x17 + 1))) else (none)) else (qR.l19 k x0_ x1c0_ l70 (w64 (x17 + 1)))) := by kernel_rfl
def qR.f (k : Nat) (x0_ : List qA) (x1c0_ : Int) : Option (List qB) := (qAG.f k x0_).bind fun t6 => (if t6 = 0 then (qR.l19 k x0_ x1c0_ [] 0) else (some []))
def qR.Post (W F : World) (r : List qB) (v : Value) (w' : World) : Prop := ∃ (F' : World) (RA0_0 : Option Addr) (rc0_0 : Nat), v = .slice RA0_0 r.length rc0_0 ∧ St W (mine W []) F w' F' [row qB.k 216 (.slice RA0_0 r.length rc0_0) r]
theorem qR.calls (k : Nat) (x0_ : List qA) (x1c0_ : Int) (A0_0 : Option Addr) (c0_0 : Nat) (p1c0_ : Nat) (r : List qB) (W F : World) (hown : Sub F W) (g0_0 : Rd qA.k F A0_0 c0_0 x0_) (hp1c0_ : F.heap[p1c0_]? = some (.cells #[.int .i64 x1c0_] 3 (0, 0))) (H : qR.f k x0_ x1c0_ = some r) :
    Calls Tryz.prog 236 #[.slice A0_0 x0_.length c0_0, .func (.func 239) #[] #[.pointer (some ⟨p1c0_, 0, none⟩)], .func (.func 240) #[] #[]] W fun e w' => ∃ v, e = .returned v ∧ qR.Post W F r v w' := by
 have hS := St.start (Own.nil hown)
 unfold qR.f at H
 refine enter (n := 60) rfl rfl rfl (Nat.le_of_ble_eq_true rfl) (fun a hE => ?_)
 refine sq fun K1 hK1 => pl0 (plc hE (.r 0 1 .nil) (fun a hE => pld (hK1 _ _ (sq fun K2 hK2 => pl0 (plc hE (.r 0 1 .nil) (fun a hE => pld (hK2 _ _ (sq fun K3 hK3 => sq fun K4 hK4 => pl0 (plc hE (.r 0 1 .nil) (fun a hE => ?_))))))))))
 obtain ⟨t6, h7, H⟩ := bd H
 refine ple hE (.cl en80 (qAG.calls k x0_ _ _ _ _ _ hS.own.sub g0_0 h7)) ?_
 rintro _ u5 a ⟨_, rfl, hC⟩ hE
 replace hS := hS.lent hC
 refine plc hE (.r 2 1 .nil) (fun a hE => pld (hK4 _ _ ?_))
 rcases sp H with ⟨c8, H⟩ | ⟨c8, H⟩
 ·
  replace hE := hE.ktn 14 c8
  refine cf hE (wp_skip (hK3 _ _ (sq fun K11 hK11 => sq fun K12 hK12 => pl0 (plc hE (.r 0 3 .nil) (fun a hE => pld (hK12 _ _ (wp_block ?_)))))))
  replace hS := hS.nilrow qB.k 216
  refine wp_loop_ghost (fun kq20 a w' => ∃ (G : Nat → Value) (A14 : Option Addr) (c15 : Nat) (l16 : List qB) (x17 : Int) (F18 : World), kq20 ≤ k ∧ Env 60 G a ∧ At G [(1, .func (.func 239) #[] #[.pointer (some ⟨p1c0_, 0, none⟩)]), (2, .func (.func 240) #[] #[]), (7, .slice A14 l16.length c15), (15, .slice A0_0 x0_.length c0_0), (16, .int .i64 (x0_.length : Int)), (17, .int .i64 x17)] ∧ St W (mine W []) F w' F18 [row qB.k 216 (.slice A14 l16.length c15) l16] ∧ Rd qA.k F18 A0_0 c0_0 x0_ ∧ F18.heap[p1c0_]? = some (.cells #[.int .i64 x1c0_] 3 (0, 0)) ∧  qR.l19 kq20 x0_ x1c0_ l16 x17 = some r) k ⟨_, none, 0, [], 0, F, Nat.le_refl _, hE, .of, hS, g0_0, hp1c0_, H⟩ ?_
  rintro kq20 a u22 ⟨G, A14, c15, l16, x17, F18, hkq, hE, hA, hS, g0_0, hp1c0_, H⟩
  cases kq20 with
  | zero => cases (show none = some r from H)
  | succ k21 =>
   rw [qR.l19_s] at H
   obtain ⟨J, hE⟩ := hE.at hA
   refine sq fun K23 hK23 => pl0 (plc hE (.r 0 1 .nil) (fun a hE => pld (hK23 _ _ (sq fun K24 hK24 => ?_))))
   rcases sp H with ⟨c25, H⟩ | ⟨c25, H⟩
   ·
    replace hE := hE.kt 18 c25
    refine ct hE (wp_skip (hK24 _ _ (sq fun K26 hK26 => wp_block (sq fun K27 hK27 => pl0 ?_))))
    obtain ⟨c28, H⟩ := gd H
    have hE_ := hE
    obtain ⟨ad29, rfl⟩ := g0_0.addr c28.1 c28.2
    replace hE := hE_
    obtain ⟨cs31, rfl, hc32⟩ := g0_0.el qA.z x17 c28.1 c28.2
    refine plc hE (.x 0 c28 <| .cs 1 (hS.fcs hc32) <| .nil) (fun a hE => ple hE (.al (t := 104) hS [.int .i64 0, .int .i64 0, .int .i64 0, .int .i64 0, .bool false, .bool false]) ?_)
    rintro _ u34 a ⟨b33, rfl, hb33, hS, hg⟩ hE
    refine ple hE (.sto hS [.int .i64 ((nth qA.z x0_ x17).f0), .int .i64 ((nth qA.z x0_ x17).f1), .int .i64 ((nth qA.z x0_ x17).f2), .int .i64 ((nth qA.z x0_ x17).f3), .bool ((nth qA.z x0_ x17).f4), .bool ((nth qA.z x0_ x17).f5)]) ?_
    rintro _ u35 a ⟨rfl, hb33, hS, hz⟩ hE
    refine pld (hK27 _ _ (sq fun K36 hK36 => sq fun K37 hK37 => pl0 (plc hE (.r 0 1 <| .bn 1 0 6 hb33 <| .nil) (fun a hE => ?_))))
    obtain ⟨t39, h40, H⟩ := bd H
    refine ple hE (.cl en239 (qBd.calls (⟨(nth qA.z x0_ x17).f0, (nth qA.z x0_ x17).f1, (nth qA.z x0_ x17).f2, (nth qA.z x0_ x17).f3, (nth qA.z x0_ x17).f4, (nth qA.z x0_ x17).f5⟩ : qA) x1c0_ _ _ _ _ hS.own.sub hp1c0_ h40)) ?_
    rintro _ u38 a ⟨_, rfl, hC⟩ hE
    replace hS := hS.lent hC
    refine plc hE (.r 3 1 .nil) (fun a hE => pld (hK37 _ _ ?_))
    rcases sp H with ⟨c41, H⟩ | ⟨c41, H⟩
    ·
     replace hE := hE.btn 24 c41
     refine cf hE (wp_skip (hK36 _ _ (sq fun K42 hK42 => pl0 ?_)))
     have hb33 := hS.blk_at (i := 0) rfl
     refine plc hE (.r 0 2 <| .bn 2 0 6 hb33 <| .nil) (fun a hE => ?_)
     obtain ⟨t44, h45, H⟩ := bd H
     refine ple hE (.cl en240 (qBQ.calls (⟨(nth qA.z x0_ x17).f0, (nth qA.z x0_ x17).f1, (nth qA.z x0_ x17).f2, (nth qA.z x0_ x17).f3, (nth qA.z x0_ x17).f4, (nth qA.z x0_ x17).f5⟩ : qA) _ _ _ hS.own.sub h45)) ?_
     rintro _ u43 a ⟨_, rfl, hC⟩ hE
     replace hS := hS.lent hC
     obtain ⟨t47, h48, H⟩ := bd H
     refine ple hE (.cl en254 (qF.calls k21 l16 t44 _ _ _ _ _ (Sub.refl _) (hS.rd_at (i := 1) rfl) h48)) ?_
     rintro _ u46 a ⟨_, rfl, hC⟩ hE
     replace hS := hS.lent hC
     refine plc hE (.r 5 5 .nil) (fun a hE => pld (hK42 _ _ (sq fun K49 hK49 => ?_)))
     have J75 : ∀ kq73, kq73 ≤ k21 → ∀ (G : Nat → Value) (A68 : Option Addr) (c69 : Nat) (l70 : List qB) (F71 : World) (a : Act) (w' : World), Env 60 G a → At G [(1, .func (.func 239) #[] #[.pointer (some ⟨p1c0_, 0, none⟩)]), (2, .func (.func 240) #[] #[]), (7, .slice A68 l70.length c69), (9, .pointer (some ⟨b33, 0, none⟩)), (10, .int .i64 t47.1), (15, .slice (some ad29) x0_.length c0_0), (16, .int .i64 (x0_.length : Int)), (17, .int .i64 x17)] → St W (mine W []) F w' F71 [box b33 #[.int .i64 ((nth qA.z x0_ x17).f0), .int .i64 ((nth qA.z x0_ x17).f1), .int .i64 ((nth qA.z x0_ x17).f2), .int .i64 ((nth qA.z x0_ x17).f3), .bool ((nth qA.z x0_ x17).f4), .bool ((nth qA.z x0_ x17).f5)] 104, row qB.k 216 (.slice A68 l70.length c69) l70] → Rd qA.k F71 (some ad29) c0_0 x0_ → F71.heap[p1c0_]? = some (.cells #[.int .i64 x1c0_] 3 (0, 0)) → qR.j72 kq73 x0_ x1c0_ x17 t47 l70 = some r → K49 a w' := by
      intro kq73 hkq G A68 c69 l70 F71 a u76 hE hA hS g0_0 hp1c0_ H
      cases kq73 with
      | zero => cases (show none = some r from H)
      | succ k74 =>
       rw [qR.j72_s] at H
       obtain ⟨J, hE⟩ := hE.at hA
       refine hK49 _ _ (sq fun K77 hK77 => pl0 ?_)
       have hb33 := hS.blk_at (i := 0) rfl
       refine plc hE (.r 0 1 <| .b 1 5 hb33 <| .nil) (fun a hE => pld (hK77 _ _ ?_))
       rcases sp H with ⟨c78, H⟩ | ⟨c78, H⟩
       ·
        replace hE := hE.bt 44 c78
        refine ct hE ?_
        refine drawn 14 ⟨[13], [], fun q => False⟩ mixed rfl (by kernel_rfl) (fun hst => ?_)
        replace hS := hS.drew
        obtain ⟨c79, H⟩ := gd H
        have hr80 := hS.row_at (i := 1) rfl
        have hE_ := hE
        obtain ⟨b81, rfl⟩ := qCI hr80 c79.1 c79.2
        replace hE := hE_
        have hr_ := hS.row_at (i := 1) rfl
        obtain ⟨cs83, rfl, hc84⟩ := qCG hr_ qB.z t47.1 c79.1 c79.2
        have hb33 := hS.blk_at (i := 0) rfl
        have hr85 := hS.row_at (i := 1) rfl
        refine mny 1 hst hE (.r 0 4 <| .x 4 c79 <| .r 5 1 <| .c 6 (hc84 1 _ rfl) <| .r 7 1 <| .b 8 3 hb33 <| .r 9 2 <| .x 11 c79 <| .r 12 1 <| .nil) (fun a hE => ?_)
        replace hS := hS.front 1 rfl
        obtain ⟨cs90, rfl, hc91⟩ := qCG (hS.row_at (i := 0) rfl) qB.z t47.1 c79.1 c79.2
        refine on1 13 hE (.set (d := qB.k) (n := l70.length) (i := t47.1) (⟨(nth qB.z l70 t47.1).f0, (if (w64 ((nth qB.z l70 t47.1).f1 + (nth qA.z x0_ x17).f3)) < 65536 then (w64 ((nth qB.z l70 t47.1).f1 + (nth qA.z x0_ x17).f3)) else 65536)⟩ : qB) 1 (ea1 _ _ _) hS c79 [.int .i64 ((nth qB.z l70 t47.1).f0), .int .i64 ((nth qB.z l70 t47.1).f1)] hc91 [.int .i64 ((nth qB.z l70 t47.1).f0), .int .i64 (if (w64 ((nth qB.z l70 t47.1).f1 + (nth qA.z x0_ x17).f3)) < 65536 then (w64 ((nth qB.z l70 t47.1).f1 + (nth qA.z x0_ x17).f3)) else 65536)] rfl) ?_
        rintro _ u89 a ⟨rfl, hS, hz⟩ hE
        refine ⟨.d, ?_⟩
        refine dn ?_
        refine qCD ?_
        refine hK26 _ _ (pl0 (plc hE (.r 0 2 .nil) (fun a hE => pld ?_)))
        have hn92 := (qCF (hS.row_at (i := 0) rfl)).1
        replace hE := hE.set (d := 7) (v := .slice (some ⟨b81, 0, none⟩) ((l70.set (t47.1).toNat (⟨(nth qB.z l70 t47.1).f0, (if (w64 ((nth qB.z l70 t47.1).f1 + (nth qA.z x0_ x17).f3)) < 65536 then (w64 ((nth qB.z l70 t47.1).f1 + (nth qA.z x0_ x17).f3)) else 65536)⟩ : qB)).length) c69) (Eq.trans (b := .slice (some ⟨b81, 0, none⟩) l70.length c69) (by kernel_rfl) (by rw [← hn92]))
        replace hS : St W (mine W []) F u89 F71 [row qB.k 216 (.slice (some ⟨b81, 0, none⟩) ((l70.set (t47.1).toNat (⟨(nth qB.z l70 t47.1).f0, (if (w64 ((nth qB.z l70 t47.1).f1 + (nth qA.z x0_ x17).f3)) < 65536 then (w64 ((nth qB.z l70 t47.1).f1 + (nth qA.z x0_ x17).f3)) else 65536)⟩ : qB)).length) c69) (l70.set (t47.1).toNat (⟨(nth qB.z l70 t47.1).f0, (if (w64 ((nth qB.z l70 t47.1).f1 + (nth qA.z x0_ x17).f3)) < 65536 then (w64 ((nth qB.z l70 t47.1).f1 + (nth qA.z x0_ x17).f3)) else 65536)⟩ : qB)), box b33 #[.int .i64 ((nth qA.z x0_ x17).f0), .int .i64 ((nth qA.z x0_ x17).f1), .int .i64 ((nth qA.z x0_ x17).f2), .int .i64 ((nth qA.z x0_ x17).f3), .bool ((nth qA.z x0_ x17).f4), .bool ((nth qA.z x0_ x17).f5)] 104] := by rw [← hn92]; exact hS
        replace hS := hS.front 1 rfl
        replace hS := hS.tail
        exact qCE ⟨k74, by omega, _, (some ⟨b81, 0, none⟩), c69, (l70.set (t47.1).toNat (⟨(nth qB.z l70 t47.1).f0, (if (w64 ((nth qB.z l70 t47.1).f1 + (nth qA.z x0_ x17).f3)) < 65536 then (w64 ((nth qB.z l70 t47.1).f1 + (nth qA.z x0_ x17).f3)) else 65536)⟩ : qB)), (w64 (x17 + 1)), F71, by omega, hE, .of, hS, g0_0, hp1c0_, H⟩
       ·
        replace hE := hE.bf 44 c78
        refine cf hE (wp_skip ?_)
        refine qCD ?_
        refine hK26 _ _ (pl0 (plc hE (.r 0 2 .nil) (fun a hE => pld ?_)))
        replace hS := hS.tail
        exact qCE ⟨k74, by omega, _, A68, c69, l70, (w64 (x17 + 1)), F71, by omega, hE, .of, hS, g0_0, hp1c0_, H⟩
     refine sq fun K50 hK50 => pl0 (plc hE (.r 0 2 .nil) (fun a hE => pld (hK50 _ _ ?_)))
     rcases sp H with ⟨c51, H⟩ | ⟨c51, H⟩
     ·
      replace hE := hE.btn 34 c51
      refine cf hE (wp_skip ?_)
      exact J75 _ (by omega) _ A14 c15 l16 F18 _ _ hE .of hS g0_0 hp1c0_ H
     ·
      replace hE := hE.bfn 34 c51
      refine ct hE (pl0 ?_)
      have hb33 := hS.blk_at (i := 0) rfl
      refine plc hE (.r 0 3 <| .bn 3 0 6 hb33 <| .nil) (fun a hE => ?_)
      obtain ⟨t53, h54, H⟩ := bd H
      refine ple hE (.cl en240 (qBQ.calls (⟨(nth qA.z x0_ x17).f0, (nth qA.z x0_ x17).f1, (nth qA.z x0_ x17).f2, (nth qA.z x0_ x17).f3, (nth qA.z x0_ x17).f4, (nth qA.z x0_ x17).f5⟩ : qA) _ _ _ hS.own.sub h54)) ?_
      rintro _ u52 a ⟨_, rfl, hC⟩ hE
      replace hS := hS.lent hC
      refine plc hE (.r 5 1 .nil) (fun a hE => ple hE (.lit (d := qB.k) (e := 216) hS [(⟨t53, 0⟩ : qB)] (.cons rfl .nil)) ?_)
      rintro _ u55 a ⟨A56, c57, rfl, hS, hg⟩ hE
      replace hS := hS.front 2 rfl
      obtain ⟨t60, h61, H⟩ := bd H
      refine ple hE (.cl en256 (qr.calls l16 t47.1 [(⟨t53, 0⟩ : qB)] _ _ _ _ _ _ _ (Own.left (X := [row qB.k 216 (.slice A14 l16.length c15) l16, row qB.k 216 (.slice A56 ([(⟨t53, 0⟩ : qB)].length) c57) [(⟨t53, 0⟩ : qB)]]) hS.own) h61)) ?_
      rintro _ u59 a ⟨F62, A63, c64, rfl, hC⟩ hE
      have hs := hC.sub
      replace hS := hS.called (X := [row qB.k 216 (.slice A14 l16.length c15) l16, row qB.k 216 (.slice A56 ([(⟨t53, 0⟩ : qB)].length) c57) [(⟨t53, 0⟩ : qB)]]) hC
      replace g0_0 := g0_0.mono hs
      replace hp1c0_ := hs _ _ _ _ hp1c0_
      refine plc hE (.r 8 1 .nil) (fun a hE => pld ?_)
      replace hS := hS.front 1 rfl
      exact J75 _ (by omega) _ A63 c64 t60 F62 _ _ hE .of hS g0_0 hp1c0_ H
    ·
     replace hE := hE.bfn 24 c41
     refine ct hE ?_
     refine wp_exit ?_
     refine hK26 _ _ (pl0 (plc hE (.r 0 2 .nil) (fun a hE => pld ?_)))
     replace hS := hS.tail
     exact qCE ⟨k21, by omega, _, A14, c15, l16, (w64 (x17 + 1)), F18, by omega, hE, .of, hS, g0_0, hp1c0_, H⟩
   ·
    replace hE := hE.kf 18 c25
    refine cf hE ?_
    refine wp_exit ?_
    refine hK11 _ _ (sq fun K94 hK94 => pl0 (plc hE (.r 0 2 .nil) (fun a hE => pld (hK94 _ _ (wp_ret ?_)))))
    obtain rfl := si H
    exact rt1 hE ⟨_, rfl, _, _, _, rfl, hS⟩
 ·
  replace hE := hE.kfn 14 c8
  refine ct hE (sq fun K9 hK9 => pl0 (plc hE (.r 0 1 .nil) (fun a hE => pld (hK9 _ _ (wp_ret (qCB ?_))))))
  replace hS := hS.nilrow qB.k 216
  obtain rfl := si H
  exact rt1 hE ⟨_, rfl, _, _, _, rfl, hS⟩
def qBr.f (k : Nat) (x0_ : List qA) (x1_ : Int) : Option (List qB) := (qR.f k x0_ x1_).bind fun t8 => (some t8)
def qBr.Post (W F : World) (r : List qB) (v : Value) (w' : World) : Prop := ∃ (F' : World) (RA0_0 : Option Addr) (rc0_0 : Nat), v = .slice RA0_0 r.length rc0_0 ∧ St W (mine W []) F w' F' [row qB.k 216 (.slice RA0_0 r.length rc0_0) r]
theorem qBr.calls (k : Nat) (x0_ : List qA) (x1_ : Int) (A0_0 : Option Addr) (c0_0 : Nat) (r : List qB) (W F : World) (hown : Sub F W) (g0_0 : Rd qA.k F A0_0 c0_0 x0_) (H : qBr.f k x0_ x1_ = some r) :
    Calls Tryz.prog 226 #[.slice A0_0 x0_.length c0_0, .int .i64 x1_] W fun e w' => ∃ v, e = .returned v ∧ qBr.Post W F r v w' := by
 have hS := St.start (Own.nil hown)
 unfold qBr.f at H
 refine enter (n := 8) rfl rfl rfl (Nat.le_of_ble_eq_true rfl) (fun a hE => ?_)
 refine sq fun K1 hK1 => pl0 (ple hE (.bx (t := 3) hS [.int .i64 x1_]) ?_)
 rintro _ u3 a ⟨b2, rfl, hb2, hS, hg⟩ hE
 refine plc hE (.r 1 1 .nil) (fun a hE => pld (hK1 _ _ (sq fun K4 hK4 => pl0 (plc hE (.r 0 2 .nil) (fun a hE => ?_)))))
 obtain ⟨F5, hs, g6, hS⟩ := hS.giveb
 replace g0_0 := g0_0.mono hs
 obtain ⟨t8, h9, H⟩ := bd H
 refine ple hE (.cl en236 (qR.calls k x0_ x1_ _ _ _ _ _ _ hS.own.sub g0_0 g6 h9)) ?_
 rintro _ u7 a ⟨F10, A11, c12, rfl, hC⟩ hE
 have hs := hC.sub
 replace hS := hS.called (X := []) hC
 replace g0_0 := g0_0.mono hs
 replace g6 := hs _ _ _ _ g6
 refine plc hE (.r 3 1 .nil) (fun a hE => pld (hK4 _ _ (wp_ret ?_)))
 obtain rfl := si H
 exact rt1 hE ⟨_, rfl, _, _, _, rfl, hS⟩
def qBM.f (x0_ : qA) (xf0_ : Int) (xf1_ : Int) : Option Bool := if xf0_ = 0 then (if xf1_ = 0 then (some true) else (some (x0_.f2 == xf1_))) else (if x0_.f1 = xf0_ then (if xf1_ = 0 then (some true) else (some (x0_.f2 == xf1_))) else (some false))
def qBM.Post (W F : World) (r : Bool) (v : Value) (w' : World) : Prop := ∃ (F' : World), v = .bool r ∧ St W (mine W []) F w' F' []
theorem qBM.calls (x0_ : qA) (xf0_ : Int) (xf1_ : Int) (pf0_ : Nat) (pf1_ : Nat) (r : Bool) (W F : World) (hown : Sub F W) (hpf0_ : F.heap[pf0_]? = some (.cells #[.int .i64 xf0_] 3 (0, 0))) (hpf1_ : F.heap[pf1_]? = some (.cells #[.int .i64 xf1_] 3 (0, 0))) (H : qBM.f x0_ xf0_ xf1_ = some r) :
    Calls Tryz.prog 241 #[.agg #[.int .i64 x0_.f0, .int .i64 x0_.f1, .int .i64 x0_.f2, .int .i64 x0_.f3, .bool x0_.f4, .bool x0_.f5], .pointer (some ⟨pf0_, 0, none⟩), .pointer (some ⟨pf1_, 0, none⟩)] W fun e w' => ∃ v, e = .returned v ∧ qBM.Post W F r v w' := by
 have hS := St.start (Own.nil hown)
 unfold qBM.f at H
 refine enter (n := 23) rfl rfl rfl (Nat.le_of_ble_eq_true rfl) (fun a hE => ?_)
 refine sq fun K1 hK1 => pl0 (ple hE (.bx (t := 104) hS [.int .i64 x0_.f0, .int .i64 x0_.f1, .int .i64 x0_.f2, .int .i64 x0_.f3, .bool x0_.f4, .bool x0_.f5]) ?_)
 rintro _ u3 a ⟨b2, rfl, hb2, hS, hg⟩ hE
 refine plc hE (.r 1 1 .nil) (fun a hE => pld (hK1 _ _ (sq fun K4 hK4 => pl0 (plc hE (.b 0 0 (hS.own.sub _ _ _ _ hpf0_) <| .r 1 2 <| .nil) (fun a hE => ?_)))))
 rcases sp H with ⟨c5, H⟩ | ⟨c5, H⟩
 ·
  replace hE := hE.kt 7 c5
  refine plc hE (.r 3 6 <| .b 9 0 (hS.own.sub _ _ _ _ hpf1_) <| .r 10 2 <| .nil) (fun a hE => ?_)
  rcases sp H with ⟨c6, H⟩ | ⟨c6, H⟩
  ·
   replace hE := hE.kt 16 c6
   refine plc hE (.r 12 7 .nil) (fun a hE => pld (hK4 _ _ (wp_ret ?_)))
   replace hS := hS.tail
   obtain rfl := si H
   exact rt1 hE ⟨_, rfl, _, rfl, hS⟩
  ·
   replace hE := hE.kf 16 c6
   refine plc hE (.r 12 1 <| .b 13 2 hb2 <| .b 14 0 (hS.own.sub _ _ _ _ hpf1_) <| .r 15 4 <| .nil) (fun a hE => pld (hK4 _ _ (wp_ret ?_)))
   replace hS := hS.tail
   obtain rfl := si H
   exact rt1 hE ⟨_, rfl, _, rfl, hS⟩
 ·
  replace hE := hE.kf 7 c5
  refine plc hE (.r 3 1 <| .b 4 1 hb2 <| .b 5 0 (hS.own.sub _ _ _ _ hpf0_) <| .r 6 3 <| .nil) (fun a hE => ?_)
  rcases sp H with ⟨c7, H⟩ | ⟨c7, H⟩
  ·
   replace hE := hE.kt 13 c7
   refine plc hE (.b 9 0 (hS.own.sub _ _ _ _ hpf1_) <| .r 10 2 <| .nil) (fun a hE => ?_)
   rcases sp H with ⟨c8, H⟩ | ⟨c8, H⟩
   ·
    replace hE := hE.kt 16 c8
    refine plc hE (.r 12 7 .nil) (fun a hE => pld (hK4 _ _ (wp_ret ?_)))
    replace hS := hS.tail
    obtain rfl := si H
    exact rt1 hE ⟨_, rfl, _, rfl, hS⟩
   ·
    replace hE := hE.kf 16 c8
    refine plc hE (.r 12 1 <| .b 13 2 hb2 <| .b 14 0 (hS.own.sub _ _ _ _ hpf1_) <| .r 15 4 <| .nil) (fun a hE => pld (hK4 _ _ (wp_ret ?_)))
    replace hS := hS.tail
    obtain rfl := si H
    exact rt1 hE ⟨_, rfl, _, rfl, hS⟩
  ·
   replace hE := hE.kf 13 c7
   refine plc hE (.r 9 10 .nil) (fun a hE => pld (hK4 _ _ (wp_ret ?_)))
   replace hS := hS.tail
   obtain rfl := si H
   exact rt1 hE ⟨_, rfl, _, rfl, hS⟩
def qBE.f (x0_ : qA) : Option Int := some x0_.f0
def qBE.Post (W F : World) (r : Int) (v : Value) (w' : World) : Prop := ∃ (F' : World), v = .int .i64 r ∧ St W (mine W []) F w' F' []
theorem qBE.calls (x0_ : qA) (r : Int) (W F : World) (hown : Sub F W) (H : qBE.f x0_ = some r) :
    Calls Tryz.prog 242 #[.agg #[.int .i64 x0_.f0, .int .i64 x0_.f1, .int .i64 x0_.f2, .int .i64 x0_.f3, .bool x0_.f4, .bool x0_.f5]] W fun e w' => ∃ v, e = .returned v ∧ qBE.Post W F r v w' := by
 have hS := St.start (Own.nil hown)
 unfold qBE.f at H
 refine enter (n := 5) rfl rfl rfl (Nat.le_of_ble_eq_true rfl) (fun a hE => ?_)
 refine sq fun K1 hK1 => pl0 (ple hE (.bx (t := 104) hS [.int .i64 x0_.f0, .int .i64 x0_.f1, .int .i64 x0_.f2, .int .i64 x0_.f3, .bool x0_.f4, .bool x0_.f5]) ?_)
 rintro _ u3 a ⟨b2, rfl, hb2, hS, hg⟩ hE
 refine plc hE (.r 1 1 .nil) (fun a hE => pld (hK1 _ _ (sq fun K4 hK4 => pl0 (plc hE (.r 0 1 <| .b 1 0 hb2 <| .r 2 1 <| .nil) (fun a hE => pld (hK4 _ _ (wp_ret ?_)))))))
 replace hS := hS.tail
 obtain rfl := si H
 exact rt1 hE ⟨_, rfl, _, rfl, hS⟩
mutual
def qO.l19 : Nat → List qA → Int → Int → List qB → Int → Option (List qB)
  | 0, _, _, _, _, _ => none
  | k + 1, x0_, x1c0_, x1c1_, l16, x17 => if x17 < (x0_.length : Int) then (if 0 ≤ x17 ∧ x17 < (x0_.length : Int) then ((qBM.f (⟨(nth qA.z x0_ x17).f0, (nth qA.z x0_ x17).f1, (nth qA.z x0_ x17).f2, (nth qA.z x0_ x17).f3, (nth qA.z x0_ x17).f4, (nth qA.z x0_ x17).f5⟩ : qA) x1c0_ x1c1_).bind fun t39 => (if t39 = true then ((qBE.f (⟨(nth qA.z x0_ x17).f0, (nth qA.z x0_ x17).f1, (nth qA.z x0_ x17).f2, (nth qA.z x0_ x17).f3, (nth qA.z x0_ x17).f4, (nth qA.z x0_ x17).f5⟩ : qA)).bind fun t44 => ((qF.f k l16 t44).bind fun t47 => (if t47.2 = true then (qO.j72 k x0_ x1c0_ x1c1_ x17 t47 l16) else ((qBE.f (⟨(nth qA.z x0_ x17).f0, (nth qA.z x0_ x17).f1, (nth qA.z x0_ x17).f2, (nth qA.z x0_ x17).f3, (nth qA.z x0_ x17).f4, (nth qA.z x0_ x17).f5⟩ : qA)).bind fun t53 => ((qr.f l16 t47.1 [(⟨t53, 0⟩ : qB)]).bind fun t60 => (qO.j72 k x0_ x1c0_ x1c1_ x17 t47 t60)))))) else (qO.l19 k x0_ x1c0_ x1c1_ l16 (w64 (x17 + 1))))) else (none)) else (some l16)
def qO.j72 : Nat → List qA → Int → Int → Int → Int × Bool → List qB → Option (List qB)
  | 0, _, _, _, _, _, _ => none
  | k + 1, x0_, x1c0_, x1c1_, x17, t47, l70 => if ((nth qA.z x0_ x17).f5) = true then (if 0 ≤ t47.1 ∧ t47.1 < (l70.length : Int) then (qO.l19 k x0_ x1c0_ x1c1_ (l70.set (t47.1).toNat (⟨(nth qB.z l70 t47.1).f0, (if (w64 ((nth qB.z l70 t47.1).f1 + (nth qA.z x0_ x17).f3)) < 65536 then (w64 ((nth qB.z l70 t47.1).f1 + (nth qA.z x0_ x17).f3)) else 65536)⟩ : qB)) (w64 (x17 + 1))) else (none)) else (qO.l19 k x0_ x1c0_ x1c1_ l70 (w64 (x17 + 1)))
end
theorem qO.l19_s (k : Nat) (x0_ : List qA) (x1c0_ : Int) (x1c1_ : Int) (l16 : List qB) (x17 : Int) : qO.l19 (k + 1) x0_ x1c0_ x1c1_ l16 x17 = (if x17 < (x0_.length : Int) then (if 0 ≤ x17 ∧ x17 < (x0_.length : Int) then ((qBM.f (⟨(nth qA.z x0_ x17).f0, (nth qA.z x0_ x17).f1, (nth qA.z x0_ x17).f2, (nth qA.z x0_ x17).f3, (nth qA.z x0_ x17).f4, (nth qA.z x0_ x17).f5⟩ : qA) x1c0_ x1c1_).bind fun t39 => (if t39 = true then ((qBE.f (⟨(nth qA.z x0_ x17).f0, (nth qA.z x0_ x17).f1, (nth qA.z x0_ x17).f2, (nth qA.z x0_ x17).f3, (nth qA.z x0_ x17).f4, (nth qA.z x0_ x17).f5⟩ : qA)).bind fun t44 => ((qF.f k l16 t44).bind fun t47 => (if t47.2 = true then (qO.j72 k x0_ x1c0_ x1c1_ x17 t47 l16) else ((qBE.f (⟨(nth qA.z x0_ x17).f0, (nth qA.z x0_ x17).f1, (nth qA.z x0_ x17).f2, (nth qA.z x0_ x17).f3, (nth qA.z x0_ x17).f4, (nth qA.z x0_ x17).f5⟩ : qA)).bind fun t53 => ((qr.f l16 t47.1 [(⟨t53, 0⟩ : qB)]).bind fun t60 => (qO.j72 k x0_ x1c0_ x1c1_ x17 t47 t60)))))) else (qO.l19 k x0_ x1c0_ x1c1_ l16 (w64 (x17 + 1))))) else (none)) else (some l16)) := by kernel_rfl
theorem qO.j72_s (k : Nat) (x0_ : List qA) (x1c0_ : Int) (x1c1_ : Int) (x17 : Int) (t47 : Int × Bool) (l70 : List qB) : qO.j72 (k + 1) x0_ x1c0_ x1c1_ x17 t47 l70 = (if ((nth qA.z x0_ x17).f5) = true then (if 0 ≤ t47.1 ∧ t47.1 < (l70.length : Int) then (qO.l19 k x0_ x1c0_ x1c1_ (l70.set (t47.1).toNat (⟨(nth qB.z l70 t47.1).f0, (if (w64 ((nth qB.z l70 t47.1).f1 + (nth qA.z x0_ x17).f3)) < 65536 then (w64 ((nth qB.z l70 t47.1).f1 + (nth qA.z x0_ x17).f3)) else 65536)⟩ : qB)) (w64 (x17 + 1))) else (none)) else (qO.l19 k x0_ x1c0_ x1c1_ l70 (w64 (x17 + 1)))) := by kernel_rfl
def qO.f (k : Nat) (x0_ : List qA) (x1c0_ : Int) (x1c1_ : Int) : Option (List qB) := (qAG.f k x0_).bind fun t6 => (if t6 = 0 then (qO.l19 k x0_ x1c0_ x1c1_ [] 0) else (some []))
def qO.Post (W F : World) (r : List qB) (v : Value) (w' : World) : Prop := ∃ (F' : World) (RA0_0 : Option Addr) (rc0_0 : Nat), v = .slice RA0_0 r.length rc0_0 ∧ St W (mine W []) F w' F' [row qB.k 216 (.slice RA0_0 r.length rc0_0) r]
theorem qO.calls (k : Nat) (x0_ : List qA) (x1c0_ : Int) (x1c1_ : Int) (A0_0 : Option Addr) (c0_0 : Nat) (p1c0_ : Nat) (p1c1_ : Nat) (r : List qB) (W F : World) (hown : Sub F W) (g0_0 : Rd qA.k F A0_0 c0_0 x0_) (hp1c0_ : F.heap[p1c0_]? = some (.cells #[.int .i64 x1c0_] 3 (0, 0))) (hp1c1_ : F.heap[p1c1_]? = some (.cells #[.int .i64 x1c1_] 3 (0, 0))) (H : qO.f k x0_ x1c0_ x1c1_ = some r) :
    Calls Tryz.prog 236 #[.slice A0_0 x0_.length c0_0, .func (.func 241) #[] #[.pointer (some ⟨p1c0_, 0, none⟩), .pointer (some ⟨p1c1_, 0, none⟩)], .func (.func 242) #[] #[]] W fun e w' => ∃ v, e = .returned v ∧ qO.Post W F r v w' := by
 have hS := St.start (Own.nil hown)
 unfold qO.f at H
 refine enter (n := 60) rfl rfl rfl (Nat.le_of_ble_eq_true rfl) (fun a hE => ?_)
 refine sq fun K1 hK1 => pl0 (plc hE (.r 0 1 .nil) (fun a hE => pld (hK1 _ _ (sq fun K2 hK2 => pl0 (plc hE (.r 0 1 .nil) (fun a hE => pld (hK2 _ _ (sq fun K3 hK3 => sq fun K4 hK4 => pl0 (plc hE (.r 0 1 .nil) (fun a hE => ?_))))))))))
 obtain ⟨t6, h7, H⟩ := bd H
 refine ple hE (.cl en80 (qAG.calls k x0_ _ _ _ _ _ hS.own.sub g0_0 h7)) ?_
 rintro _ u5 a ⟨_, rfl, hC⟩ hE
 replace hS := hS.lent hC
 refine plc hE (.r 2 1 .nil) (fun a hE => pld (hK4 _ _ ?_))
 rcases sp H with ⟨c8, H⟩ | ⟨c8, H⟩
 ·
  replace hE := hE.ktn 14 c8
  refine cf hE (wp_skip (hK3 _ _ (sq fun K11 hK11 => sq fun K12 hK12 => pl0 (plc hE (.r 0 3 .nil) (fun a hE => pld (hK12 _ _ (wp_block ?_)))))))
  replace hS := hS.nilrow qB.k 216
  refine wp_loop_ghost (fun kq20 a w' => ∃ (G : Nat → Value) (A14 : Option Addr) (c15 : Nat) (l16 : List qB) (x17 : Int) (F18 : World), kq20 ≤ k ∧ Env 60 G a ∧ At G [(1, .func (.func 241) #[] #[.pointer (some ⟨p1c0_, 0, none⟩), .pointer (some ⟨p1c1_, 0, none⟩)]), (2, .func (.func 242) #[] #[]), (7, .slice A14 l16.length c15), (15, .slice A0_0 x0_.length c0_0), (16, .int .i64 (x0_.length : Int)), (17, .int .i64 x17)] ∧ St W (mine W []) F w' F18 [row qB.k 216 (.slice A14 l16.length c15) l16] ∧ Rd qA.k F18 A0_0 c0_0 x0_ ∧ F18.heap[p1c0_]? = some (.cells #[.int .i64 x1c0_] 3 (0, 0)) ∧ F18.heap[p1c1_]? = some (.cells #[.int .i64 x1c1_] 3 (0, 0)) ∧  qO.l19 kq20 x0_ x1c0_ x1c1_ l16 x17 = some r) k ⟨_, none, 0, [], 0, F, Nat.le_refl _, hE, .of, hS, g0_0, hp1c0_, hp1c1_, H⟩ ?_
  rintro kq20 a u22 ⟨G, A14, c15, l16, x17, F18, hkq, hE, hA, hS, g0_0, hp1c0_, hp1c1_, H⟩
  cases kq20 with
  | zero => cases (show none = some r from H)
  | succ k21 =>
   rw [qO.l19_s] at H
   obtain ⟨J, hE⟩ := hE.at hA
   refine sq fun K23 hK23 => pl0 (plc hE (.r 0 1 .nil) (fun a hE => pld (hK23 _ _ (sq fun K24 hK24 => ?_))))
   rcases sp H with ⟨c25, H⟩ | ⟨c25, H⟩
   ·
    replace hE := hE.kt 18 c25
    refine ct hE (wp_skip (hK24 _ _ (sq fun K26 hK26 => wp_block (sq fun K27 hK27 => pl0 ?_))))
    obtain ⟨c28, H⟩ := gd H
    have hE_ := hE
    obtain ⟨ad29, rfl⟩ := g0_0.addr c28.1 c28.2
    replace hE := hE_
    obtain ⟨cs31, rfl, hc32⟩ := g0_0.el qA.z x17 c28.1 c28.2
    refine plc hE (.x 0 c28 <| .cs 1 (hS.fcs hc32) <| .nil) (fun a hE => ple hE (.al (t := 104) hS [.int .i64 0, .int .i64 0, .int .i64 0, .int .i64 0, .bool false, .bool false]) ?_)
    rintro _ u34 a ⟨b33, rfl, hb33, hS, hg⟩ hE
    refine ple hE (.sto hS [.int .i64 ((nth qA.z x0_ x17).f0), .int .i64 ((nth qA.z x0_ x17).f1), .int .i64 ((nth qA.z x0_ x17).f2), .int .i64 ((nth qA.z x0_ x17).f3), .bool ((nth qA.z x0_ x17).f4), .bool ((nth qA.z x0_ x17).f5)]) ?_
    rintro _ u35 a ⟨rfl, hb33, hS, hz⟩ hE
    refine pld (hK27 _ _ (sq fun K36 hK36 => sq fun K37 hK37 => pl0 (plc hE (.r 0 1 <| .bn 1 0 6 hb33 <| .nil) (fun a hE => ?_))))
    obtain ⟨t39, h40, H⟩ := bd H
    refine ple hE (.cl en241 (qBM.calls (⟨(nth qA.z x0_ x17).f0, (nth qA.z x0_ x17).f1, (nth qA.z x0_ x17).f2, (nth qA.z x0_ x17).f3, (nth qA.z x0_ x17).f4, (nth qA.z x0_ x17).f5⟩ : qA) x1c0_ x1c1_ _ _ _ _ _ hS.own.sub hp1c0_ hp1c1_ h40)) ?_
    rintro _ u38 a ⟨_, rfl, hC⟩ hE
    replace hS := hS.lent hC
    refine plc hE (.r 3 1 .nil) (fun a hE => pld (hK37 _ _ ?_))
    rcases sp H with ⟨c41, H⟩ | ⟨c41, H⟩
    ·
     replace hE := hE.btn 24 c41
     refine cf hE (wp_skip (hK36 _ _ (sq fun K42 hK42 => pl0 ?_)))
     have hb33 := hS.blk_at (i := 0) rfl
     refine plc hE (.r 0 2 <| .bn 2 0 6 hb33 <| .nil) (fun a hE => ?_)
     obtain ⟨t44, h45, H⟩ := bd H
     refine ple hE (.cl en242 (qBE.calls (⟨(nth qA.z x0_ x17).f0, (nth qA.z x0_ x17).f1, (nth qA.z x0_ x17).f2, (nth qA.z x0_ x17).f3, (nth qA.z x0_ x17).f4, (nth qA.z x0_ x17).f5⟩ : qA) _ _ _ hS.own.sub h45)) ?_
     rintro _ u43 a ⟨_, rfl, hC⟩ hE
     replace hS := hS.lent hC
     obtain ⟨t47, h48, H⟩ := bd H
     refine ple hE (.cl en254 (qF.calls k21 l16 t44 _ _ _ _ _ (Sub.refl _) (hS.rd_at (i := 1) rfl) h48)) ?_
     rintro _ u46 a ⟨_, rfl, hC⟩ hE
     replace hS := hS.lent hC
     refine plc hE (.r 5 5 .nil) (fun a hE => pld (hK42 _ _ (sq fun K49 hK49 => ?_)))
     have J75 : ∀ kq73, kq73 ≤ k21 → ∀ (G : Nat → Value) (A68 : Option Addr) (c69 : Nat) (l70 : List qB) (F71 : World) (a : Act) (w' : World), Env 60 G a → At G [(1, .func (.func 241) #[] #[.pointer (some ⟨p1c0_, 0, none⟩), .pointer (some ⟨p1c1_, 0, none⟩)]), (2, .func (.func 242) #[] #[]), (7, .slice A68 l70.length c69), (9, .pointer (some ⟨b33, 0, none⟩)), (10, .int .i64 t47.1), (15, .slice (some ad29) x0_.length c0_0), (16, .int .i64 (x0_.length : Int)), (17, .int .i64 x17)] → St W (mine W []) F w' F71 [box b33 #[.int .i64 ((nth qA.z x0_ x17).f0), .int .i64 ((nth qA.z x0_ x17).f1), .int .i64 ((nth qA.z x0_ x17).f2), .int .i64 ((nth qA.z x0_ x17).f3), .bool ((nth qA.z x0_ x17).f4), .bool ((nth qA.z x0_ x17).f5)] 104, row qB.k 216 (.slice A68 l70.length c69) l70] → Rd qA.k F71 (some ad29) c0_0 x0_ → F71.heap[p1c0_]? = some (.cells #[.int .i64 x1c0_] 3 (0, 0)) → F71.heap[p1c1_]? = some (.cells #[.int .i64 x1c1_] 3 (0, 0)) → qO.j72 kq73 x0_ x1c0_ x1c1_ x17 t47 l70 = some r → K49 a w' := by
      intro kq73 hkq G A68 c69 l70 F71 a u76 hE hA hS g0_0 hp1c0_ hp1c1_ H
      cases kq73 with
      | zero => cases (show none = some r from H)
      | succ k74 =>
       rw [qO.j72_s] at H
       obtain ⟨J, hE⟩ := hE.at hA
       refine hK49 _ _ (sq fun K77 hK77 => pl0 ?_)
       have hb33 := hS.blk_at (i := 0) rfl
       refine plc hE (.r 0 1 <| .b 1 5 hb33 <| .nil) (fun a hE => pld (hK77 _ _ ?_))
       rcases sp H with ⟨c78, H⟩ | ⟨c78, H⟩
       ·
        replace hE := hE.bt 44 c78
        refine ct hE ?_
        refine drawn 14 ⟨[13], [], fun q => False⟩ mixed rfl (by kernel_rfl) (fun hst => ?_)
        replace hS := hS.drew
        obtain ⟨c79, H⟩ := gd H
        have hr80 := hS.row_at (i := 1) rfl
        have hE_ := hE
        obtain ⟨b81, rfl⟩ := qCI hr80 c79.1 c79.2
        replace hE := hE_
        have hr_ := hS.row_at (i := 1) rfl
        obtain ⟨cs83, rfl, hc84⟩ := qCG hr_ qB.z t47.1 c79.1 c79.2
        have hb33 := hS.blk_at (i := 0) rfl
        have hr85 := hS.row_at (i := 1) rfl
        refine mny 1 hst hE (.r 0 4 <| .x 4 c79 <| .r 5 1 <| .c 6 (hc84 1 _ rfl) <| .r 7 1 <| .b 8 3 hb33 <| .r 9 2 <| .x 11 c79 <| .r 12 1 <| .nil) (fun a hE => ?_)
        replace hS := hS.front 1 rfl
        obtain ⟨cs90, rfl, hc91⟩ := qCG (hS.row_at (i := 0) rfl) qB.z t47.1 c79.1 c79.2
        refine on1 13 hE (.set (d := qB.k) (n := l70.length) (i := t47.1) (⟨(nth qB.z l70 t47.1).f0, (if (w64 ((nth qB.z l70 t47.1).f1 + (nth qA.z x0_ x17).f3)) < 65536 then (w64 ((nth qB.z l70 t47.1).f1 + (nth qA.z x0_ x17).f3)) else 65536)⟩ : qB) 1 (ea1 _ _ _) hS c79 [.int .i64 ((nth qB.z l70 t47.1).f0), .int .i64 ((nth qB.z l70 t47.1).f1)] hc91 [.int .i64 ((nth qB.z l70 t47.1).f0), .int .i64 (if (w64 ((nth qB.z l70 t47.1).f1 + (nth qA.z x0_ x17).f3)) < 65536 then (w64 ((nth qB.z l70 t47.1).f1 + (nth qA.z x0_ x17).f3)) else 65536)] rfl) ?_
        rintro _ u89 a ⟨rfl, hS, hz⟩ hE
        refine ⟨.d, ?_⟩
        refine dn ?_
        refine qCD ?_
        refine hK26 _ _ (pl0 (plc hE (.r 0 2 .nil) (fun a hE => pld ?_)))
        have hn92 := (qCF (hS.row_at (i := 0) rfl)).1
        replace hE := hE.set (d := 7) (v := .slice (some ⟨b81, 0, none⟩) ((l70.set (t47.1).toNat (⟨(nth qB.z l70 t47.1).f0, (if (w64 ((nth qB.z l70 t47.1).f1 + (nth qA.z x0_ x17).f3)) < 65536 then (w64 ((nth qB.z l70 t47.1).f1 + (nth qA.z x0_ x17).f3)) else 65536)⟩ : qB)).length) c69) (Eq.trans (b := .slice (some ⟨b81, 0, none⟩) l70.length c69) (by kernel_rfl) (by rw [← hn92]))
        replace hS : St W (mine W []) F u89 F71 [row qB.k 216 (.slice (some ⟨b81, 0, none⟩) ((l70.set (t47.1).toNat (⟨(nth qB.z l70 t47.1).f0, (if (w64 ((nth qB.z l70 t47.1).f1 + (nth qA.z x0_ x17).f3)) < 65536 then (w64 ((nth qB.z l70 t47.1).f1 + (nth qA.z x0_ x17).f3)) else 65536)⟩ : qB)).length) c69) (l70.set (t47.1).toNat (⟨(nth qB.z l70 t47.1).f0, (if (w64 ((nth qB.z l70 t47.1).f1 + (nth qA.z x0_ x17).f3)) < 65536 then (w64 ((nth qB.z l70 t47.1).f1 + (nth qA.z x0_ x17).f3)) else 65536)⟩ : qB)), box b33 #[.int .i64 ((nth qA.z x0_ x17).f0), .int .i64 ((nth qA.z x0_ x17).f1), .int .i64 ((nth qA.z x0_ x17).f2), .int .i64 ((nth qA.z x0_ x17).f3), .bool ((nth qA.z x0_ x17).f4), .bool ((nth qA.z x0_ x17).f5)] 104] := by rw [← hn92]; exact hS
        replace hS := hS.front 1 rfl
        replace hS := hS.tail
        exact qCE ⟨k74, by omega, _, (some ⟨b81, 0, none⟩), c69, (l70.set (t47.1).toNat (⟨(nth qB.z l70 t47.1).f0, (if (w64 ((nth qB.z l70 t47.1).f1 + (nth qA.z x0_ x17).f3)) < 65536 then (w64 ((nth qB.z l70 t47.1).f1 + (nth qA.z x0_ x17).f3)) else 65536)⟩ : qB)), (w64 (x17 + 1)), F71, by omega, hE, .of, hS, g0_0, hp1c0_, hp1c1_, H⟩
       ·
        replace hE := hE.bf 44 c78
        refine cf hE (wp_skip ?_)
        refine qCD ?_
        refine hK26 _ _ (pl0 (plc hE (.r 0 2 .nil) (fun a hE => pld ?_)))
        replace hS := hS.tail
        exact qCE ⟨k74, by omega, _, A68, c69, l70, (w64 (x17 + 1)), F71, by omega, hE, .of, hS, g0_0, hp1c0_, hp1c1_, H⟩
     refine sq fun K50 hK50 => pl0 (plc hE (.r 0 2 .nil) (fun a hE => pld (hK50 _ _ ?_)))
     rcases sp H with ⟨c51, H⟩ | ⟨c51, H⟩
     ·
      replace hE := hE.btn 34 c51
      refine cf hE (wp_skip ?_)
      exact J75 _ (by omega) _ A14 c15 l16 F18 _ _ hE .of hS g0_0 hp1c0_ hp1c1_ H
     ·
      replace hE := hE.bfn 34 c51
      refine ct hE (pl0 ?_)
      have hb33 := hS.blk_at (i := 0) rfl
      refine plc hE (.r 0 3 <| .bn 3 0 6 hb33 <| .nil) (fun a hE => ?_)
      obtain ⟨t53, h54, H⟩ := bd H
      refine ple hE (.cl en242 (qBE.calls (⟨(nth qA.z x0_ x17).f0, (nth qA.z x0_ x17).f1, (nth qA.z x0_ x17).f2, (nth qA.z x0_ x17).f3, (nth qA.z x0_ x17).f4, (nth qA.z x0_ x17).f5⟩ : qA) _ _ _ hS.own.sub h54)) ?_
      rintro _ u52 a ⟨_, rfl, hC⟩ hE
      replace hS := hS.lent hC
      refine plc hE (.r 5 1 .nil) (fun a hE => ple hE (.lit (d := qB.k) (e := 216) hS [(⟨t53, 0⟩ : qB)] (.cons rfl .nil)) ?_)
      rintro _ u55 a ⟨A56, c57, rfl, hS, hg⟩ hE
      replace hS := hS.front 2 rfl
      obtain ⟨t60, h61, H⟩ := bd H
      refine ple hE (.cl en256 (qr.calls l16 t47.1 [(⟨t53, 0⟩ : qB)] _ _ _ _ _ _ _ (Own.left (X := [row qB.k 216 (.slice A14 l16.length c15) l16, row qB.k 216 (.slice A56 ([(⟨t53, 0⟩ : qB)].length) c57) [(⟨t53, 0⟩ : qB)]]) hS.own) h61)) ?_
      rintro _ u59 a ⟨F62, A63, c64, rfl, hC⟩ hE
      have hs := hC.sub
      replace hS := hS.called (X := [row qB.k 216 (.slice A14 l16.length c15) l16, row qB.k 216 (.slice A56 ([(⟨t53, 0⟩ : qB)].length) c57) [(⟨t53, 0⟩ : qB)]]) hC
      replace g0_0 := g0_0.mono hs
      replace hp1c0_ := hs _ _ _ _ hp1c0_
      replace hp1c1_ := hs _ _ _ _ hp1c1_
      refine plc hE (.r 8 1 .nil) (fun a hE => pld ?_)
      replace hS := hS.front 1 rfl
      exact J75 _ (by omega) _ A63 c64 t60 F62 _ _ hE .of hS g0_0 hp1c0_ hp1c1_ H
    ·
     replace hE := hE.bfn 24 c41
     refine ct hE ?_
     refine wp_exit ?_
     refine hK26 _ _ (pl0 (plc hE (.r 0 2 .nil) (fun a hE => pld ?_)))
     replace hS := hS.tail
     exact qCE ⟨k21, by omega, _, A14, c15, l16, (w64 (x17 + 1)), F18, by omega, hE, .of, hS, g0_0, hp1c0_, hp1c1_, H⟩
   ·
    replace hE := hE.kf 18 c25
    refine cf hE ?_
    refine wp_exit ?_
    refine hK11 _ _ (sq fun K94 hK94 => pl0 (plc hE (.r 0 2 .nil) (fun a hE => pld (hK94 _ _ (wp_ret ?_)))))
    obtain rfl := si H
    exact rt1 hE ⟨_, rfl, _, _, _, rfl, hS⟩
 ·
  replace hE := hE.kfn 14 c8
  refine ct hE (sq fun K9 hK9 => pl0 (plc hE (.r 0 1 .nil) (fun a hE => pld (hK9 _ _ (wp_ret (qCB ?_))))))
  replace hS := hS.nilrow qB.k 216
  obtain rfl := si H
  exact rt1 hE ⟨_, rfl, _, _, _, rfl, hS⟩
def qBl.f (k : Nat) (x0_ : List qA) (x1_ : Int) (x2_ : Int) : Option (List qB) := (qO.f k x0_ x1_ x2_).bind fun t12 => (some t12)
def qBl.Post (W F : World) (r : List qB) (v : Value) (w' : World) : Prop := ∃ (F' : World) (RA0_0 : Option Addr) (rc0_0 : Nat), v = .slice RA0_0 r.length rc0_0 ∧ St W (mine W []) F w' F' [row qB.k 216 (.slice RA0_0 r.length rc0_0) r]
theorem qBl.calls (k : Nat) (x0_ : List qA) (x1_ : Int) (x2_ : Int) (A0_0 : Option Addr) (c0_0 : Nat) (r : List qB) (W F : World) (hown : Sub F W) (g0_0 : Rd qA.k F A0_0 c0_0 x0_) (H : qBl.f k x0_ x1_ x2_ = some r) :
    Calls Tryz.prog 227 #[.slice A0_0 x0_.length c0_0, .int .i64 x1_, .int .i64 x2_] W fun e w' => ∃ v, e = .returned v ∧ qBl.Post W F r v w' := by
 have hS := St.start (Own.nil hown)
 unfold qBl.f at H
 refine enter (n := 10) rfl rfl rfl (Nat.le_of_ble_eq_true rfl) (fun a hE => ?_)
 refine sq fun K1 hK1 => pl0 (ple hE (.bx (t := 3) hS [.int .i64 x1_]) ?_)
 rintro _ u3 a ⟨b2, rfl, hb2, hS, hg⟩ hE
 refine ple hE (.bx (t := 3) hS [.int .i64 x2_]) ?_
 rintro _ u5 a ⟨b4, rfl, hb4, hS, hg⟩ hE
 refine plc hE (.r 2 1 .nil) (fun a hE => pld (hK1 _ _ (sq fun K6 hK6 => pl0 (plc hE (.r 0 2 .nil) (fun a hE => ?_)))))
 replace hS := hS.front 1 rfl
 obtain ⟨F7, hs, g8, hS⟩ := hS.giveb
 replace g0_0 := g0_0.mono hs
 obtain ⟨F9, hs, g10, hS⟩ := hS.giveb
 replace g0_0 := g0_0.mono hs
 replace g8 := hs _ _ _ _ g8
 obtain ⟨t12, h13, H⟩ := bd H
 refine ple hE (.cl en236 (qO.calls k x0_ x1_ x2_ _ _ _ _ _ _ _ hS.own.sub g0_0 g8 g10 h13)) ?_
 rintro _ u11 a ⟨F14, A15, c16, rfl, hC⟩ hE
 have hs := hC.sub
 replace hS := hS.called (X := []) hC
 replace g0_0 := g0_0.mono hs
 replace g8 := hs _ _ _ _ g8
 replace g10 := hs _ _ _ _ g10
 refine plc hE (.r 3 1 .nil) (fun a hE => pld (hK6 _ _ (wp_ret ?_)))
 obtain rfl := si H
 exact rt1 hE ⟨_, rfl, _, _, _, rfl, hS⟩
def qBX.l6 : Nat → Int → Int → Option Int
  | 0, _, _ => none
  | k + 1, x4, x5 => if x5 < 2 then (qBX.l6 k (IntKind.u64.wrap ((IntKind.u64.wrap (((BitVec.ofInt 64 x4 ^^^ BitVec.ofInt 64 (x4.fdiv 4294967296)).toNat : Int))) * 15485907386658061715)) (w64 (x5 + 1))) else (some (IntKind.u64.wrap (((BitVec.ofInt 64 x4 ^^^ BitVec.ofInt 64 (x4.fdiv 4294967296)).toNat : Int))))
theorem qBX.l6_s (k : Nat) (x4 : Int) (x5 : Int) : qBX.l6 (k + 1) x4 x5 = (if x5 < 2 then (qBX.l6 k (IntKind.u64.wrap ((IntKind.u64.wrap (((BitVec.ofInt 64 x4 ^^^ BitVec.ofInt 64 (x4.fdiv 4294967296)).toNat : Int))) * 15485907386658061715)) (w64 (x5 + 1))) else (some (IntKind.u64.wrap (((BitVec.ofInt 64 x4 ^^^ BitVec.ofInt 64 (x4.fdiv 4294967296)).toNat : Int))))) := by kernel_rfl
def qBX.f (k : Nat) (x0_ : Int) : Option Int := qBX.l6 k x0_ 0
def qBX.Post (W F : World) (r : Int) (v : Value) (w' : World) : Prop := ∃ (F' : World), v = .int .u64 r ∧ St W (mine W []) F w' F' []
theorem qBX.calls (k : Nat) (x0_ : Int) (r : Int) (W F : World) (hown : Sub F W) (H : qBX.f k x0_ = some r) :
    Calls Tryz.prog 250 #[.int .u64 x0_] W fun e w' => ∃ v, e = .returned v ∧ qBX.Post W F r v w' := by
 have hS := St.start (Own.nil hown)
 unfold qBX.f at H
 refine enter (n := 16) rfl rfl rfl (Nat.le_of_ble_eq_true rfl) (fun a hE => ?_)
 refine sq fun K1 hK1 => pl0 (plc hE (.r 0 1 .nil) (fun a hE => pld (hK1 _ _ (sq fun K2 hK2 => sq fun K3 hK3 => pl0 (plc hE (.r 0 1 .nil) (fun a hE => pld (hK3 _ _ (wp_block ?_))))))))
 refine wp_loop_ghost (fun kq7 a w' => ∃ (G : Nat → Value) (x4 : Int) (x5 : Int), kq7 ≤ k ∧ Env 16 G a ∧ At G [(0, .int .u64 x4), (3, .int .i64 x5)] ∧ St W (mine W []) F w' F [] ∧  qBX.l6 kq7 x4 x5 = some r) k ⟨_, x0_, 0, Nat.le_refl _, hE, .of, hS, H⟩ ?_
 rintro kq7 a u9 ⟨G, x4, x5, hkq, hE, hA, hS, H⟩
 cases kq7 with
 | zero => cases (show none = some r from H)
 | succ k8 =>
  rw [qBX.l6_s] at H
  obtain ⟨J, hE⟩ := hE.at hA
  refine sq fun K10 hK10 => pl0 (plc hE (.r 0 1 .nil) (fun a hE => pld (hK10 _ _ (sq fun K11 hK11 => ?_))))
  rcases sp H with ⟨c12, H⟩ | ⟨c12, H⟩
  ·
   replace hE := hE.kt 4 c12
   refine ct hE (wp_skip (hK11 _ _ (sq fun K13 hK13 => wp_block (sq fun K14 hK14 => pl0 (plc hE (.r 0 5 .nil) (fun a hE => pld (hK14 _ _ (pl0 (plc hE (.r 0 3 .nil) (fun a hE => pld ?_))))))))))
   refine qCD ?_
   refine hK13 _ _ (pl0 (plc hE (.r 0 2 .nil) (fun a hE => pld ?_)))
   exact qCE ⟨k8, by omega, _, (IntKind.u64.wrap ((IntKind.u64.wrap (((BitVec.ofInt 64 x4 ^^^ BitVec.ofInt 64 (x4.fdiv 4294967296)).toNat : Int))) * 15485907386658061715)), (w64 (x5 + 1)), by omega, hE, .of, hS, H⟩
  ·
   replace hE := hE.kf 4 c12
   refine cf hE ?_
   refine wp_exit ?_
   refine hK2 _ _ (sq fun K15 hK15 => pl0 (plc hE (.r 0 5 .nil) (fun a hE => pld (hK15 _ _ (wp_ret ?_)))))
   obtain rfl := si H
   exact rt1 hE ⟨_, rfl, _, rfl, hS⟩
def qBJ.l10 : Nat → List Int → Int → Int → Option Int
  | 0, _, _, _ => none
  | k + 1, x1_, x8, x9 => if x9 < (x1_.length : Int) then (if 0 ≤ x9 ∧ x9 < (x1_.length : Int) then ((qBX.f k (IntKind.u64.wrap ((IntKind.u64.wrap (((BitVec.ofInt 64 x8 ^^^ BitVec.ofInt 64 (nth 0 x1_ x9)).toNat : Int))) + 11400714819323198485))).bind fun t25 => (qBJ.l10 k x1_ t25 (w64 (x9 + 1)))) else (none)) else (some x8)
theorem qBJ.l10_s (k : Nat) (x1_ : List Int) (x8 : Int) (x9 : Int) : qBJ.l10 (k + 1) x1_ x8 x9 = (if x9 < (x1_.length : Int) then (if 0 ≤ x9 ∧ x9 < (x1_.length : Int) then ((qBX.f k (IntKind.u64.wrap ((IntKind.u64.wrap (((BitVec.ofInt 64 x8 ^^^ BitVec.ofInt 64 (nth 0 x1_ x9)).toNat : Int))) + 11400714819323198485))).bind fun t25 => (qBJ.l10 k x1_ t25 (w64 (x9 + 1)))) else (none)) else (some x8)) := by kernel_rfl
def qBJ.f (k : Nat) (x0_ : Int) (x1_ : List Int) : Option Int := (qBX.f k x0_).bind fun t4 => (qBJ.l10 k x1_ t4 0)
def qBJ.Post (W F : World) (r : Int) (v : Value) (w' : World) : Prop := ∃ (F' : World), v = .int .u64 r ∧ St W (mine W []) F w' F' []
theorem qBJ.calls (k : Nat) (x0_ : Int) (x1_ : List Int) (A1_0 : Option Addr) (c1_0 : Nat) (r : Int) (W F : World) (hown : Sub F W) (g1_0 : Rd (Kn.int .u64) F A1_0 c1_0 x1_) (H : qBJ.f k x0_ x1_ = some r) :
    Calls Tryz.prog 229 #[.int .u64 x0_, .slice A1_0 x1_.length c1_0] W fun e w' => ∃ v, e = .returned v ∧ qBJ.Post W F r v w' := by
 have hS := St.start (Own.nil hown)
 unfold qBJ.f at H
 refine enter (n := 23) rfl rfl rfl (Nat.le_of_ble_eq_true rfl) (fun a hE => ?_)
 refine sq fun K1 hK1 => pl0 (plc hE (.r 0 1 .nil) (fun a hE => pld (hK1 _ _ (sq fun K2 hK2 => pl0 (plc hE (.r 0 1 .nil) (fun a hE => ?_))))))
 obtain ⟨t4, h5, H⟩ := bd H
 refine ple hE (.cl en250 (qBX.calls k x0_ _ _ _ hS.own.sub h5)) ?_
 rintro _ u3 a ⟨_, rfl, hC⟩ hE
 replace hS := hS.lent hC
 refine plc hE (.r 2 1 .nil) (fun a hE => pld (hK2 _ _ (sq fun K6 hK6 => sq fun K7 hK7 => pl0 (plc hE (.r 0 3 .nil) (fun a hE => pld (hK7 _ _ (wp_block ?_)))))))
 refine wp_loop_ghost (fun kq11 a w' => ∃ (G : Nat → Value) (x8 : Int) (x9 : Int), kq11 ≤ k ∧ Env 23 G a ∧ At G [(5, .int .u64 x8), (10, .slice A1_0 x1_.length c1_0), (11, .int .i64 (x1_.length : Int)), (12, .int .i64 x9)] ∧ St W (mine W []) F w' F [] ∧  qBJ.l10 kq11 x1_ x8 x9 = some r) k ⟨_, t4, 0, Nat.le_refl _, hE, .of, hS, H⟩ ?_
 rintro kq11 a u13 ⟨G, x8, x9, hkq, hE, hA, hS, H⟩
 cases kq11 with
 | zero => cases (show none = some r from H)
 | succ k12 =>
  rw [qBJ.l10_s] at H
  obtain ⟨J, hE⟩ := hE.at hA
  refine sq fun K14 hK14 => pl0 (plc hE (.r 0 1 .nil) (fun a hE => pld (hK14 _ _ (sq fun K15 hK15 => ?_))))
  rcases sp H with ⟨c16, H⟩ | ⟨c16, H⟩
  ·
   replace hE := hE.kt 13 c16
   refine ct hE (wp_skip (hK15 _ _ (sq fun K17 hK17 => wp_block (sq fun K18 hK18 => pl0 ?_))))
   obtain ⟨c19, H⟩ := gd H
   have hE_ := hE
   obtain ⟨ad20, rfl⟩ := g1_0.addr c19.1 c19.2
   replace hE := hE_
   obtain ⟨cs22, rfl, hc23⟩ := g1_0.el 0 x9 c19.1 c19.2
   refine plc hE (.x 0 c19 <| .c 1 (hS.fc hc23 0) <| .r 2 1 <| .nil) (fun a hE => pld (hK18 _ _ (pl0 (plc hE (.r 0 4 .nil) (fun a hE => ?_)))))
   obtain ⟨t25, h26, H⟩ := bd H
   refine ple hE (.cl en250 (qBX.calls k12 (IntKind.u64.wrap ((IntKind.u64.wrap (((BitVec.ofInt 64 x8 ^^^ BitVec.ofInt 64 (nth 0 x1_ x9)).toNat : Int))) + 11400714819323198485)) _ _ _ hS.own.sub h26)) ?_
   rintro _ u24 a ⟨_, rfl, hC⟩ hE
   replace hS := hS.lent hC
   refine plc hE (.r 5 1 .nil) (fun a hE => pld ?_)
   refine qCD ?_
   refine hK17 _ _ (pl0 (plc hE (.r 0 2 .nil) (fun a hE => pld ?_)))
   exact qCE ⟨k12, by omega, _, t25, (w64 (x9 + 1)), by omega, hE, .of, hS, H⟩
  ·
   replace hE := hE.kf 13 c16
   refine cf hE ?_
   refine wp_exit ?_
   refine hK6 _ _ (sq fun K27 hK27 => pl0 (plc hE (.r 0 2 .nil) (fun a hE => pld (hK27 _ _ (wp_ret ?_)))))
   obtain rfl := si H
   exact rt1 hE ⟨_, rfl, _, rfl, hS⟩
mutual
def qAa.l9 : Nat → List qB → Int → Option Int
  | 0, _, _ => none
  | k + 1, x0_, x8 => if x8 < (x0_.length : Int) then (if 0 ≤ x8 ∧ x8 < (x0_.length : Int) then (if (nth qB.z x0_ x8).f0 < 0 then (qAa.j37 k x0_ x8 true) else (if (nth qB.z x0_ x8).f0 > 2147483647 then (qAa.j37 k x0_ x8 true) else (if (nth qB.z x0_ x8).f1 < 0 then (qAa.j37 k x0_ x8 true) else (if (nth qB.z x0_ x8).f1 > 65536 then (qAa.j37 k x0_ x8 true) else (if x8 > 0 then (if 0 ≤ (w64 (x8 - 1)) ∧ (w64 (x8 - 1)) < (x0_.length : Int) then (qAa.j37 k x0_ x8 (decide ((nth qB.z x0_ x8).f0 ≤ (nth qB.z x0_ (w64 (x8 - 1))).f0))) else (none)) else (qAa.j37 k x0_ x8 false)))))) else (none)) else (some 0)
def qAa.j37 : Nat → List qB → Int → Bool → Option Int
  | 0, _, _, _ => none
  | k + 1, x0_, x8, y36 => if y36 = true then (some 1) else (qAa.l9 k x0_ (w64 (x8 + 1)))
end
theorem qAa.l9_s (k : Nat) (x0_ : List qB) (x8 : Int) : qAa.l9 (k + 1) x0_ x8 = (if x8 < (x0_.length : Int) then (if 0 ≤ x8 ∧ x8 < (x0_.length : Int) then (if (nth qB.z x0_ x8).f0 < 0 then (qAa.j37 k x0_ x8 true) else (if (nth qB.z x0_ x8).f0 > 2147483647 then (qAa.j37 k x0_ x8 true) else (if (nth qB.z x0_ x8).f1 < 0 then (qAa.j37 k x0_ x8 true) else (if (nth qB.z x0_ x8).f1 > 65536 then (qAa.j37 k x0_ x8 true) else (if x8 > 0 then (if 0 ≤ (w64 (x8 - 1)) ∧ (w64 (x8 - 1)) < (x0_.length : Int) then (qAa.j37 k x0_ x8 (decide ((nth qB.z x0_ x8).f0 ≤ (nth qB.z x0_ (w64 (x8 - 1))).f0))) else (none)) else (qAa.j37 k x0_ x8 false)))))) else (none)) else (some 0)) := by kernel_rfl
theorem qAa.j37_s (k : Nat) (x0_ : List qB) (x8 : Int) (y36 : Bool) : qAa.j37 (k + 1) x0_ x8 y36 = (if y36 = true then (some 1) else (qAa.l9 k x0_ (w64 (x8 + 1)))) := by kernel_rfl
def qAa.f (k : Nat) (x0_ : List qB) : Option Int := if (x0_.length : Int) > 64 then (some 1) else (qAa.l9 k x0_ 0)
def qAa.Post (W F : World) (r : Int) (v : Value) (w' : World) : Prop := ∃ (F' : World), v = .int .i64 r ∧ St W (mine W []) F w' F' []
theorem qAa.calls (k : Nat) (x0_ : List qB) (A0_0 : Option Addr) (c0_0 : Nat) (r : Int) (W F : World) (hown : Sub F W) (g0_0 : Rd qB.k F A0_0 c0_0 x0_) (H : qAa.f k x0_ = some r) :
    Calls Tryz.prog 243 #[.slice A0_0 x0_.length c0_0] W fun e w' => ∃ v, e = .returned v ∧ qAa.Post W F r v w' := by
 have hS := St.start (Own.nil hown)
 unfold qAa.f at H
 refine enter (n := 49) rfl rfl rfl (Nat.le_of_ble_eq_true rfl) (fun a hE => ?_)
 refine sq fun K1 hK1 => pl0 (plc hE (.r 0 1 .nil) (fun a hE => pld (hK1 _ _ (sq fun K2 hK2 => sq fun K3 hK3 => pl0 (plc hE (.r 0 3 .nil) (fun a hE => pld (hK3 _ _ ?_)))))))
 rcases sp H with ⟨c4, H⟩ | ⟨c4, H⟩
 ·
  replace hE := hE.kt 7 c4
  refine ct hE (sq fun K5 hK5 => pl0 (plc hE (.r 0 1 .nil) (fun a hE => pld (hK5 _ _ (wp_ret (qCB ?_))))))
  obtain rfl := si H
  exact rt1 hE ⟨_, rfl, _, rfl, hS⟩
 ·
  replace hE := hE.kf 7 c4
  refine cf hE (wp_skip (hK2 _ _ (sq fun K6 hK6 => sq fun K7 hK7 => pl0 (plc hE (.r 0 3 .nil) (fun a hE => pld (hK7 _ _ (wp_block ?_)))))))
  refine wp_loop_ghost (fun kq10 a w' => ∃ (G : Nat → Value) (x8 : Int), kq10 ≤ k ∧ Env 49 G a ∧ At G [(0, .slice A0_0 x0_.length c0_0), (8, .slice A0_0 x0_.length c0_0), (9, .int .i64 (x0_.length : Int)), (10, .int .i64 x8)] ∧ St W (mine W []) F w' F [] ∧  qAa.l9 kq10 x0_ x8 = some r) k ⟨_, 0, Nat.le_refl _, hE, .of, hS, H⟩ ?_
  rintro kq10 a u12 ⟨G, x8, hkq, hE, hA, hS, H⟩
  cases kq10 with
  | zero => cases (show none = some r from H)
  | succ k11 =>
   rw [qAa.l9_s] at H
   obtain ⟨J, hE⟩ := hE.at hA
   refine sq fun K13 hK13 => pl0 (plc hE (.r 0 1 .nil) (fun a hE => pld (hK13 _ _ (sq fun K14 hK14 => ?_))))
   rcases sp H with ⟨c15, H⟩ | ⟨c15, H⟩
   ·
    replace hE := hE.kt 11 c15
    refine ct hE (wp_skip (hK14 _ _ (sq fun K16 hK16 => wp_block (sq fun K17 hK17 => pl0 ?_))))
    obtain ⟨c18, H⟩ := gd H
    have hE_ := hE
    obtain ⟨ad19, rfl⟩ := g0_0.addr c18.1 c18.2
    replace hE := hE_
    obtain ⟨cs21, rfl, hc22⟩ := g0_0.el qB.z x8 c18.1 c18.2
    refine plc hE (.r 0 1 <| .x 1 c18 <| .cs 2 (hS.fcs hc22) <| .nil) (fun a hE => ple hE (.al (t := 216) hS [.int .i64 0, .int .i64 0]) ?_)
    rintro _ u24 a ⟨b23, rfl, hb23, hS, hg⟩ hE
    refine plc hE (.r 4 1 .nil) (fun a hE => ple hE (.sto hS [.int .i64 ((nth qB.z x0_ x8).f0), .int .i64 ((nth qB.z x0_ x8).f1)]) ?_)
    rintro _ u25 a ⟨rfl, hb23, hS, hz⟩ hE
    refine pld (hK17 _ _ (sq fun K26 hK26 => ?_))
    have J40 : ∀ kq38, kq38 ≤ k11 → ∀ (G : Nat → Value) (y36 : Bool) (a : Act) (w' : World), Env 49 G a → At G [(0, .slice (some ad19) x0_.length c0_0), (8, .slice (some ad19) x0_.length c0_0), (9, .int .i64 (x0_.length : Int)), (10, .int .i64 x8), (47, .bool y36)] → St W (mine W []) F w' F [box b23 #[.int .i64 ((nth qB.z x0_ x8).f0), .int .i64 ((nth qB.z x0_ x8).f1)] 216] → qAa.j37 kq38 x0_ x8 y36 = some r → K26 a w' := by
     intro kq38 hkq G y36 a u41 hE hA hS H
     cases kq38 with
     | zero => cases (show none = some r from H)
     | succ k39 =>
      rw [qAa.j37_s] at H
      obtain ⟨J, hE⟩ := hE.at hA
      refine hK26 _ _ ?_
      rcases sp H with ⟨c42, H⟩ | ⟨c42, H⟩
      ·
       replace hE := hE.bt 47 c42
       refine ct hE (sq fun K43 hK43 => pl0 (plc hE (.r 0 1 .nil) (fun a hE => pld (hK43 _ _ (wp_ret (qCC (qCB (qCB (qCC (qCB ?_))))))))))
       replace hS := hS.tail
       obtain rfl := si H
       exact rt1 hE ⟨_, rfl, _, rfl, hS⟩
      ·
       replace hE := hE.bf 47 c42
       refine cf hE (wp_skip ?_)
       refine qCD ?_
       refine hK16 _ _ (pl0 (plc hE (.r 0 2 .nil) (fun a hE => pld ?_)))
       replace hS := hS.tail
       exact qCE ⟨k39, by omega, _, (w64 (x8 + 1)), by omega, hE, .of, hS, H⟩
    refine drawn 33 ⟨[], [], fun q => False⟩ mixed rfl (by kernel_rfl) (fun hst => ?_)
    replace hS := hS.drew
    have hb23 := hS.blk_at (i := 0) rfl
    refine mny 29 hst hE (.r 0 1 <| .b 1 0 hb23 <| .r 2 2 <| .nil) (fun a hE => ?_)
    rcases sp H with ⟨c27, H⟩ | ⟨c27, H⟩
    ·
     replace hE := hE.kt 18 c27
     refine mny 0 hst hE (.r 4 29 .nil) (fun a hE => ?_)
     refine dn ?_
     exact J40 _ (by omega) _ true _ _ hE .of hS H
    ·
     replace hE := hE.kf 18 c27
     refine mny 24 hst hE (.r 4 1 <| .b 5 0 hb23 <| .r 6 3 <| .nil) (fun a hE => ?_)
     rcases sp H with ⟨c28, H⟩ | ⟨c28, H⟩
     ·
      replace hE := hE.kt 23 c28
      refine mny 0 hst hE (.r 9 24 .nil) (fun a hE => ?_)
      refine dn ?_
      exact J40 _ (by omega) _ true _ _ hE .of hS H
     ·
      replace hE := hE.kf 23 c28
      refine mny 19 hst hE (.r 9 1 <| .b 10 1 hb23 <| .r 11 3 <| .nil) (fun a hE => ?_)
      rcases sp H with ⟨c29, H⟩ | ⟨c29, H⟩
      ·
       replace hE := hE.kt 28 c29
       refine mny 0 hst hE (.r 14 19 .nil) (fun a hE => ?_)
       refine dn ?_
       exact J40 _ (by omega) _ true _ _ hE .of hS H
      ·
       replace hE := hE.kf 28 c29
       refine mny 14 hst hE (.r 14 1 <| .b 15 1 hb23 <| .r 16 3 <| .nil) (fun a hE => ?_)
       rcases sp H with ⟨c30, H⟩ | ⟨c30, H⟩
       ·
        replace hE := hE.kt 33 c30
        refine mny 0 hst hE (.r 19 14 .nil) (fun a hE => ?_)
        refine dn ?_
        exact J40 _ (by omega) _ true _ _ hE .of hS H
       ·
        replace hE := hE.kf 33 c30
        refine mny 11 hst hE (.r 19 3 .nil) (fun a hE => ?_)
        rcases sp H with ⟨c31, H⟩ | ⟨c31, H⟩
        ·
         replace hE := hE.kt 36 c31
         obtain ⟨c32, H⟩ := gd H
         obtain ⟨cs34, rfl, hc35⟩ := g0_0.el qB.z (w64 (x8 - 1)) c32.1 c32.2
         refine mny 0 hst hE (.r 22 1 <| .b 23 0 hb23 <| .r 24 3 <| .x 27 c32 <| .r 28 1 <| .c 29 (hS.fc hc35 0) <| .r 30 3 <| .nil) (fun a hE => ?_)
         refine dn ?_
         exact J40 _ (by omega) _ (decide ((nth qB.z x0_ x8).f0 ≤ (nth qB.z x0_ (w64 (x8 - 1))).f0)) _ _ hE .of hS H
        ·
         replace hE := hE.kf 36 c31
         refine mny 0 hst hE (.r 22 11 .nil) (fun a hE => ?_)
         refine dn ?_
         exact J40 _ (by omega) _ false _ _ hE .of hS H
   ·
    replace hE := hE.kf 11 c15
    refine cf hE ?_
    refine wp_exit ?_
    refine hK6 _ _ (sq fun K44 hK44 => pl0 (plc hE (.r 0 1 .nil) (fun a hE => pld (hK44 _ _ (wp_ret ?_)))))
    obtain rfl := si H
    exact rt1 hE ⟨_, rfl, _, rfl, hS⟩
def qAZ.f (x0_ : List qB) : Option (List qB) := if ((([] : List qB).length : Int) + (x0_.length : Int)) * 16 ≤ 140737488355328 then (some (([] : List qB) ++ x0_)) else (none)
def qAZ.Post (W F : World) (r : List qB) (v : Value) (w' : World) : Prop := ∃ (F' : World) (RA0_0 : Option Addr) (rc0_0 : Nat), v = .slice RA0_0 r.length rc0_0 ∧ St W (mine W []) F w' F' [row qB.k 216 (.slice RA0_0 r.length rc0_0) r]
theorem qAZ.calls (x0_ : List qB) (A0_0 : Option Addr) (c0_0 : Nat) (r : List qB) (W F : World) (hown : Sub F W) (g0_0 : Rd qB.k F A0_0 c0_0 x0_) (H : qAZ.f x0_ = some r) :
    Calls Tryz.prog 245 #[.slice A0_0 x0_.length c0_0] W fun e w' => ∃ v, e = .returned v ∧ qAZ.Post W F r v w' := by
 have hS := St.start (Own.nil hown)
 unfold qAZ.f at H
 refine enter (n := 8) rfl rfl rfl (Nat.le_of_ble_eq_true rfl) (fun a hE => ?_)
 rcases A0_0 with _ | ad1
 ·
  have hnil := g0_0.none_nil
  replace H : (some []) = some r := by simpa [hnil] using H
  refine sq fun K2 hK2 => pl0 (plc hE (.r 0 1 .nil) (fun a hE => pld (hK2 _ _ (sq fun K3 hK3 => sq fun K4 hK4 => pl0 (plc hE (.r 0 2 .nil) (fun a hE => pld (hK4 _ _ (ct hE (sq fun K5 hK5 => pl0 (plc hE (.r 0 1 .nil) (fun a hE => pld (hK5 _ _ (wp_ret (qCB ?_))))))))))))))
  replace hS := hS.nilrow qB.k 216
  obtain rfl := si H
  exact rt1 hE ⟨_, rfl, _, _, _, rfl, hS⟩
 ·
  refine sq fun K7 hK7 => pl0 (plc hE (.r 0 1 .nil) (fun a hE => pld (hK7 _ _ (sq fun K8 hK8 => sq fun K9 hK9 => pl0 (plc hE (.r 0 2 .nil) (fun a hE => pld (hK9 _ _ (cf hE (wp_skip (hK8 _ _ (sq fun K10 hK10 => pl0 (ple hE (.lit (d := qB.k) (e := 216) hS ([] : List qB) (.nil)) ?_))))))))))))
  rintro _ u11 a ⟨A12, c13, rfl, hS, hg⟩ hE
  refine plc hE (.r 1 1 .nil) (fun a hE => ?_)
  obtain ⟨c15, H⟩ := gd H
  refine ple hE (.ap (d := qB.k) 16 hS (g0_0.src hS.own.sub) c15 c0_0) ?_
  rintro _ u18 a ⟨A16, c17, rfl, hS, hz⟩ hE
  refine plc hE (.r 3 1 .nil) (fun a hE => pld (hK10 _ _ (wp_ret ?_)))
  obtain rfl := si H
  exact rt1 hE ⟨_, rfl, _, _, _, rfl, hS⟩
def qBV.f (x0_ : qB) : Option Bool := some (x0_.f1 == 0)
def qBV.Post (W F : World) (r : Bool) (v : Value) (w' : World) : Prop := ∃ (F' : World), v = .bool r ∧ St W (mine W []) F w' F' []
theorem qBV.calls (x0_ : qB) (r : Bool) (W F : World) (hown : Sub F W) (H : qBV.f x0_ = some r) :
    Calls Tryz.prog 246 #[.agg #[.int .i64 x0_.f0, .int .i64 x0_.f1]] W fun e w' => ∃ v, e = .returned v ∧ qBV.Post W F r v w' := by
 have hS := St.start (Own.nil hown)
 unfold qBV.f at H
 refine enter (n := 6) rfl rfl rfl (Nat.le_of_ble_eq_true rfl) (fun a hE => ?_)
 refine sq fun K1 hK1 => pl0 (ple hE (.bx (t := 216) hS [.int .i64 x0_.f0, .int .i64 x0_.f1]) ?_)
 rintro _ u3 a ⟨b2, rfl, hb2, hS, hg⟩ hE
 refine plc hE (.r 1 1 .nil) (fun a hE => pld (hK1 _ _ (sq fun K4 hK4 => pl0 (plc hE (.r 0 1 <| .b 1 1 hb2 <| .r 2 2 <| .nil) (fun a hE => pld (hK4 _ _ (wp_ret ?_)))))))
 replace hS := hS.tail
 obtain rfl := si H
 exact rt1 hE ⟨_, rfl, _, rfl, hS⟩
def qL.l5 : Nat → List qB → Int → Option Int
  | 0, _, _ => none
  | k + 1, x0_, x4 => if x4 < (x0_.length : Int) then (if 0 ≤ x4 ∧ x4 < (x0_.length : Int) then ((qBV.f (⟨(nth qB.z x0_ x4).f0, (nth qB.z x0_ x4).f1⟩ : qB)).bind fun t21 => (if t21 = true then (some x4) else (qL.l5 k x0_ (w64 (x4 + 1))))) else (none)) else (some (-1))
theorem qL.l5_s (k : Nat) (x0_ : List qB) (x4 : Int) : qL.l5 (k + 1) x0_ x4 = (if x4 < (x0_.length : Int) then (if 0 ≤ x4 ∧ x4 < (x0_.length : Int) then ((qBV.f (⟨(nth qB.z x0_ x4).f0, (nth qB.z x0_ x4).f1⟩ : qB)).bind fun t21 => (if t21 = true then (some x4) else (qL.l5 k x0_ (w64 (x4 + 1))))) else (none)) else (some (-1))) := by kernel_rfl
def qL.f (k : Nat) (x0_ : List qB) : Option Int := qL.l5 k x0_ 0
def qL.Post (W F : World) (r : Int) (v : Value) (w' : World) : Prop := ∃ (F' : World), v = .int .i64 r ∧ St W (mine W []) F w' F' []
theorem qL.calls (k : Nat) (x0_ : List qB) (A0_0 : Option Addr) (c0_0 : Nat) (r : Int) (W F : World) (hown : Sub F W) (g0_0 : Rd qB.k F A0_0 c0_0 x0_) (H : qL.f k x0_ = some r) :
    Calls Tryz.prog 257 #[.slice A0_0 x0_.length c0_0, .func (.func 246) #[] #[]] W fun e w' => ∃ v, e = .returned v ∧ qL.Post W F r v w' := by
 have hS := St.start (Own.nil hown)
 unfold qL.f at H
 refine enter (n := 19) rfl rfl rfl (Nat.le_of_ble_eq_true rfl) (fun a hE => ?_)
 refine sq fun K1 hK1 => pl0 (plc hE (.r 0 1 .nil) (fun a hE => pld (hK1 _ _ (sq fun K2 hK2 => sq fun K3 hK3 => pl0 (plc hE (.r 0 3 .nil) (fun a hE => pld (hK3 _ _ (wp_block ?_))))))))
 refine wp_loop_ghost (fun kq6 a w' => ∃ (G : Nat → Value) (x4 : Int), kq6 ≤ k ∧ Env 19 G a ∧ At G [(0, .slice A0_0 x0_.length c0_0), (1, .func (.func 246) #[] #[]), (7, .int .i64 (x0_.length : Int)), (8, .int .i64 x4)] ∧ St W (mine W []) F w' F [] ∧  qL.l5 kq6 x0_ x4 = some r) k ⟨_, 0, Nat.le_refl _, hE, .of, hS, H⟩ ?_
 rintro kq6 a u8 ⟨G, x4, hkq, hE, hA, hS, H⟩
 cases kq6 with
 | zero => cases (show none = some r from H)
 | succ k7 =>
  rw [qL.l5_s] at H
  obtain ⟨J, hE⟩ := hE.at hA
  refine sq fun K9 hK9 => pl0 (plc hE (.r 0 1 .nil) (fun a hE => pld (hK9 _ _ (sq fun K10 hK10 => ?_))))
  rcases sp H with ⟨c11, H⟩ | ⟨c11, H⟩
  ·
   replace hE := hE.kt 9 c11
   refine ct hE (wp_skip (hK10 _ _ (sq fun K12 hK12 => wp_block (sq fun K13 hK13 => pl0 (plc hE (.r 0 2 .nil) (fun a hE => pld (hK13 _ _ (sq fun K14 hK14 => pl0 ?_))))))))
   obtain ⟨c15, H⟩ := gd H
   have hE_ := hE
   obtain ⟨ad16, rfl⟩ := g0_0.addr c15.1 c15.2
   replace hE := hE_
   obtain ⟨cs18, rfl, hc19⟩ := g0_0.el qB.z x4 c15.1 c15.2
   refine plc hE (.r 0 3 <| .x 3 c15 <| .cs 4 (hS.fcs hc19) <| .nil) (fun a hE => ?_)
   obtain ⟨t21, h22, H⟩ := bd H
   refine ple hE (.cl en246 (qBV.calls (⟨(nth qB.z x0_ x4).f0, (nth qB.z x0_ x4).f1⟩ : qB) _ _ _ hS.own.sub h22)) ?_
   rintro _ u20 a ⟨_, rfl, hC⟩ hE
   replace hS := hS.lent hC
   refine pld (hK14 _ _ ?_)
   rcases sp H with ⟨c23, H⟩ | ⟨c23, H⟩
   ·
    replace hE := hE.bt 16 c23
    refine ct hE (sq fun K24 hK24 => pl0 (plc hE (.r 0 2 .nil) (fun a hE => pld (hK24 _ _ (wp_ret (qCC (qCB (qCB (qCC (qCB ?_))))))))))
    obtain rfl := si H
    exact rt1 hE ⟨_, rfl, _, rfl, hS⟩
   ·
    replace hE := hE.bf 16 c23
    refine cf hE (wp_skip ?_)
    refine qCD ?_
    refine hK12 _ _ (pl0 (plc hE (.r 0 2 .nil) (fun a hE => pld ?_)))
    exact qCE ⟨k7, by omega, _, (w64 (x4 + 1)), by omega, hE, .of, hS, H⟩
  ·
   replace hE := hE.kf 9 c11
   refine cf hE ?_
   refine wp_exit ?_
   refine hK2 _ _ (sq fun K25 hK25 => pl0 (plc hE (.r 0 1 .nil) (fun a hE => pld (hK25 _ _ (wp_ret ?_)))))
   obtain rfl := si H
   exact rt1 hE ⟨_, rfl, _, rfl, hS⟩
def qM.l15 : Nat → List qB → List qB → Int → Int → Option (List qB)
  | 0, _, _, _, _ => none
  | k + 1, x0_, l12, x13, x14 => if x14 < (x0_.length : Int) then (if 0 ≤ x14 ∧ x14 < (x0_.length : Int) then ((qBV.f (⟨(nth qB.z l12 x14).f0, (nth qB.z l12 x14).f1⟩ : qB)).bind fun t36 => (if t36 = true then (qM.l15 k x0_ l12 x13 (w64 (x14 + 1))) else (if 0 ≤ x13 ∧ x13 < (x0_.length : Int) then (qM.l15 k x0_ (l12.set (x13).toNat (⟨(nth qB.z l12 x14).f0, (nth qB.z l12 x14).f1⟩ : qB)) (w64 (x13 + 1)) (w64 (x14 + 1))) else (none)))) else (none)) else (if 0 ≤ x13 ∧ x13 ≤ (x0_.length : Int) then (some (cutl (l12.take (x13).toNat ++ List.replicate (x0_.length - (x13).toNat) qB.z) 0 x13)) else (none))
theorem qM.l15_s (k : Nat) (x0_ : List qB) (l12 : List qB) (x13 : Int) (x14 : Int) : qM.l15 (k + 1) x0_ l12 x13 x14 = (if x14 < (x0_.length : Int) then (if 0 ≤ x14 ∧ x14 < (x0_.length : Int) then ((qBV.f (⟨(nth qB.z l12 x14).f0, (nth qB.z l12 x14).f1⟩ : qB)).bind fun t36 => (if t36 = true then (qM.l15 k x0_ l12 x13 (w64 (x14 + 1))) else (if 0 ≤ x13 ∧ x13 < (x0_.length : Int) then (qM.l15 k x0_ (l12.set (x13).toNat (⟨(nth qB.z l12 x14).f0, (nth qB.z l12 x14).f1⟩ : qB)) (w64 (x13 + 1)) (w64 (x14 + 1))) else (none)))) else (none)) else (if 0 ≤ x13 ∧ x13 ≤ (x0_.length : Int) then (some (cutl (l12.take (x13).toNat ++ List.replicate (x0_.length - (x13).toNat) qB.z) 0 x13)) else (none))) := by kernel_rfl
def qM.f (k : Nat) (x0_ : List qB) : Option (List qB) := (qL.f k x0_).bind fun t4 => (if t4 = (-1) then (some x0_) else (qM.l15 k x0_ x0_ t4 (w64 (t4 + 1))))
def qM.Post (x0_ : List qB) (A0_0 : Option Addr) (c0_0 : Nat) (W F : World) (r : List qB) (v : Value) (w' : World) : Prop := ∃ (F' : World) (RA0_0 : Option Addr) (rc0_0 : Nat), v = .slice RA0_0 r.length rc0_0 ∧ St W (mine W [row qB.k 216 (.slice A0_0 x0_.length c0_0) x0_]) F w' F' [row qB.k 216 (.slice RA0_0 r.length rc0_0) r]
theorem qM.calls (k : Nat) (x0_ : List qB) (A0_0 : Option Addr) (c0_0 : Nat) (r : List qB) (W F : World) (hown : Own W F [row qB.k 216 (.slice A0_0 x0_.length c0_0) x0_]) (H : qM.f k x0_ = some r) :
    Calls Tryz.prog 244 #[.slice A0_0 x0_.length c0_0, .func (.func 246) #[] #[]] W fun e w' => ∃ v, e = .returned v ∧ qM.Post x0_ A0_0 c0_0 W F r v w' := by
 have hS := St.start hown
 obtain ⟨N, hN⟩ : ∃ N, N = mine W [row qB.k 216 (.slice A0_0 x0_.length c0_0) x0_] := ⟨_, rfl⟩
 rw [← hN] at hS
 unfold qM.f at H
 refine enter (n := 42) rfl rfl rfl (Nat.le_of_ble_eq_true rfl) (fun a hE => ?_)
 refine sq fun K1 hK1 => pl0 (plc hE (.r 0 1 .nil) (fun a hE => pld (hK1 _ _ (sq fun K2 hK2 => pl0 (plc hE (.r 0 2 .nil) (fun a hE => ?_))))))
 obtain ⟨t4, h5, H⟩ := bd H
 refine ple hE (.cl en257 (qL.calls k x0_ _ _ _ _ _ (Sub.refl _) (hS.rd_at (i := 0) rfl) h5)) ?_
 rintro _ u3 a ⟨_, rfl, hC⟩ hE
 replace hS := hS.lent hC
 refine plc hE (.r 3 1 .nil) (fun a hE => pld (hK2 _ _ (sq fun K6 hK6 => sq fun K7 hK7 => pl0 (plc hE (.r 0 2 .nil) (fun a hE => pld (hK7 _ _ ?_))))))
 rcases sp H with ⟨c8, H⟩ | ⟨c8, H⟩
 ·
  replace hE := hE.kt 12 c8
  refine ct hE (sq fun K9 hK9 => pl0 (plc hE (.r 0 2 .nil) (fun a hE => pld (hK9 _ _ (wp_ret (qCB ?_))))))
  rw [hN] at hS
  obtain rfl := si H
  exact rt1 hE ⟨_, rfl, _, _, _, rfl, hS⟩
 ·
  replace hE := hE.kf 12 c8
  refine cf hE (wp_skip (hK6 _ _ (sq fun K10 hK10 => sq fun K11 hK11 => pl0 (plc hE (.r 0 3 .nil) (fun a hE => pld (hK11 _ _ (wp_block ?_)))))))
  refine wp_loop_ghost (fun kq16 a w' => ∃ (G : Nat → Value) (l12 : List qB) (x13 : Int) (x14 : Int), kq16 ≤ k ∧ Env 42 G a ∧ At G [(0, .slice A0_0 x0_.length c0_0), (1, .func (.func 246) #[] #[]), (5, .int .i64 x13), (6, .int .i64 x14)] ∧ St W N F w' F [row qB.k 216 (.slice A0_0 x0_.length c0_0) l12] ∧  qM.l15 kq16 x0_ l12 x13 x14 = some r) k ⟨_, x0_, t4, (w64 (t4 + 1)), Nat.le_refl _, hE, .of, hS, H⟩ ?_
  rintro kq16 a u18 ⟨G, l12, x13, x14, hkq, hE, hA, hS, H⟩
  cases kq16 with
  | zero => cases (show none = some r from H)
  | succ k17 =>
   rw [qM.l15_s] at H
   obtain ⟨J, hE⟩ := hE.at hA
   refine sq fun K19 hK19 => sq fun K20 hK20 => pl0 (plc hE (.r 0 4 .nil) (fun a hE => pld (hK20 _ _ ?_)))
   rcases sp H with ⟨c21, H⟩ | ⟨c21, H⟩
   ·
    replace hE := hE.kt 19 c21
    refine ct hE (wp_skip (hK19 _ _ (sq fun K22 hK22 => wp_block (sq fun K23 hK23 => pl0 ?_))))
    obtain ⟨c24, H⟩ := gd H
    have hr25 := hS.row_at (i := 0) rfl
    have c26 : 0 ≤ x14 ∧ x14 < (l12.length : Int) := by rw [← (qCF hr25).1]; exact c24
    have hE_ := hE
    obtain ⟨b27, rfl⟩ := qCI hr25 c26.1 c26.2
    replace hE := hE_
    have hr_ := hS.row_at (i := 0) rfl
    obtain ⟨cs29, rfl, hc30⟩ := qCG hr_ qB.z x14 c26.1 c26.2
    refine plc hE (.r 0 2 <| .x 2 c24 <| .cs 3 hc30 <| .nil) (fun a hE => ple hE (.al (t := 216) hS [.int .i64 0, .int .i64 0]) ?_)
    rintro _ u32 a ⟨b31, rfl, hb31, hS, hg⟩ hE
    refine ple hE (.sto hS [.int .i64 ((nth qB.z l12 x14).f0), .int .i64 ((nth qB.z l12 x14).f1)]) ?_
    rintro _ u33 a ⟨rfl, hb31, hS, hz⟩ hE
    refine pld (hK23 _ _ (sq fun K34 hK34 => pl0 (plc hE (.r 0 1 <| .bn 1 0 2 hb31 <| .nil) (fun a hE => ?_))))
    obtain ⟨t36, h37, H⟩ := bd H
    refine ple hE (.cl en246 (qBV.calls (⟨(nth qB.z l12 x14).f0, (nth qB.z l12 x14).f1⟩ : qB) _ _ _ hS.own.sub h37)) ?_
    rintro _ u35 a ⟨_, rfl, hC⟩ hE
    replace hS := hS.lent hC
    refine plc hE (.r 3 1 .nil) (fun a hE => pld (hK34 _ _ ?_))
    rcases sp H with ⟨c38, H⟩ | ⟨c38, H⟩
    ·
     replace hE := hE.btn 29 c38
     refine cf hE (wp_skip ?_)
     refine qCD ?_
     refine hK22 _ _ (pl0 (plc hE (.r 0 3 .nil) (fun a hE => pld ?_)))
     replace hS := hS.tail
     exact qCE ⟨k17, by omega, _, l12, x13, (w64 (x14 + 1)), by omega, hE, .of, hS, H⟩
    ·
     replace hE := hE.bfn 29 c38
     refine ct hE (sq fun K39 hK39 => pl0 ?_)
     have hb31 := hS.blk_at (i := 0) rfl
     obtain ⟨c40, H⟩ := gd H
     have hr41 := hS.row_at (i := 1) rfl
     have c42 : 0 ≤ x13 ∧ x13 < (l12.length : Int) := by rw [← (qCF hr41).1]; exact c40
     have hr_ := hS.row_at (i := 1) rfl
     obtain ⟨cs44, rfl, hc45⟩ := qCG hr_ qB.z x13 c42.1 c42.2
     refine plc hE (.r 0 2 <| .bn 2 0 2 hb31 <| .x 3 c40 <| .nil) (fun a hE => ?_)
     replace hS := hS.front 1 rfl
     obtain ⟨cs47, rfl, hc48⟩ := qCG (hS.row_at (i := 0) rfl) qB.z x13 c42.1 c42.2
     refine ple hE (.set (d := qB.k) (n := x0_.length) (i := x13) (⟨(nth qB.z l12 x14).f0, (nth qB.z l12 x14).f1⟩ : qB) (0) (ea0 _ _) hS c42 [.int .i64 ((nth qB.z l12 x13).f0), .int .i64 ((nth qB.z l12 x13).f1)] hc48 [.int .i64 ((nth qB.z l12 x14).f0), .int .i64 ((nth qB.z l12 x14).f1)] rfl) ?_
     rintro _ u46 a ⟨rfl, hS, hz⟩ hE
     refine pld (hK39 _ _ (pl0 (plc hE (.r 0 3 .nil) (fun a hE => pld ?_))))
     refine qCD ?_
     refine hK22 _ _ (pl0 (plc hE (.r 0 3 .nil) (fun a hE => pld ?_)))
     replace hS := hS.front 1 rfl
     replace hS := hS.tail
     exact qCE ⟨k17, by omega, _, (l12.set (x13).toNat (⟨(nth qB.z l12 x14).f0, (nth qB.z l12 x14).f1⟩ : qB)), (w64 (x13 + 1)), (w64 (x14 + 1)), by omega, hE, .of, hS, H⟩
   ·
    replace hE := hE.kf 19 c21
    refine cf hE ?_
    refine wp_exit ?_
    refine hK10 _ _ (sq fun K49 hK49 => pl0 ?_)
    obtain ⟨c50, H⟩ := gd H
    obtain ⟨A51, c52, hA53, hv54⟩ := y_suf (P := Tryz.prog) (k := .i64) (hS.row_at (i := 0) rfl) c50
    refine plc hE (.r 0 2 <| .y 2 (hv54 (by kernel_rfl)) <| .nil) (fun a hE => ple hE (.clr (d := qB.k) (n := x0_.length) (c' := c52) (lo := x13) 16 qB.z hS c50 hA53 (by rw [zr216]; exact rfl)) ?_)
    rintro _ u55 a ⟨rfl, hS, hz⟩ hE
    refine pld (hK49 _ _ (sq fun K56 hK56 => pl0 ?_))
    have hv57 := hS.row_at (i := 0) rfl
    replace hS := hS.shrink c50
    refine plc hE (.r 0 2 <| .y 2 (y_pre (k := .i64) hv57 c50) <| .r 3 1 <| .nil) (fun a hE => pld (hK56 _ _ (wp_ret ?_)))
    rw [hN] at hS
    obtain rfl := si H
    exact rt1 hE ⟨_, rfl, _, _, _, rfl, hS⟩
mutual
def qAL.j6 : Nat → Int → Bool → Option Int
  | 0, _, _ => none
  | k + 1, x0_, y5 => if y5 = true then (some 0) else (qAL.l17 k x0_ 0)
def qAL.l17 : Nat → Int → Int → Option Int
  | 0, _, _ => none
  | k + 1, x15, x16 => if x15 ≤ 32768 then (qAL.l17 k (w64 (x15 * 2)) (w64 (x16 + 1))) else (qAL.l31 k x16 (IntKind.u64.wrap ((IntKind.u64.wrap x15) * 32768)) 0 0)
def qAL.l31 : Nat → Int → Int → Int → Int → Option Int
  | 0, _, _, _, _ => none
  | k + 1, x16, x28, x29, x30 => if x30 < 16 then (if (IntKind.u64.wrap ((IntKind.u64.wrap (x28 * x28)).tdiv 2147483648)) ≤ 1073741824 then (qAL.l31 k x16 (IntKind.u64.wrap ((IntKind.u64.wrap ((IntKind.u64.wrap (x28 * x28)).tdiv 2147483648)) * 2)) (w64 ((w64 (x29 * 2)) + 1)) (w64 (x30 + 1))) else (qAL.l31 k x16 (IntKind.u64.wrap ((IntKind.u64.wrap (x28 * x28)).tdiv 2147483648)) (w64 (x29 * 2)) (w64 (x30 + 1)))) else (some (w64 ((w64 (x16 * 65536)) + x29)))
end
theorem qAL.j6_s (k : Nat) (x0_ : Int) (y5 : Bool) : qAL.j6 (k + 1) x0_ y5 = (if y5 = true then (some 0) else (qAL.l17 k x0_ 0)) := by kernel_rfl
theorem qAL.l17_s (k : Nat) (x15 : Int) (x16 : Int) : qAL.l17 (k + 1) x15 x16 = (if x15 ≤ 32768 then (qAL.l17 k (w64 (x15 * 2)) (w64 (x16 + 1))) else (qAL.l31 k x16 (IntKind.u64.wrap ((IntKind.u64.wrap x15) * 32768)) 0 0)) := by kernel_rfl
theorem qAL.l31_s (k : Nat) (x16 : Int) (x28 : Int) (x29 : Int) (x30 : Int) : qAL.l31 (k + 1) x16 x28 x29 x30 = (if x30 < 16 then (if (IntKind.u64.wrap ((IntKind.u64.wrap (x28 * x28)).tdiv 2147483648)) ≤ 1073741824 then (qAL.l31 k x16 (IntKind.u64.wrap ((IntKind.u64.wrap ((IntKind.u64.wrap (x28 * x28)).tdiv 2147483648)) * 2)) (w64 ((w64 (x29 * 2)) + 1)) (w64 (x30 + 1))) else (qAL.l31 k x16 (IntKind.u64.wrap ((IntKind.u64.wrap (x28 * x28)).tdiv 2147483648)) (w64 (x29 * 2)) (w64 (x30 + 1)))) else (some (w64 ((w64 (x16 * 65536)) + x29)))) := by kernel_rfl
def qAL.f (k : Nat) (x0_ : Int) : Option Int := if x0_ < 1 then (qAL.j6 k x0_ true) else (qAL.j6 k x0_ (decide (x0_ > 65536)))
def qAL.Post (W F : World) (r : Int) (v : Value) (w' : World) : Prop := ∃ (F' : World), v = .int .i64 r ∧ St W (mine W []) F w' F' []
theorem qAL.calls (k : Nat) (x0_ : Int) (r : Int) (W F : World) (hown : Sub F W) (H : qAL.f k x0_ = some r) :
    Calls Tryz.prog 271 #[.int .i64 x0_] W fun e w' => ∃ v, e = .returned v ∧ qAL.Post W F r v w' := by
 have hS := St.start (Own.nil hown)
 unfold qAL.f at H
 refine enter (n := 40) rfl rfl rfl (Nat.le_of_ble_eq_true rfl) (fun a hE => ?_)
 refine sq fun K1 hK1 => pl0 (plc hE (.r 0 1 .nil) (fun a hE => pld (hK1 _ _ (sq fun K2 hK2 => sq fun K3 hK3 => ?_))))
 have J9 : ∀ kq7, kq7 ≤ k → ∀ (G : Nat → Value) (y5 : Bool) (a : Act) (w' : World), Env 40 G a → At G [(0, .int .i64 x0_), (11, .bool y5)] → St W (mine W []) F w' F [] → qAL.j6 kq7 x0_ y5 = some r → K3 a w' := by
  intro kq7 hkq G y5 a u10 hE hA hS H
  cases kq7 with
  | zero => cases (show none = some r from H)
  | succ k8 =>
   rw [qAL.j6_s] at H
   obtain ⟨J, hE⟩ := hE.at hA
   refine hK3 _ _ ?_
   rcases sp H with ⟨c11, H⟩ | ⟨c11, H⟩
   ·
    replace hE := hE.bt 11 c11
    refine ct hE (sq fun K12 hK12 => pl0 (plc hE (.r 0 1 .nil) (fun a hE => pld (hK12 _ _ (wp_ret (qCB ?_))))))
    obtain rfl := si H
    exact rt1 hE ⟨_, rfl, _, rfl, hS⟩
   ·
    replace hE := hE.bf 11 c11
    refine cf hE (wp_skip (hK2 _ _ (sq fun K13 hK13 => pl0 (plc hE (.r 0 1 .nil) (fun a hE => pld (hK13 _ _ (sq fun K14 hK14 => wp_block ?_)))))))
    refine wp_loop_ghost (fun kq18 a w' => ∃ (G : Nat → Value) (x15 : Int) (x16 : Int), kq18 ≤ k8 ∧ Env 40 G a ∧ At G [(0, .int .i64 x15), (3, .int .i64 x16)] ∧ St W (mine W []) F w' F [] ∧  qAL.l17 kq18 x15 x16 = some r) k8 ⟨_, x0_, 0, Nat.le_refl _, hE, .of, hS, H⟩ ?_
    rintro kq18 a u20 ⟨G, x15, x16, hkq, hE, hA, hS, H⟩
    cases kq18 with
    | zero => cases (show none = some r from H)
    | succ k19 =>
     rw [qAL.l17_s] at H
     obtain ⟨J, hE⟩ := hE.at hA
     refine sq fun K21 hK21 => sq fun K22 hK22 => pl0 (plc hE (.r 0 2 .nil) (fun a hE => pld (hK22 _ _ ?_)))
     rcases sp H with ⟨c23, H⟩ | ⟨c23, H⟩
     ·
      replace hE := hE.kt 13 c23
      refine ct hE (wp_skip (hK21 _ _ (sq fun K24 hK24 => wp_block (pl0 (plc hE (.r 0 3 .nil) (fun a hE => pld ?_))))))
      refine qCD ?_
      refine hK24 _ _ (pl0 (plc hE (.r 0 3 .nil) (fun a hE => pld ?_)))
      exact qCE ⟨k19, by omega, _, (w64 (x15 * 2)), (w64 (x16 + 1)), by omega, hE, .of, hS, H⟩
     ·
      replace hE := hE.kf 13 c23
      refine cf hE ?_
      refine wp_exit ?_
      refine hK14 _ _ (sq fun K25 hK25 => pl0 (plc hE (.r 0 5 .nil) (fun a hE => pld (hK25 _ _ (sq fun K26 hK26 => sq fun K27 hK27 => pl0 (plc hE (.r 0 1 .nil) (fun a hE => pld (hK27 _ _ (wp_block ?_)))))))))
      refine wp_loop_ghost (fun kq32 a w' => ∃ (G : Nat → Value) (x28 : Int) (x29 : Int) (x30 : Int), kq32 ≤ k19 ∧ Env 40 G a ∧ At G [(3, .int .i64 x16), (4, .int .u64 x28), (5, .int .i64 x29), (21, .int .i64 x30)] ∧ St W (mine W []) F w' F [] ∧  qAL.l31 kq32 x16 x28 x29 x30 = some r) k19 ⟨_, (IntKind.u64.wrap ((IntKind.u64.wrap x15) * 32768)), 0, 0, Nat.le_refl _, hE, .of, hS, H⟩ ?_
      rintro kq32 a u34 ⟨G, x28, x29, x30, hkq, hE, hA, hS, H⟩
      cases kq32 with
      | zero => cases (show none = some r from H)
      | succ k33 =>
       rw [qAL.l31_s] at H
       obtain ⟨J, hE⟩ := hE.at hA
       refine sq fun K35 hK35 => pl0 (plc hE (.r 0 1 .nil) (fun a hE => pld (hK35 _ _ (sq fun K36 hK36 => ?_))))
       rcases sp H with ⟨c37, H⟩ | ⟨c37, H⟩
       ·
        replace hE := hE.kt 22 c37
        refine ct hE (wp_skip (hK36 _ _ (sq fun K38 hK38 => wp_block (sq fun K39 hK39 => pl0 (plc hE (.r 0 3 .nil) (fun a hE => pld (hK39 _ _ (sq fun K40 hK40 => pl0 (plc hE (.r 0 5 .nil) (fun a hE => pld (hK40 _ _ (sq fun K41 hK41 => pl0 (plc hE (.r 0 2 .nil) (fun a hE => pld (hK41 _ _ ?_)))))))))))))))
        rcases sp H with ⟨c42, H⟩ | ⟨c42, H⟩
        ·
         replace hE := hE.kt 30 c42
         refine ct hE (sq fun K43 hK43 => pl0 (plc hE (.r 0 3 .nil) (fun a hE => pld (hK43 _ _ (pl0 (plc hE (.r 0 3 .nil) (fun a hE => pld ?_)))))))
         refine qCD ?_
         refine hK38 _ _ (pl0 (plc hE (.r 0 2 .nil) (fun a hE => pld ?_)))
         exact qCE ⟨k33, by omega, _, (IntKind.u64.wrap ((IntKind.u64.wrap ((IntKind.u64.wrap (x28 * x28)).tdiv 2147483648)) * 2)), (w64 ((w64 (x29 * 2)) + 1)), (w64 (x30 + 1)), by omega, hE, .of, hS, H⟩
        ·
         replace hE := hE.kf 30 c42
         refine cf hE (wp_skip ?_)
         refine qCD ?_
         refine hK38 _ _ (pl0 (plc hE (.r 0 2 .nil) (fun a hE => pld ?_)))
         exact qCE ⟨k33, by omega, _, (IntKind.u64.wrap ((IntKind.u64.wrap (x28 * x28)).tdiv 2147483648)), (w64 (x29 * 2)), (w64 (x30 + 1)), by omega, hE, .of, hS, H⟩
       ·
        replace hE := hE.kf 22 c37
        refine cf hE ?_
        refine wp_exit ?_
        refine hK26 _ _ (sq fun K44 hK44 => pl0 (plc hE (.r 0 5 .nil) (fun a hE => pld (hK44 _ _ (wp_ret ?_)))))
        obtain rfl := si H
        exact rt1 hE ⟨_, rfl, _, rfl, hS⟩
 refine pl0 (plc hE (.r 0 3 .nil) (fun a hE => ?_))
 rcases sp H with ⟨c4, H⟩ | ⟨c4, H⟩
 ·
  replace hE := hE.kt 8 c4
  refine plc hE (.r 3 3 .nil) (fun a hE => pld ?_)
  exact J9 _ (by omega) _ true _ _ hE .of hS H
 ·
  replace hE := hE.kf 8 c4
  refine plc hE (.r 3 3 .nil) (fun a hE => pld ?_)
  exact J9 _ (by omega) _ (decide (x0_ > 65536)) _ _ hE .of hS H
def qBo.f (k : Nat) (x0_ : Int) (x1_ : Int) : Option Int := (qBJ.f k x0_ [(IntKind.u64.wrap x1_)]).bind fun t8 => ((qAL.f k (w64 (1 + (w64 (t8.fdiv 281474976710656))))).bind fun t11 => (some t11))
def qBo.Post (W F : World) (r : Int) (v : Value) (w' : World) : Prop := ∃ (F' : World), v = .int .i64 r ∧ St W (mine W []) F w' F' []
theorem qBo.calls (k : Nat) (x0_ : Int) (x1_ : Int) (r : Int) (W F : World) (hown : Sub F W) (H : qBo.f k x0_ x1_ = some r) :
    Calls Tryz.prog 259 #[.int .u64 x0_, .int .i64 x1_] W fun e w' => ∃ v, e = .returned v ∧ qBo.Post W F r v w' := by
 have hS := St.start (Own.nil hown)
 unfold qBo.f at H
 refine enter (n := 14) rfl rfl rfl (Nat.le_of_ble_eq_true rfl) (fun a hE => ?_)
 refine sq fun K1 hK1 => pl0 (plc hE (.r 0 1 .nil) (fun a hE => pld (hK1 _ _ (sq fun K2 hK2 => pl0 (plc hE (.r 0 3 .nil) (fun a hE => ple hE (.lit (d := (Kn.int .u64)) (e := 182) hS [(IntKind.u64.wrap x1_)] (.cons rfl .nil)) ?_))))))
 rintro _ u3 a ⟨A4, c5, rfl, hS, hg⟩ hE
 obtain ⟨t8, h9, H⟩ := bd H
 refine ple hE (.cl en229 (qBJ.calls k x0_ [(IntKind.u64.wrap x1_)] _ _ _ _ _ (Sub.refl _) (hS.rd_at (i := 0) rfl) h9)) ?_
 rintro _ u7 a ⟨_, rfl, hC⟩ hE
 replace hS := hS.lent hC
 refine plc hE (.r 5 3 .nil) (fun a hE => ?_)
 obtain ⟨t11, h12, H⟩ := bd H
 refine ple hE (.cl en271 (qAL.calls k (w64 (1 + (w64 (t8.fdiv 281474976710656)))) _ _ _ hS.own.sub h12)) ?_
 rintro _ u10 a ⟨_, rfl, hC⟩ hE
 replace hS := hS.lent hC
 refine plc hE (.r 9 1 .nil) (fun a hE => pld (hK2 _ _ (wp_ret ?_)))
 replace hS := hS.tail
 obtain rfl := si H
 exact rt1 hE ⟨_, rfl, _, rfl, hS⟩
def qBY.f (x0_ : Int) : Option Bool := if x0_ ≥ 0 then (some (decide (x0_ ≤ 2147483647))) else (some false)
def qBY.Post (W F : World) (r : Bool) (v : Value) (w' : World) : Prop := ∃ (F' : World), v = .bool r ∧ St W (mine W []) F w' F' []
theorem qBY.calls (x0_ : Int) (r : Bool) (W F : World) (hown : Sub F W) (H : qBY.f x0_ = some r) :
    Calls Tryz.prog 272 #[.int .i64 x0_] W fun e w' => ∃ v, e = .returned v ∧ qBY.Post W F r v w' := by
 have hS := St.start (Own.nil hown)
 unfold qBY.f at H
 refine enter (n := 9) rfl rfl rfl (Nat.le_of_ble_eq_true rfl) (fun a hE => ?_)
 refine sq fun K1 hK1 => pl0 (plc hE (.r 0 1 .nil) (fun a hE => pld (hK1 _ _ (sq fun K2 hK2 => pl0 (plc hE (.r 0 3 .nil) (fun a hE => ?_))))))
 rcases sp H with ⟨c3, H⟩ | ⟨c3, H⟩
 ·
  replace hE := hE.kt 5 c3
  refine plc hE (.r 3 4 .nil) (fun a hE => pld (hK2 _ _ (wp_ret ?_)))
  obtain rfl := si H
  exact rt1 hE ⟨_, rfl, _, rfl, hS⟩
 ·
  replace hE := hE.kf 5 c3
  refine plc hE (.r 3 4 .nil) (fun a hE => pld (hK2 _ _ (wp_ret ?_)))
  obtain rfl := si H
  exact rt1 hE ⟨_, rfl, _, rfl, hS⟩
def qBN.f (x0_ : Int) (x1_ : Int) (x2_ : Int) (x3_ : Int) : Option Bool := (qBY.f x0_).bind fun t4 => (if t4 = true then ((qBY.f x1_).bind fun t8 => (if t8 = true then ((qBY.f x2_).bind fun t12 => (if t12 = true then ((qBY.f x3_).bind fun t16 => (if t16 = true then (if x1_ > 0 then (if x3_ > 0 then (some (decide ((w64 (x0_ * x3_)) < (w64 (x2_ * x1_))))) else (some false)) else (some false)) else (some false))) else (some false))) else (some false))) else (some false))
def qBN.Post (W F : World) (r : Bool) (v : Value) (w' : World) : Prop := ∃ (F' : World), v = .bool r ∧ St W (mine W []) F w' F' []
theorem qBN.calls (x0_ : Int) (x1_ : Int) (x2_ : Int) (x3_ : Int) (r : Bool) (W F : World) (hown : Sub F W) (H : qBN.f x0_ x1_ x2_ x3_ = some r) :
    Calls Tryz.prog 260 #[.int .i64 x0_, .int .i64 x1_, .int .i64 x2_, .int .i64 x3_] W fun e w' => ∃ v, e = .returned v ∧ qBN.Post W F r v w' := by
 have hS := St.start (Own.nil hown)
 unfold qBN.f at H
 refine enter (n := 40) rfl rfl rfl (Nat.le_of_ble_eq_true rfl) (fun a hE => ?_)
 refine sq fun K1 hK1 => pl0 (plc hE (.r 0 1 .nil) (fun a hE => pld (hK1 _ _ (sq fun K2 hK2 => pl0 (plc hE (.r 0 1 .nil) (fun a hE => ?_))))))
 obtain ⟨t4, h5, H⟩ := bd H
 refine ple hE (.cl en272 (qBY.calls x0_ _ _ _ hS.own.sub h5)) ?_
 rintro _ u3 a ⟨_, rfl, hC⟩ hE
 replace hS := hS.lent hC
 refine plc hE (.r 2 1 .nil) (fun a hE => ?_)
 rcases sp H with ⟨c6, H⟩ | ⟨c6, H⟩
 ·
  replace hE := hE.bt 11 c6
  refine plc hE (.r 3 1 .nil) (fun a hE => ?_)
  obtain ⟨t8, h9, H⟩ := bd H
  refine ple hE (.cl en272 (qBY.calls x1_ _ _ _ hS.own.sub h9)) ?_
  rintro _ u7 a ⟨_, rfl, hC⟩ hE
  replace hS := hS.lent hC
  refine plc hE (.r 5 2 .nil) (fun a hE => ?_)
  rcases sp H with ⟨c10, H⟩ | ⟨c10, H⟩
  ·
   replace hE := hE.bt 15 c10
   refine plc hE (.r 7 1 .nil) (fun a hE => ?_)
   obtain ⟨t12, h13, H⟩ := bd H
   refine ple hE (.cl en272 (qBY.calls x2_ _ _ _ hS.own.sub h13)) ?_
   rintro _ u11 a ⟨_, rfl, hC⟩ hE
   replace hS := hS.lent hC
   refine plc hE (.r 9 2 .nil) (fun a hE => ?_)
   rcases sp H with ⟨c14, H⟩ | ⟨c14, H⟩
   ·
    replace hE := hE.bt 19 c14
    refine plc hE (.r 11 1 .nil) (fun a hE => ?_)
    obtain ⟨t16, h17, H⟩ := bd H
    refine ple hE (.cl en272 (qBY.calls x3_ _ _ _ hS.own.sub h17)) ?_
    rintro _ u15 a ⟨_, rfl, hC⟩ hE
    replace hS := hS.lent hC
    refine plc hE (.r 13 2 .nil) (fun a hE => ?_)
    rcases sp H with ⟨c18, H⟩ | ⟨c18, H⟩
    ·
     replace hE := hE.bt 23 c18
     refine plc hE (.r 15 4 .nil) (fun a hE => ?_)
     rcases sp H with ⟨c19, H⟩ | ⟨c19, H⟩
     ·
      replace hE := hE.kt 27 c19
      refine plc hE (.r 19 4 .nil) (fun a hE => ?_)
      rcases sp H with ⟨c20, H⟩ | ⟨c20, H⟩
      ·
       replace hE := hE.kt 31 c20
       refine plc hE (.r 23 9 .nil) (fun a hE => pld (hK2 _ _ (wp_ret ?_)))
       obtain rfl := si H
       exact rt1 hE ⟨_, rfl, _, rfl, hS⟩
      ·
       replace hE := hE.kf 31 c20
       refine plc hE (.r 23 9 .nil) (fun a hE => pld (hK2 _ _ (wp_ret ?_)))
       obtain rfl := si H
       exact rt1 hE ⟨_, rfl, _, rfl, hS⟩
     ·
      replace hE := hE.kf 27 c19
      refine plc hE (.r 19 13 .nil) (fun a hE => pld (hK2 _ _ (wp_ret ?_)))
      obtain rfl := si H
      exact rt1 hE ⟨_, rfl, _, rfl, hS⟩
    ·
     replace hE := hE.bf 23 c18
     refine plc hE (.r 15 17 .nil) (fun a hE => pld (hK2 _ _ (wp_ret ?_)))
     obtain rfl := si H
     exact rt1 hE ⟨_, rfl, _, rfl, hS⟩
   ·
    replace hE := hE.bf 19 c14
    refine plc hE (.r 11 21 .nil) (fun a hE => pld (hK2 _ _ (wp_ret ?_)))
    obtain rfl := si H
    exact rt1 hE ⟨_, rfl, _, rfl, hS⟩
  ·
   replace hE := hE.bf 15 c10
   refine plc hE (.r 7 25 .nil) (fun a hE => pld (hK2 _ _ (wp_ret ?_)))
   obtain rfl := si H
   exact rt1 hE ⟨_, rfl, _, rfl, hS⟩
 ·
  replace hE := hE.bf 11 c6
  refine plc hE (.r 3 29 .nil) (fun a hE => pld (hK2 _ _ (wp_ret ?_)))
  obtain rfl := si H
  exact rt1 hE ⟨_, rfl, _, rfl, hS⟩
def qBe.f (k : Nat) (x0_ : Int) (x1_ : qB) (x2_ : qB) : Option Int := (qBo.f k x0_ x1_.f0).bind fun t8 => ((qBo.f k x0_ x2_.f0).bind fun t11 => ((qBN.f t8 x1_.f1 t11 x2_.f1).bind fun t16 => (if t16 = true then (some (-1)) else ((qBN.f t11 x2_.f1 t8 x1_.f1).bind fun t22 => (if t22 = true then (some 1) else (some (w64 (x1_.f0 - x2_.f0))))))))
def qBe.Post (W F : World) (r : Int) (v : Value) (w' : World) : Prop := ∃ (F' : World), v = .int .i64 r ∧ St W (mine W []) F w' F' []
theorem qBe.calls (k : Nat) (x0_ : Int) (x1_ : qB) (x2_ : qB) (r : Int) (W F : World) (hown : Sub F W) (H : qBe.f k x0_ x1_ x2_ = some r) :
    Calls Tryz.prog 249 #[.int .u64 x0_, .agg #[.int .i64 x1_.f0, .int .i64 x1_.f1], .agg #[.int .i64 x2_.f0, .int .i64 x2_.f1]] W fun e w' => ∃ v, e = .returned v ∧ qBe.Post W F r v w' := by
 have hS := St.start (Own.nil hown)
 unfold qBe.f at H
 refine enter (n := 38) rfl rfl rfl (Nat.le_of_ble_eq_true rfl) (fun a hE => ?_)
 refine sq fun K1 hK1 => pl0 (ple hE (.bx (t := 216) hS [.int .i64 x1_.f0, .int .i64 x1_.f1]) ?_)
 rintro _ u3 a ⟨b2, rfl, hb2, hS, hg⟩ hE
 refine ple hE (.bx (t := 216) hS [.int .i64 x2_.f0, .int .i64 x2_.f1]) ?_
 rintro _ u5 a ⟨b4, rfl, hb4, hS, hg⟩ hE
 refine plc hE (.r 2 1 .nil) (fun a hE => pld (hK1 _ _ (sq fun K6 hK6 => ?_)))
 refine drawn 10 ⟨[], [], fun q => False⟩ mixed rfl (by kernel_rfl) (fun hst => ?_)
 replace hS := hS.drew
 have hb2 := hS.blk_at (i := 1) rfl
 have hb4 := hS.blk_at (i := 0) rfl
 refine mny 4 hst hE (.r 0 2 <| .b 2 0 hb2 <| .r 4 2 <| .b 6 0 hb4 <| .nil) (fun a hE => ?_)
 obtain ⟨t8, h9, H⟩ := bd H
 refine on1 3 hE (.cl en259 (qBo.calls k x0_ x1_.f0 _ _ _ hS.own.sub h9)) ?_
 rintro _ u7 a ⟨_, rfl, hC⟩ hE
 refine ⟨.of hC.agr, ?_⟩
 replace hS := hS.lent hC
 obtain ⟨t11, h12, H⟩ := bd H
 refine on1 7 hE (.cl en259 (qBo.calls k x0_ x2_.f0 _ _ _ hS.own.sub h12)) ?_
 rintro _ u10 a ⟨_, rfl, hC⟩ hE
 refine ⟨.of hC.agr, ?_⟩
 replace hS := hS.lent hC
 refine mny 0 hst hE (.r 8 2 .nil) (fun a hE => ?_)
 refine dn ?_
 refine hK6 _ _ (sq fun K13 hK13 => wp_block (sq fun K14 hK14 => pl0 ?_))
 have hb2 := hS.blk_at (i := 1) rfl
 have hb4 := hS.blk_at (i := 0) rfl
 refine plc hE (.r 0 2 <| .b 2 1 hb2 <| .r 3 2 <| .b 5 1 hb4 <| .nil) (fun a hE => ?_)
 obtain ⟨t16, h17, H⟩ := bd H
 refine ple hE (.cl en260 (qBN.calls t8 x1_.f1 t11 x2_.f1 _ _ _ hS.own.sub h17)) ?_
 rintro _ u15 a ⟨_, rfl, hC⟩ hE
 replace hS := hS.lent hC
 refine plc hE (.r 7 1 .nil) (fun a hE => pld (hK14 _ _ ?_))
 rcases sp H with ⟨c18, H⟩ | ⟨c18, H⟩
 ·
  replace hE := hE.bt 17 c18
  refine ct hE (sq fun K19 hK19 => pl0 (plc hE (.r 0 1 .nil) (fun a hE => pld (hK19 _ _ (wp_ret (qCC (qCB ?_)))))))
  replace hS := hS.tail
  replace hS := hS.tail
  obtain rfl := si H
  exact rt1 hE ⟨_, rfl, _, rfl, hS⟩
 ·
  replace hE := hE.bf 17 c18
  refine cf hE (sq fun K20 hK20 => pl0 ?_)
  have hb4 := hS.blk_at (i := 0) rfl
  have hb2 := hS.blk_at (i := 1) rfl
  refine plc hE (.r 0 2 <| .b 2 1 hb4 <| .r 3 2 <| .b 5 1 hb2 <| .nil) (fun a hE => ?_)
  obtain ⟨t22, h23, H⟩ := bd H
  refine ple hE (.cl en260 (qBN.calls t11 x2_.f1 t8 x1_.f1 _ _ _ hS.own.sub h23)) ?_
  rintro _ u21 a ⟨_, rfl, hC⟩ hE
  replace hS := hS.lent hC
  refine plc hE (.r 7 1 .nil) (fun a hE => pld (hK20 _ _ ?_))
  rcases sp H with ⟨c24, H⟩ | ⟨c24, H⟩
  ·
   replace hE := hE.bt 25 c24
   refine ct hE (sq fun K25 hK25 => pl0 (plc hE (.r 0 1 .nil) (fun a hE => pld (hK25 _ _ (wp_ret (qCC (qCB ?_)))))))
   replace hS := hS.tail
   replace hS := hS.tail
   obtain rfl := si H
   exact rt1 hE ⟨_, rfl, _, rfl, hS⟩
  ·
   replace hE := hE.bf 25 c24
   refine cf hE (wp_skip ?_)
   refine qCD ?_
   refine hK13 _ _ (sq fun K26 hK26 => pl0 ?_)
   have hb2 := hS.blk_at (i := 1) rfl
   have hb4 := hS.blk_at (i := 0) rfl
   refine plc hE (.r 0 1 <| .b 1 0 hb2 <| .r 2 1 <| .b 3 0 hb4 <| .r 4 2 <| .nil) (fun a hE => pld (hK26 _ _ (wp_ret ?_)))
   replace hS := hS.tail
   replace hS := hS.tail
   obtain rfl := si H
   exact rt1 hE ⟨_, rfl, _, rfl, hS⟩
def qBh.f (k : Nat) (x0_ : qB) (x1_ : qB) (xf0_ : Int) : Option Int := (qBe.f k xf0_ x0_ x1_).bind fun t8 => (some t8)
def qBh.Post (W F : World) (r : Int) (v : Value) (w' : World) : Prop := ∃ (F' : World), v = .int .i64 r ∧ St W (mine W []) F w' F' []
theorem qBh.calls (k : Nat) (x0_ : qB) (x1_ : qB) (xf0_ : Int) (pf0_ : Nat) (r : Int) (W F : World) (hown : Sub F W) (hpf0_ : F.heap[pf0_]? = some (.cells #[.int .u64 xf0_] 182 (0, 0))) (H : qBh.f k x0_ x1_ xf0_ = some r) :
    Calls Tryz.prog 248 #[.agg #[.int .i64 x0_.f0, .int .i64 x0_.f1], .agg #[.int .i64 x1_.f0, .int .i64 x1_.f1], .pointer (some ⟨pf0_, 0, none⟩)] W fun e w' => ∃ v, e = .returned v ∧ qBh.Post W F r v w' := by
 have hS := St.start (Own.nil hown)
 unfold qBh.f at H
 refine enter (n := 10) rfl rfl rfl (Nat.le_of_ble_eq_true rfl) (fun a hE => ?_)
 refine sq fun K1 hK1 => pl0 (ple hE (.bx (t := 216) hS [.int .i64 x0_.f0, .int .i64 x0_.f1]) ?_)
 rintro _ u3 a ⟨b2, rfl, hb2, hS, hg⟩ hE
 refine ple hE (.bx (t := 216) hS [.int .i64 x1_.f0, .int .i64 x1_.f1]) ?_
 rintro _ u5 a ⟨b4, rfl, hb4, hS, hg⟩ hE
 refine plc hE (.r 2 1 .nil) (fun a hE => pld (hK1 _ _ (sq fun K6 hK6 => pl0 ?_)))
 have hb2 := hS.blk_at (i := 1) rfl
 refine plc hE (.b 0 0 (hS.own.sub _ _ _ _ hpf0_) <| .bn 1 0 2 hb2 <| .bn 2 0 2 hb4 <| .nil) (fun a hE => ?_)
 obtain ⟨t8, h9, H⟩ := bd H
 refine ple hE (.cl en249 (qBe.calls k xf0_ x0_ x1_ _ _ _ hS.own.sub h9)) ?_
 rintro _ u7 a ⟨_, rfl, hC⟩ hE
 replace hS := hS.lent hC
 refine plc hE (.r 4 1 .nil) (fun a hE => pld (hK6 _ _ (wp_ret ?_)))
 replace hS := hS.tail
 replace hS := hS.tail
 obtain rfl := si H
 exact rt1 hE ⟨_, rfl, _, rfl, hS⟩
def qB.enc (x : qB) : List Value := [.int .i64 x.f0, .int .i64 x.f1]
instance : Inhabited qB := ⟨qB.z⟩
def qZ.cmp (k : Nat) (x1c0_ : Int) (a b : qB) : Option Int := qBh.f k a b x1c0_
def qZ.f (k : Nat) (x0_ : List qB) (x1c0_ : Int) : Option (List qB) := sortO (qZ.cmp k x1c0_) x0_
def qZ.Post (x0_ : List qB) (x1c0_ : Int) (A0_0 : Option Addr) (c0_0 : Nat) (p1c0_ : Nat) (W F : World) (r : List qB) (v : Value) (w' : World) : Prop := ∃ (F' : World), v = .tuple #[] ∧ St W (mine W [row qB.k 216 (.slice A0_0 x0_.length c0_0) x0_]) F w' F' [row qB.k 216 (.slice A0_0 x0_.length c0_0) r]
set_option maxRecDepth 100000 in
theorem qZ.calls (k : Nat) (x0_ : List qB) (x1c0_ : Int) (A0_0 : Option Addr) (c0_0 : Nat) (p1c0_ : Nat) (r : List qB) (W F : World) (hown : Own W F [row qB.k 216 (.slice A0_0 x0_.length c0_0) x0_]) (hp1c0_ : F.heap[p1c0_]? = some (.cells #[.int .u64 x1c0_] 182 (0, 0))) (H : qZ.f k x0_ x1c0_ = some r) :
    Calls Tryz.prog 247 #[.slice A0_0 x0_.length c0_0, .func (.func 248) #[] #[.pointer (some ⟨p1c0_, 0, none⟩)]] W fun e w' => ∃ v, e = .returned v ∧ qZ.Post x0_ x1c0_ A0_0 c0_0 p1c0_ W F r v w' :=
  qEq Tryz.sort247 2 rfl (fun w => qDC ag216 w) (fun w => qCV sz216 w) qB.enc (fun x => rfl) (fun x v hv => by simp only [qB.enc, List.mem_cons, List.not_mem_nil, or_false] at hv; rcases hv with rfl | rfl <;> rfl) (fun F x cs => Iff.rfl) (qZ.cmp k x1c0_) 248 #[.pointer (some ⟨p1c0_, 0, none⟩)] en248 hown (fun x y v W' hs hc => (qBh.calls k x y x1c0_ _ v W' F hs hp1c0_ hc).mono fun en w' ⟨u, h1, F', h2, h3⟩ => ⟨u, h1, F', h2, h3⟩) H
def qAv.l44 : Nat → List qB → List qB → List Int → Int → Option (List Int)
  | 0, _, _, _, _ => none
  | k + 1, t22, t33, l42, x43 => if x43 < (t22.length : Int) then (if 0 ≤ x43 ∧ x43 < (t22.length : Int) then (if ((l42.length : Int) + ((1 : Nat) : Int)) * 8 ≤ 140737488355328 then (qAv.l44 k t22 t33 (l42 ++ [(nth qB.z t33 x43).f0]) (w64 (x43 + 1))) else (none)) else (none)) else (some l42)
theorem qAv.l44_s (k : Nat) (t22 : List qB) (t33 : List qB) (l42 : List Int) (x43 : Int) : qAv.l44 (k + 1) t22 t33 l42 x43 = (if x43 < (t22.length : Int) then (if 0 ≤ x43 ∧ x43 < (t22.length : Int) then (if ((l42.length : Int) + ((1 : Nat) : Int)) * 8 ≤ 140737488355328 then (qAv.l44 k t22 t33 (l42 ++ [(nth qB.z t33 x43).f0]) (w64 (x43 + 1))) else (none)) else (none)) else (some l42)) := by kernel_rfl
def qAv.f (k : Nat) (x0_ : Int) (x1_ : List qB) : Option (List Int) := (qAa.f k x1_).bind fun t7 => (if t7 = 0 then ((qAZ.f x1_).bind fun t14 => ((qM.f k t14).bind fun t22 => ((qZ.f k t22 x0_).bind fun t33 => (qAv.l44 k t22 t33 [] 0)))) else (some []))
def qAv.Post (W F : World) (r : List Int) (v : Value) (w' : World) : Prop := ∃ (F' : World) (RA0_0 : Option Addr) (rc0_0 : Nat), v = .slice RA0_0 r.length rc0_0 ∧ St W (mine W []) F w' F' [row (Kn.int .i64) 3 (.slice RA0_0 r.length rc0_0) r]
theorem qAv.calls (k : Nat) (x0_ : Int) (x1_ : List qB) (A1_0 : Option Addr) (c1_0 : Nat) (r : List Int) (W F : World) (hown : Sub F W) (g1_0 : Rd qB.k F A1_0 c1_0 x1_) (H : qAv.f k x0_ x1_ = some r) :
    Calls Tryz.prog 228 #[.int .u64 x0_, .slice A1_0 x1_.length c1_0] W fun e w' => ∃ v, e = .returned v ∧ qAv.Post W F r v w' := by
 have hS := St.start (Own.nil hown)
 unfold qAv.f at H
 refine enter (n := 30) rfl rfl rfl (Nat.le_of_ble_eq_true rfl) (fun a hE => ?_)
 refine sq fun K1 hK1 => pl0 (ple hE (.bx (t := 182) hS [.int .u64 x0_]) ?_)
 rintro _ u3 a ⟨b2, rfl, hb2, hS, hg⟩ hE
 refine plc hE (.r 1 1 .nil) (fun a hE => pld (hK1 _ _ (sq fun K4 hK4 => sq fun K5 hK5 => pl0 (plc hE (.r 0 1 .nil) (fun a hE => ?_)))))
 obtain ⟨t7, h8, H⟩ := bd H
 refine ple hE (.cl en243 (qAa.calls k x1_ _ _ _ _ _ hS.own.sub g1_0 h8)) ?_
 rintro _ u6 a ⟨_, rfl, hC⟩ hE
 replace hS := hS.lent hC
 refine plc hE (.r 2 1 .nil) (fun a hE => pld (hK5 _ _ ?_))
 rcases sp H with ⟨c9, H⟩ | ⟨c9, H⟩
 ·
  replace hE := hE.ktn 10 c9
  refine cf hE (wp_skip (hK4 _ _ (sq fun K12 hK12 => pl0 (plc hE (.r 0 1 .nil) (fun a hE => ?_)))))
  obtain ⟨t14, h15, H⟩ := bd H
  refine ple hE (.cl en245 (qAZ.calls x1_ _ _ _ _ _ hS.own.sub g1_0 h15)) ?_
  rintro _ u13 a ⟨F16, A17, c18, rfl, hC⟩ hE
  have hs := hC.sub
  replace hS := hS.called (X := []) hC
  replace g1_0 := g1_0.mono hs
  obtain ⟨t22, h23, H⟩ := bd H
  refine ple hE (.cl en244 (qM.calls k t14 _ _ _ _ _ (Own.left (X := [row qB.k 216 (.slice A17 t14.length c18) t14]) hS.own) h23)) ?_
  rintro _ u21 a ⟨F24, A25, c26, rfl, hC⟩ hE
  have hs := hC.sub
  replace hS := hS.called (X := [row qB.k 216 (.slice A17 t14.length c18) t14]) hC
  replace g1_0 := g1_0.mono hs
  refine plc hE (.r 3 1 .nil) (fun a hE => pld (hK12 _ _ (sq fun K29 hK29 => pl0 (plc hE (.r 0 2 .nil) (fun a hE => ?_)))))
  replace hS := hS.front 1 rfl
  obtain ⟨F30, hs, g31, hS⟩ := hS.giveb
  replace g1_0 := g1_0.mono hs
  obtain ⟨t33, h34, H⟩ := bd H
  refine ple hE (.cl en247 (qZ.calls k t22 x0_ _ _ _ _ _ _ (Own.left (X := [row qB.k 216 (.slice A25 t22.length c26) t22]) hS.own) g31 h34)) ?_
  rintro _ u32 a ⟨F35, rfl, hC⟩ hE
  have hs := hC.sub
  replace hS := hS.called (X := [row qB.k 216 (.slice A25 t22.length c26) t22]) hC
  replace g1_0 := g1_0.mono hs
  replace g31 := hs _ _ _ _ g31
  refine pld (hK29 _ _ (sq fun K36 hK36 => pl0 (plc hE (.r 0 1 .nil) (fun a hE => pld (hK36 _ _ (sq fun K37 hK37 => sq fun K38 hK38 => pl0 (plc hE (.r 0 3 .nil) (fun a hE => pld (hK38 _ _ (wp_block ?_))))))))))
  replace hS := hS.nilrow (Kn.int .i64) 3
  replace hS := hS.front 1 rfl
  refine wp_loop_ghost (fun kq45 a w' => ∃ (G : Nat → Value) (A40 : Option Addr) (c41 : Nat) (l42 : List Int) (x43 : Int), kq45 ≤ k ∧ Env 30 G a ∧ At G [(5, .slice A40 l42.length c41), (17, .slice A25 t22.length c26), (18, .int .i64 (t22.length : Int)), (19, .int .i64 x43)] ∧ St W (mine W []) F w' F35 [row qB.k 216 (.slice A25 t22.length c26) t33, row (Kn.int .i64) 3 (.slice A40 l42.length c41) l42] ∧  qAv.l44 kq45 t22 t33 l42 x43 = some r) k ⟨_, none, 0, [], 0, Nat.le_refl _, hE, .of, hS, H⟩ ?_
  rintro kq45 a u47 ⟨G, A40, c41, l42, x43, hkq, hE, hA, hS, H⟩
  cases kq45 with
  | zero => cases (show none = some r from H)
  | succ k46 =>
   rw [qAv.l44_s] at H
   obtain ⟨J, hE⟩ := hE.at hA
   refine sq fun K48 hK48 => pl0 (plc hE (.r 0 1 .nil) (fun a hE => pld (hK48 _ _ (sq fun K49 hK49 => ?_))))
   rcases sp H with ⟨c50, H⟩ | ⟨c50, H⟩
   ·
    replace hE := hE.kt 20 c50
    refine ct hE (wp_skip (hK49 _ _ (sq fun K51 hK51 => wp_block (sq fun K52 hK52 => pl0 ?_))))
    obtain ⟨c53, H⟩ := gd H
    have hr54 := hS.row_at (i := 0) rfl
    have c55 : 0 ≤ x43 ∧ x43 < (t33.length : Int) := by rw [← (qCF hr54).1]; exact c53
    have hE_ := hE
    obtain ⟨b56, rfl⟩ := qCI hr54 c55.1 c55.2
    replace hE := hE_
    have hr_ := hS.row_at (i := 0) rfl
    obtain ⟨cs58, rfl, hc59⟩ := qCG hr_ qB.z x43 c55.1 c55.2
    refine plc hE (.x 0 c53 <| .cs 1 hc59 <| .nil) (fun a hE => ple hE (.al (t := 216) hS [.int .i64 0, .int .i64 0]) ?_)
    rintro _ u61 a ⟨b60, rfl, hb60, hS, hg⟩ hE
    refine ple hE (.sto hS [.int .i64 ((nth qB.z t33 x43).f0), .int .i64 ((nth qB.z t33 x43).f1)]) ?_
    rintro _ u62 a ⟨rfl, hb60, hS, hz⟩ hE
    refine pld (hK52 _ _ (pl0 (plc hE (.r 0 2 <| .b 2 0 hb60 <| .nil) (fun a hE => ple hE (.lit (d := (Kn.int .i64)) (e := 3) hS [(nth qB.z t33 x43).f0] (.cons rfl .nil)) ?_))))
    rintro _ u63 a ⟨A64, c65, rfl, hS, hg⟩ hE
    obtain ⟨c67, H⟩ := gd H
    replace hS := hS.front 3 rfl
    refine ple hE (.ap (d := (Kn.int .i64)) 8 hS (qCM (hS.row_at (i := 1) rfl)) c67 c65) ?_
    rintro _ u70 a ⟨A68, c69, rfl, hS, hz⟩ hE
    refine plc hE (.r 5 1 .nil) (fun a hE => pld ?_)
    refine qCD ?_
    refine hK51 _ _ (pl0 (plc hE (.r 0 2 .nil) (fun a hE => pld ?_)))
    replace hS := hS.front 1 rfl
    replace hS := hS.tail
    replace hS := hS.front 1 rfl
    replace hS := hS.tail
    replace hS := hS.front 1 rfl
    exact qCE ⟨k46, by omega, _, A68, c69, (l42 ++ [(nth qB.z t33 x43).f0]), (w64 (x43 + 1)), by omega, hE, .of, hS, H⟩
   ·
    replace hE := hE.kf 20 c50
    refine cf hE ?_
    refine wp_exit ?_
    refine hK37 _ _ (sq fun K72 hK72 => pl0 (plc hE (.r 0 2 .nil) (fun a hE => pld (hK72 _ _ (wp_ret ?_)))))
    have hn73 := (qCF (hS.row_at (i := 0) rfl)).1
    replace hS : St W (mine W []) F u47 F35 [row qB.k 216 (.slice A25 t33.length c26) t33, row (Kn.int .i64) 3 (.slice A40 l42.length c41) l42] := by rw [← hn73]; exact hS
    replace hS := hS.tail
    obtain rfl := si H
    exact rt1 hE ⟨_, rfl, _, _, _, rfl, hS⟩
 ·
  replace hE := hE.kfn 10 c9
  refine ct hE (sq fun K10 hK10 => pl0 (plc hE (.r 0 1 .nil) (fun a hE => pld (hK10 _ _ (wp_ret (qCB ?_))))))
  replace hS := hS.nilrow (Kn.int .i64) 3
  replace hS := hS.front 1 rfl
  replace hS := hS.tail
  obtain rfl := si H
  exact rt1 hE ⟨_, rfl, _, _, _, rfl, hS⟩
end Go.Proofs.YtpohepinmjmbkaaGreat.QS
