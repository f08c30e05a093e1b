import Derived.Test.YtpohepinmjmbkaaGreatQS1
namespace Go.Proofs.YtpohepinmjmbkaaGreat.QS
open Go Go.RowKit Go.Proofs.YtpohepinmjmbkaaGreat.Sl
set_option linter.unusedVariables false
set_option linter.unusedSimpArgs false
set_option maxHeartbeats 4000000
set_option maxRecDepth 100000
def qBv.f (x0_ : qAm) : Option Bool := if x0_.f0 = 1 then (if x0_.f5 = 0 then (some ((x0_.f6.length : Int) == 0)) else (some false)) else (if x0_.f0 = 2 then (if x0_.f2 = 0 then (if x0_.f3 = 0 then (if x0_.f5 = 0 then (some ((x0_.f6.length : Int) == 0)) else (some false)) else (some false)) else (some false)) else (if x0_.f0 = 10 then (if x0_.f1 = 0 then (if x0_.f2 = 0 then (if x0_.f3 = 0 then (some ((x0_.f6.length : Int) == 0)) else (some false)) else (some false)) else (some false)) else (if x0_.f0 = 8 then (if x0_.f1 = 0 then (if x0_.f2 = 0 then (if x0_.f3 = 0 then (some (x0_.f4 == 0)) else (some false)) else (some false)) else (some false)) else (if x0_.f2 = 0 then (if x0_.f3 = 0 then (if x0_.f4 = 0 then (if x0_.f5 = 0 then (if (x0_.f6.length : Int) = 0 then (if x0_.f0 = 9 then (some (x0_.f1 == 0)) else (some true)) else (some false)) else (some false)) else (some false)) else (some false)) else (some false)))))
def qBv.Post (W F : World) (r : Bool) (v : Value) (w' : World) : Prop := ∃ (F' : World), v = .bool r ∧ St W (mine W []) F w' F' []
theorem qBv.calls (x0_ : qAm) (A0_6 : Option Addr) (c0_6 : Nat) (r : Bool) (W F : World) (hown : Sub F W) (g0_6 : Rd (Kn.int .i64) F A0_6 c0_6 x0_.f6) (H : qBv.f x0_ = some r) :
    Calls Tryz.prog 76 #[.agg #[.int .i64 x0_.f0, .int .i64 x0_.f1, .int .i64 x0_.f2, .int .i64 x0_.f3, .int .i64 x0_.f4, .int .i64 x0_.f5, .slice A0_6 x0_.f6.length c0_6]] W fun e w' => ∃ v, e = .returned v ∧ qBv.Post W F r v w' := by
 have hS := St.start (Own.nil hown)
 unfold qBv.f at H
 refine enter (n := 112) rfl rfl rfl (Nat.le_of_ble_eq_true rfl) (fun a hE => ?_)
 refine sq fun K1 hK1 => pl0 (ple hE (.bx (t := 40) hS [.int .i64 x0_.f0, .int .i64 x0_.f1, .int .i64 x0_.f2, .int .i64 x0_.f3, .int .i64 x0_.f4, .int .i64 x0_.f5, .slice A0_6 x0_.f6.length c0_6]) ?_)
 rintro _ u3 a ⟨b2, rfl, hb2, hS, hg⟩ hE
 refine plc hE (.r 1 1 .nil) (fun a hE => pld (hK1 _ _ (sq fun K4 hK4 => sq fun K5 hK5 => pl0 (plc hE (.r 0 1 <| .b 1 0 hb2 <| .nil) (fun a hE => pld (hK5 _ _ (wp_block (sq fun K6 hK6 => pl0 (plc hE (.r 0 2 .nil) (fun a hE => pld (hK6 _ _ ?_)))))))))))
 rcases sp H with ⟨c7, H⟩ | ⟨c7, H⟩
 ·
  replace hE := hE.kt 5 c7
  refine ct hE (sq fun K8 hK8 => pl0 (plc hE (.r 0 1 <| .b 1 5 hb2 <| .r 2 2 <| .nil) (fun a hE => ?_)))
  rcases sp H with ⟨c9, H⟩ | ⟨c9, H⟩
  ·
   replace hE := hE.kt 10 c9
   refine plc hE (.r 4 1 <| .b 5 6 hb2 <| .r 6 4 <| .nil) (fun a hE => pld (hK8 _ _ (wp_ret (qCC (qCB ?_)))))
   replace hS := hS.tail
   obtain rfl := si H
   exact rt1 hE ⟨_, rfl, _, rfl, hS⟩
  ·
   replace hE := hE.kf 10 c9
   refine plc hE (.r 4 6 .nil) (fun a hE => pld (hK8 _ _ (wp_ret (qCC (qCB ?_)))))
   replace hS := hS.tail
   obtain rfl := si H
   exact rt1 hE ⟨_, rfl, _, rfl, hS⟩
 ·
  replace hE := hE.kf 5 c7
  refine cf hE (sq fun K10 hK10 => pl0 (plc hE (.r 0 2 .nil) (fun a hE => pld (hK10 _ _ ?_))))
  rcases sp H with ⟨c11, H⟩ | ⟨c11, H⟩
  ·
   replace hE := hE.kt 16 c11
   refine ct hE (sq fun K12 hK12 => pl0 (plc hE (.r 0 1 <| .b 1 2 hb2 <| .r 2 2 <| .nil) (fun a hE => ?_)))
   rcases sp H with ⟨c13, H⟩ | ⟨c13, H⟩
   ·
    replace hE := hE.kt 21 c13
    refine plc hE (.r 4 1 <| .b 5 3 hb2 <| .r 6 3 <| .nil) (fun a hE => ?_)
    rcases sp H with ⟨c14, H⟩ | ⟨c14, H⟩
    ·
     replace hE := hE.kt 26 c14
     refine plc hE (.r 9 1 <| .b 10 5 hb2 <| .r 11 3 <| .nil) (fun a hE => ?_)
     rcases sp H with ⟨c15, H⟩ | ⟨c15, H⟩
     ·
      replace hE := hE.kt 31 c15
      refine plc hE (.r 14 1 <| .b 15 6 hb2 <| .r 16 4 <| .nil) (fun a hE => pld (hK12 _ _ (wp_ret (qCC (qCB ?_)))))
      replace hS := hS.tail
      obtain rfl := si H
      exact rt1 hE ⟨_, rfl, _, rfl, hS⟩
     ·
      replace hE := hE.kf 31 c15
      refine plc hE (.r 14 6 .nil) (fun a hE => pld (hK12 _ _ (wp_ret (qCC (qCB ?_)))))
      replace hS := hS.tail
      obtain rfl := si H
      exact rt1 hE ⟨_, rfl, _, rfl, hS⟩
    ·
     replace hE := hE.kf 26 c14
     refine plc hE (.r 9 11 .nil) (fun a hE => pld (hK12 _ _ (wp_ret (qCC (qCB ?_)))))
     replace hS := hS.tail
     obtain rfl := si H
     exact rt1 hE ⟨_, rfl, _, rfl, hS⟩
   ·
    replace hE := hE.kf 21 c13
    refine plc hE (.r 4 16 .nil) (fun a hE => pld (hK12 _ _ (wp_ret (qCC (qCB ?_)))))
    replace hS := hS.tail
    obtain rfl := si H
    exact rt1 hE ⟨_, rfl, _, rfl, hS⟩
  ·
   replace hE := hE.kf 16 c11
   refine cf hE (sq fun K16 hK16 => pl0 (plc hE (.r 0 2 .nil) (fun a hE => pld (hK16 _ _ ?_))))
   rcases sp H with ⟨c17, H⟩ | ⟨c17, H⟩
   ·
    replace hE := hE.kt 37 c17
    refine ct hE (sq fun K18 hK18 => pl0 (plc hE (.r 0 1 <| .b 1 1 hb2 <| .r 2 2 <| .nil) (fun a hE => ?_)))
    rcases sp H with ⟨c19, H⟩ | ⟨c19, H⟩
    ·
     replace hE := hE.kt 42 c19
     refine plc hE (.r 4 1 <| .b 5 2 hb2 <| .r 6 3 <| .nil) (fun a hE => ?_)
     rcases sp H with ⟨c20, H⟩ | ⟨c20, H⟩
     ·
      replace hE := hE.kt 47 c20
      refine plc hE (.r 9 1 <| .b 10 3 hb2 <| .r 11 3 <| .nil) (fun a hE => ?_)
      rcases sp H with ⟨c21, H⟩ | ⟨c21, H⟩
      ·
       replace hE := hE.kt 52 c21
       refine plc hE (.r 14 1 <| .b 15 6 hb2 <| .r 16 4 <| .nil) (fun a hE => pld (hK18 _ _ (wp_ret (qCC (qCB ?_)))))
       replace hS := hS.tail
       obtain rfl := si H
       exact rt1 hE ⟨_, rfl, _, rfl, hS⟩
      ·
       replace hE := hE.kf 52 c21
       refine plc hE (.r 14 6 .nil) (fun a hE => pld (hK18 _ _ (wp_ret (qCC (qCB ?_)))))
       replace hS := hS.tail
       obtain rfl := si H
       exact rt1 hE ⟨_, rfl, _, rfl, hS⟩
     ·
      replace hE := hE.kf 47 c20
      refine plc hE (.r 9 11 .nil) (fun a hE => pld (hK18 _ _ (wp_ret (qCC (qCB ?_)))))
      replace hS := hS.tail
      obtain rfl := si H
      exact rt1 hE ⟨_, rfl, _, rfl, hS⟩
    ·
     replace hE := hE.kf 42 c19
     refine plc hE (.r 4 16 .nil) (fun a hE => pld (hK18 _ _ (wp_ret (qCC (qCB ?_)))))
     replace hS := hS.tail
     obtain rfl := si H
     exact rt1 hE ⟨_, rfl, _, rfl, hS⟩
   ·
    replace hE := hE.kf 37 c17
    refine cf hE (sq fun K22 hK22 => pl0 (plc hE (.r 0 2 .nil) (fun a hE => pld (hK22 _ _ ?_))))
    rcases sp H with ⟨c23, H⟩ | ⟨c23, H⟩
    ·
     replace hE := hE.kt 58 c23
     refine ct hE (sq fun K24 hK24 => pl0 (plc hE (.r 0 1 <| .b 1 1 hb2 <| .r 2 2 <| .nil) (fun a hE => ?_)))
     rcases sp H with ⟨c25, H⟩ | ⟨c25, H⟩
     ·
      replace hE := hE.kt 63 c25
      refine plc hE (.r 4 1 <| .b 5 2 hb2 <| .r 6 3 <| .nil) (fun a hE => ?_)
      rcases sp H with ⟨c26, H⟩ | ⟨c26, H⟩
      ·
       replace hE := hE.kt 68 c26
       refine plc hE (.r 9 1 <| .b 10 3 hb2 <| .r 11 3 <| .nil) (fun a hE => ?_)
       rcases sp H with ⟨c27, H⟩ | ⟨c27, H⟩
       ·
        replace hE := hE.kt 73 c27
        refine plc hE (.r 14 1 <| .b 15 4 hb2 <| .r 16 3 <| .nil) (fun a hE => pld (hK24 _ _ (wp_ret (qCC (qCB ?_)))))
        replace hS := hS.tail
        obtain rfl := si H
        exact rt1 hE ⟨_, rfl, _, rfl, hS⟩
       ·
        replace hE := hE.kf 73 c27
        refine plc hE (.r 14 5 .nil) (fun a hE => pld (hK24 _ _ (wp_ret (qCC (qCB ?_)))))
        replace hS := hS.tail
        obtain rfl := si H
        exact rt1 hE ⟨_, rfl, _, rfl, hS⟩
      ·
       replace hE := hE.kf 68 c26
       refine plc hE (.r 9 10 .nil) (fun a hE => pld (hK24 _ _ (wp_ret (qCC (qCB ?_)))))
       replace hS := hS.tail
       obtain rfl := si H
       exact rt1 hE ⟨_, rfl, _, rfl, hS⟩
     ·
      replace hE := hE.kf 63 c25
      refine plc hE (.r 4 15 .nil) (fun a hE => pld (hK24 _ _ (wp_ret (qCC (qCB ?_)))))
      replace hS := hS.tail
      obtain rfl := si H
      exact rt1 hE ⟨_, rfl, _, rfl, hS⟩
    ·
     replace hE := hE.kf 58 c23
     refine cf hE (wp_skip ?_)
     refine qCD ?_
     refine hK4 _ _ (sq fun K28 hK28 => pl0 (plc hE (.r 0 1 <| .b 1 2 hb2 <| .r 2 2 <| .nil) (fun a hE => ?_)))
     rcases sp H with ⟨c29, H⟩ | ⟨c29, H⟩
     ·
      replace hE := hE.kt 81 c29
      refine plc hE (.r 4 1 <| .b 5 3 hb2 <| .r 6 3 <| .nil) (fun a hE => ?_)
      rcases sp H with ⟨c30, H⟩ | ⟨c30, H⟩
      ·
       replace hE := hE.kt 86 c30
       refine plc hE (.r 9 1 <| .b 10 4 hb2 <| .r 11 3 <| .nil) (fun a hE => ?_)
       rcases sp H with ⟨c31, H⟩ | ⟨c31, H⟩
       ·
        replace hE := hE.kt 91 c31
        refine plc hE (.r 14 1 <| .b 15 5 hb2 <| .r 16 3 <| .nil) (fun a hE => ?_)
        rcases sp H with ⟨c32, H⟩ | ⟨c32, H⟩
        ·
         replace hE := hE.kt 96 c32
         refine plc hE (.r 19 1 <| .b 20 6 hb2 <| .r 21 4 <| .nil) (fun a hE => ?_)
         rcases sp H with ⟨c33, H⟩ | ⟨c33, H⟩
         ·
          replace hE := hE.kt 102 c33
          refine plc hE (.r 25 1 <| .b 26 0 hb2 <| .r 27 2 <| .nil) (fun a hE => ?_)
          rcases sp H with ⟨c34, H⟩ | ⟨c34, H⟩
          ·
           replace hE := hE.ktn 106 c34
           refine plc hE (.r 29 1 <| .b 30 1 hb2 <| .r 31 4 <| .nil) (fun a hE => pld (hK28 _ _ (wp_ret ?_)))
           replace hS := hS.tail
           obtain rfl := si H
           exact rt1 hE ⟨_, rfl, _, rfl, hS⟩
          ·
           replace hE := hE.kfn 106 c34
           refine plc hE (.r 29 6 .nil) (fun a hE => pld (hK28 _ _ (wp_ret ?_)))
           replace hS := hS.tail
           obtain rfl := si H
           exact rt1 hE ⟨_, rfl, _, rfl, hS⟩
         ·
          replace hE := hE.kf 102 c33
          refine plc hE (.r 25 10 .nil) (fun a hE => pld (hK28 _ _ (wp_ret ?_)))
          replace hS := hS.tail
          obtain rfl := si H
          exact rt1 hE ⟨_, rfl, _, rfl, hS⟩
        ·
         replace hE := hE.kf 96 c32
         refine plc hE (.r 19 16 .nil) (fun a hE => pld (hK28 _ _ (wp_ret ?_)))
         replace hS := hS.tail
         obtain rfl := si H
         exact rt1 hE ⟨_, rfl, _, rfl, hS⟩
       ·
        replace hE := hE.kf 91 c31
        refine plc hE (.r 14 21 .nil) (fun a hE => pld (hK28 _ _ (wp_ret ?_)))
        replace hS := hS.tail
        obtain rfl := si H
        exact rt1 hE ⟨_, rfl, _, rfl, hS⟩
      ·
       replace hE := hE.kf 86 c30
       refine plc hE (.r 9 26 .nil) (fun a hE => pld (hK28 _ _ (wp_ret ?_)))
       replace hS := hS.tail
       obtain rfl := si H
       exact rt1 hE ⟨_, rfl, _, rfl, hS⟩
     ·
      replace hE := hE.kf 81 c29
      refine plc hE (.r 4 31 .nil) (fun a hE => pld (hK28 _ _ (wp_ret ?_)))
      replace hS := hS.tail
      obtain rfl := si H
      exact rt1 hE ⟨_, rfl, _, rfl, hS⟩
def qAg.f (x0_ : List qA) : Option (List qA) := if ((([] : List qA).length : Int) + (x0_.length : Int)) * 40 ≤ 140737488355328 then (some (([] : List qA) ++ x0_)) else (none)
def qAg.Post (W F : World) (r : List qA) (v : Value) (w' : World) : Prop := ∃ (F' : World) (RA0_0 : Option Addr) (rc0_0 : Nat), v = .slice RA0_0 r.length rc0_0 ∧ St W (mine W []) F w' F' [row qA.k 104 (.slice RA0_0 r.length rc0_0) r]
theorem qAg.calls (x0_ : List qA) (A0_0 : Option Addr) (c0_0 : Nat) (r : List qA) (W F : World) (hown : Sub F W) (g0_0 : Rd qA.k F A0_0 c0_0 x0_) (H : qAg.f x0_ = some r) :
    Calls Tryz.prog 128 #[.slice A0_0 x0_.length c0_0] W fun e w' => ∃ v, e = .returned v ∧ qAg.Post W F r v w' := by
 have hS := St.start (Own.nil hown)
 unfold qAg.f at H
 refine enter (n := 8) rfl rfl rfl (Nat.le_of_ble_eq_true rfl) (fun a hE => ?_)
 rcases A0_0 with _ | ad1
 ·
  have hnil := g0_0.none_nil
  replace H : (some []) = some r := by simpa [hnil] using H
  refine sq fun K2 hK2 => pl0 (plc hE (.r 0 1 .nil) (fun a hE => pld (hK2 _ _ (sq fun K3 hK3 => sq fun K4 hK4 => pl0 (plc hE (.r 0 2 .nil) (fun a hE => pld (hK4 _ _ (ct hE (sq fun K5 hK5 => pl0 (plc hE (.r 0 1 .nil) (fun a hE => pld (hK5 _ _ (wp_ret (qCB ?_))))))))))))))
  replace hS := hS.nilrow qA.k 104
  obtain rfl := si H
  exact rt1 hE ⟨_, rfl, _, _, _, rfl, hS⟩
 ·
  refine sq fun K7 hK7 => pl0 (plc hE (.r 0 1 .nil) (fun a hE => pld (hK7 _ _ (sq fun K8 hK8 => sq fun K9 hK9 => pl0 (plc hE (.r 0 2 .nil) (fun a hE => pld (hK9 _ _ (cf hE (wp_skip (hK8 _ _ (sq fun K10 hK10 => pl0 (ple hE (.lit (d := qA.k) (e := 104) hS ([] : List qA) (.nil)) ?_))))))))))))
  rintro _ u11 a ⟨A12, c13, rfl, hS, hg⟩ hE
  refine plc hE (.r 1 1 .nil) (fun a hE => ?_)
  obtain ⟨c15, H⟩ := gd H
  refine ple hE (.ap (d := qA.k) 40 hS (g0_0.src hS.own.sub) c15 c0_0) ?_
  rintro _ u18 a ⟨A16, c17, rfl, hS, hz⟩ hE
  refine plc hE (.r 3 1 .nil) (fun a hE => pld (hK10 _ _ (wp_ret ?_)))
  obtain rfl := si H
  exact rt1 hE ⟨_, rfl, _, _, _, rfl, hS⟩
def qAh.f (x0_ : List qK) : Option (List qK) := if ((([] : List qK).length : Int) + (x0_.length : Int)) * 32 ≤ 140737488355328 then (some (([] : List qK) ++ x0_)) else (none)
def qAh.Post (W F : World) (r : List qK) (v : Value) (w' : World) : Prop := ∃ (F' : World) (RA0_0 : Option Addr) (rc0_0 : Nat), v = .slice RA0_0 r.length rc0_0 ∧ St W (mine W []) F w' F' [row qK.k 97 (.slice RA0_0 r.length rc0_0) r]
theorem qAh.calls (x0_ : List qK) (A0_0 : Option Addr) (c0_0 : Nat) (r : List qK) (W F : World) (hown : Sub F W) (g0_0 : Rd qK.k F A0_0 c0_0 x0_) (H : qAh.f x0_ = some r) :
    Calls Tryz.prog 129 #[.slice A0_0 x0_.length c0_0] W fun e w' => ∃ v, e = .returned v ∧ qAh.Post W F r v w' := by
 have hS := St.start (Own.nil hown)
 unfold qAh.f at H
 refine enter (n := 8) rfl rfl rfl (Nat.le_of_ble_eq_true rfl) (fun a hE => ?_)
 rcases A0_0 with _ | ad1
 ·
  have hnil := g0_0.none_nil
  replace H : (some []) = some r := by simpa [hnil] using H
  refine sq fun K2 hK2 => pl0 (plc hE (.r 0 1 .nil) (fun a hE => pld (hK2 _ _ (sq fun K3 hK3 => sq fun K4 hK4 => pl0 (plc hE (.r 0 2 .nil) (fun a hE => pld (hK4 _ _ (ct hE (sq fun K5 hK5 => pl0 (plc hE (.r 0 1 .nil) (fun a hE => pld (hK5 _ _ (wp_ret (qCB ?_))))))))))))))
  replace hS := hS.nilrow qK.k 97
  obtain rfl := si H
  exact rt1 hE ⟨_, rfl, _, _, _, rfl, hS⟩
 ·
  refine sq fun K7 hK7 => pl0 (plc hE (.r 0 1 .nil) (fun a hE => pld (hK7 _ _ (sq fun K8 hK8 => sq fun K9 hK9 => pl0 (plc hE (.r 0 2 .nil) (fun a hE => pld (hK9 _ _ (cf hE (wp_skip (hK8 _ _ (sq fun K10 hK10 => pl0 (ple hE (.lit (d := qK.k) (e := 97) hS ([] : List qK) (.nil)) ?_))))))))))))
  rintro _ u11 a ⟨A12, c13, rfl, hS, hg⟩ hE
  refine plc hE (.r 1 1 .nil) (fun a hE => ?_)
  obtain ⟨c15, H⟩ := gd H
  refine ple hE (.ap (d := qK.k) 32 hS (g0_0.src hS.own.sub) c15 c0_0) ?_
  rintro _ u18 a ⟨A16, c17, rfl, hS, hz⟩ hE
  refine plc hE (.r 3 1 .nil) (fun a hE => pld (hK10 _ _ (wp_ret ?_)))
  obtain rfl := si H
  exact rt1 hE ⟨_, rfl, _, _, _, rfl, hS⟩
def qAN.f (x0_ : List Int) : Option (List Int) := if ((([] : List Int).length : Int) + (x0_.length : Int)) * 8 ≤ 140737488355328 then (some (([] : List Int) ++ x0_)) else (none)
def qAN.Post (W F : World) (r : List Int) (v : Value) (w' : World) : Prop := ∃ (F' : World) (RA0_0 : Option Addr) (rc0_0 : Nat), v = .slice RA0_0 r.length rc0_0 ∧ St W (mine W []) F w' F' [row (Kn.int .i64) 3 (.slice RA0_0 r.length rc0_0) r]
theorem qAN.calls (x0_ : List Int) (A0_0 : Option Addr) (c0_0 : Nat) (r : List Int) (W F : World) (hown : Sub F W) (g0_0 : Rd (Kn.int .i64) F A0_0 c0_0 x0_) (H : qAN.f x0_ = some r) :
    Calls Tryz.prog 112 #[.slice A0_0 x0_.length c0_0] W fun e w' => ∃ v, e = .returned v ∧ qAN.Post W F r v w' := by
 have hS := St.start (Own.nil hown)
 unfold qAN.f at H
 refine enter (n := 8) rfl rfl rfl (Nat.le_of_ble_eq_true rfl) (fun a hE => ?_)
 rcases A0_0 with _ | ad1
 ·
  have hnil := g0_0.none_nil
  replace H : (some []) = some r := by simpa [hnil] using H
  refine sq fun K2 hK2 => pl0 (plc hE (.r 0 1 .nil) (fun a hE => pld (hK2 _ _ (sq fun K3 hK3 => sq fun K4 hK4 => pl0 (plc hE (.r 0 2 .nil) (fun a hE => pld (hK4 _ _ (ct hE (sq fun K5 hK5 => pl0 (plc hE (.r 0 1 .nil) (fun a hE => pld (hK5 _ _ (wp_ret (qCB ?_))))))))))))))
  replace hS := hS.nilrow (Kn.int .i64) 3
  obtain rfl := si H
  exact rt1 hE ⟨_, rfl, _, _, _, rfl, hS⟩
 ·
  refine sq fun K7 hK7 => pl0 (plc hE (.r 0 1 .nil) (fun a hE => pld (hK7 _ _ (sq fun K8 hK8 => sq fun K9 hK9 => pl0 (plc hE (.r 0 2 .nil) (fun a hE => pld (hK9 _ _ (cf hE (wp_skip (hK8 _ _ (sq fun K10 hK10 => pl0 (ple hE (.lit (d := (Kn.int .i64)) (e := 3) hS ([] : List Int) (.nil)) ?_))))))))))))
  rintro _ u11 a ⟨A12, c13, rfl, hS, hg⟩ hE
  refine plc hE (.r 1 1 .nil) (fun a hE => ?_)
  obtain ⟨c15, H⟩ := gd H
  refine ple hE (.ap (d := (Kn.int .i64)) 8 hS (g0_0.src hS.own.sub) c15 c0_0) ?_
  rintro _ u18 a ⟨A16, c17, rfl, hS, hz⟩ hE
  refine plc hE (.r 3 1 .nil) (fun a hE => pld (hK10 _ _ (wp_ret ?_)))
  obtain rfl := si H
  exact rt1 hE ⟨_, rfl, _, _, _, rfl, hS⟩
def qAV.f (x0_ : List qC) : Option (List qC) := if ((([] : List qC).length : Int) + (x0_.length : Int)) * 32 ≤ 140737488355328 then (some (([] : List qC) ++ x0_)) else (none)
def qAV.Post (W F : World) (r : List qC) (v : Value) (w' : World) : Prop := ∃ (F' : World) (RA0_0 : Option Addr) (rc0_0 : Nat), v = .slice RA0_0 r.length rc0_0 ∧ St W (mine W []) F w' F' [row qC.k 49 (.slice RA0_0 r.length rc0_0) r]
theorem qAV.calls (x0_ : List qC) (A0_0 : Option Addr) (c0_0 : Nat) (r : List qC) (W F : World) (hown : Sub F W) (g0_0 : Rd qC.k F A0_0 c0_0 x0_) (H : qAV.f x0_ = some r) :
    Calls Tryz.prog 130 #[.slice A0_0 x0_.length c0_0] W fun e w' => ∃ v, e = .returned v ∧ qAV.Post W F r v w' := by
 have hS := St.start (Own.nil hown)
 unfold qAV.f at H
 refine enter (n := 8) rfl rfl rfl (Nat.le_of_ble_eq_true rfl) (fun a hE => ?_)
 rcases A0_0 with _ | ad1
 ·
  have hnil := g0_0.none_nil
  replace H : (some []) = some r := by simpa [hnil] using H
  refine sq fun K2 hK2 => pl0 (plc hE (.r 0 1 .nil) (fun a hE => pld (hK2 _ _ (sq fun K3 hK3 => sq fun K4 hK4 => pl0 (plc hE (.r 0 2 .nil) (fun a hE => pld (hK4 _ _ (ct hE (sq fun K5 hK5 => pl0 (plc hE (.r 0 1 .nil) (fun a hE => pld (hK5 _ _ (wp_ret (qCB ?_))))))))))))))
  replace hS := hS.nilrow qC.k 49
  obtain rfl := si H
  exact rt1 hE ⟨_, rfl, _, _, _, rfl, hS⟩
 ·
  refine sq fun K7 hK7 => pl0 (plc hE (.r 0 1 .nil) (fun a hE => pld (hK7 _ _ (sq fun K8 hK8 => sq fun K9 hK9 => pl0 (plc hE (.r 0 2 .nil) (fun a hE => pld (hK9 _ _ (cf hE (wp_skip (hK8 _ _ (sq fun K10 hK10 => pl0 (ple hE (.lit (d := qC.k) (e := 49) hS ([] : List qC) (.nil)) ?_))))))))))))
  rintro _ u11 a ⟨A12, c13, rfl, hS, hg⟩ hE
  refine plc hE (.r 1 1 .nil) (fun a hE => ?_)
  obtain ⟨c15, H⟩ := gd H
  refine ple hE (.ap (d := qC.k) 32 hS (g0_0.src hS.own.sub) c15 c0_0) ?_
  rintro _ u18 a ⟨A16, c17, rfl, hS, hz⟩ hE
  refine plc hE (.r 3 1 .nil) (fun a hE => pld (hK10 _ _ (wp_ret ?_)))
  obtain rfl := si H
  exact rt1 hE ⟨_, rfl, _, _, _, rfl, hS⟩
def qAi.f (x0_ : List qD) : Option (List qD) := if ((([] : List qD).length : Int) + (x0_.length : Int)) * 32 ≤ 140737488355328 then (some (([] : List qD) ++ x0_)) else (none)
def qAi.Post (W F : World) (r : List qD) (v : Value) (w' : World) : Prop := ∃ (F' : World) (RA0_0 : Option Addr) (rc0_0 : Nat), v = .slice RA0_0 r.length rc0_0 ∧ St W (mine W []) F w' F' [row qD.k 51 (.slice RA0_0 r.length rc0_0) r]
theorem qAi.calls (x0_ : List qD) (A0_0 : Option Addr) (c0_0 : Nat) (r : List qD) (W F : World) (hown : Sub F W) (g0_0 : Rd qD.k F A0_0 c0_0 x0_) (H : qAi.f x0_ = some r) :
    Calls Tryz.prog 175 #[.slice A0_0 x0_.length c0_0] W fun e w' => ∃ v, e = .returned v ∧ qAi.Post W F r v w' := by
 have hS := St.start (Own.nil hown)
 unfold qAi.f at H
 refine enter (n := 8) rfl rfl rfl (Nat.le_of_ble_eq_true rfl) (fun a hE => ?_)
 rcases A0_0 with _ | ad1
 ·
  have hnil := g0_0.none_nil
  replace H : (some []) = some r := by simpa [hnil] using H
  refine sq fun K2 hK2 => pl0 (plc hE (.r 0 1 .nil) (fun a hE => pld (hK2 _ _ (sq fun K3 hK3 => sq fun K4 hK4 => pl0 (plc hE (.r 0 2 .nil) (fun a hE => pld (hK4 _ _ (ct hE (sq fun K5 hK5 => pl0 (plc hE (.r 0 1 .nil) (fun a hE => pld (hK5 _ _ (wp_ret (qCB ?_))))))))))))))
  replace hS := hS.nilrow qD.k 51
  obtain rfl := si H
  exact rt1 hE ⟨_, rfl, _, _, _, rfl, hS⟩
 ·
  refine sq fun K7 hK7 => pl0 (plc hE (.r 0 1 .nil) (fun a hE => pld (hK7 _ _ (sq fun K8 hK8 => sq fun K9 hK9 => pl0 (plc hE (.r 0 2 .nil) (fun a hE => pld (hK9 _ _ (cf hE (wp_skip (hK8 _ _ (sq fun K10 hK10 => pl0 (ple hE (.lit (d := qD.k) (e := 51) hS ([] : List qD) (.nil)) ?_))))))))))))
  rintro _ u11 a ⟨A12, c13, rfl, hS, hg⟩ hE
  refine plc hE (.r 1 1 .nil) (fun a hE => ?_)
  obtain ⟨c15, H⟩ := gd H
  refine ple hE (.ap (d := qD.k) 32 hS (g0_0.src hS.own.sub) c15 c0_0) ?_
  rintro _ u18 a ⟨A16, c17, rfl, hS, hz⟩ hE
  refine plc hE (.r 3 1 .nil) (fun a hE => pld (hK10 _ _ (wp_ret ?_)))
  obtain rfl := si H
  exact rt1 hE ⟨_, rfl, _, _, _, rfl, hS⟩
def qBO.l16 : Nat → List qD → List qD → Int → Option (List qD)
  | 0, _, _, _ => none
  | k + 1, t4, l13, x14 => if x14 < (t4.length : Int) then (if 0 ≤ x14 ∧ x14 < (t4.length : Int) then ((qAN.f ((nth qD.z l13 x14).f1)).bind fun t39 => (qBO.l16 k t4 (l13.set (x14).toNat (⟨(nth qD.z l13 x14).f0, t39⟩ : qD)) (w64 (x14 + 1)))) else (none)) else (some l13)
theorem qBO.l16_s (k : Nat) (t4 : List qD) (l13 : List qD) (x14 : Int) : qBO.l16 (k + 1) t4 l13 x14 = (if x14 < (t4.length : Int) then (if 0 ≤ x14 ∧ x14 < (t4.length : Int) then ((qAN.f ((nth qD.z l13 x14).f1)).bind fun t39 => (qBO.l16 k t4 (l13.set (x14).toNat (⟨(nth qD.z l13 x14).f0, t39⟩ : qD)) (w64 (x14 + 1)))) else (none)) else (some l13)) := by kernel_rfl
def qBO.f (k : Nat) (x0_ : List qD) : Option (List qD) := (qAi.f x0_).bind fun t4 => (qBO.l16 k t4 t4 0)
def qBO.Post (W F : World) (r : List qD) (v : Value) (w' : World) : Prop := ∃ (F' : World) (RA0_0 : Option Addr) (rc0_0 : Nat), v = .slice RA0_0 r.length rc0_0 ∧ St W (mine W []) F w' F' [row qD.k 51 (.slice RA0_0 r.length rc0_0) r]
theorem qBO.calls (k : Nat) (x0_ : List qD) (A0_0 : Option Addr) (c0_0 : Nat) (r : List qD) (W F : World) (hown : Sub F W) (g0_0 : Rd qD.k F A0_0 c0_0 x0_) (H : qBO.f k x0_ = some r) :
    Calls Tryz.prog 131 #[.slice A0_0 x0_.length c0_0] W fun e w' => ∃ v, e = .returned v ∧ qBO.Post W F r v w' := by
 have hS := St.start (Own.nil hown)
 unfold qBO.f at H
 refine enter (n := 23) rfl rfl rfl (Nat.le_of_ble_eq_true rfl) (fun a hE => ?_)
 refine sq fun K1 hK1 => pl0 (plc hE (.r 0 1 .nil) (fun a hE => pld (hK1 _ _ (sq fun K2 hK2 => pl0 (plc hE (.r 0 1 .nil) (fun a hE => ?_))))))
 obtain ⟨t4, h5, H⟩ := bd H
 refine ple hE (.cl en175 (qAi.calls x0_ _ _ _ _ _ hS.own.sub g0_0 h5)) ?_
 rintro _ u3 a ⟨F6, A7, c8, rfl, hC⟩ hE
 have hs := hC.sub
 replace hS := hS.called (X := []) hC
 replace g0_0 := g0_0.mono hs
 refine plc hE (.r 2 1 .nil) (fun a hE => pld (hK2 _ _ (sq fun K11 hK11 => sq fun K12 hK12 => pl0 (plc hE (.r 0 3 .nil) (fun a hE => pld (hK12 _ _ (wp_block ?_)))))))
 refine wp_loop_ghost (fun kq17 a w' => ∃ (G : Nat → Value) (l13 : List qD) (x14 : Int) (F15 : World), kq17 ≤ k ∧ Env 23 G a ∧ At G [(0, .slice A7 t4.length c8), (7, .slice A7 t4.length c8), (8, .int .i64 (t4.length : Int)), (9, .int .i64 x14)] ∧ St W (mine W []) F w' F15 [row qD.k 51 (.slice A7 t4.length c8) l13] ∧  qBO.l16 kq17 t4 l13 x14 = some r) k ⟨_, t4, 0, F6, Nat.le_refl _, hE, .of, hS, H⟩ ?_
 rintro kq17 a u19 ⟨G, l13, x14, F15, hkq, hE, hA, hS, H⟩
 cases kq17 with
 | zero => cases (show none = some r from H)
 | succ k18 =>
  rw [qBO.l16_s] at H
  obtain ⟨J, hE⟩ := hE.at hA
  refine sq fun K20 hK20 => pl0 (plc hE (.r 0 1 .nil) (fun a hE => pld (hK20 _ _ (sq fun K21 hK21 => ?_))))
  rcases sp H with ⟨c22, H⟩ | ⟨c22, H⟩
  ·
   replace hE := hE.kt 10 c22
   refine ct hE (wp_skip (hK21 _ _ (sq fun K23 hK23 => wp_block (sq fun K24 hK24 => pl0 ?_))))
   obtain ⟨c25, H⟩ := gd H
   have hr26 := hS.row_at (i := 0) rfl
   have c27 : 0 ≤ x14 ∧ x14 < (l13.length : Int) := by rw [← (qCF hr26).1]; exact c25
   have hE_ := hE
   obtain ⟨b28, rfl⟩ := qCI hr26 c27.1 c27.2
   replace hE := hE_
   have hr_ := hS.row_at (i := 0) rfl
   obtain ⟨cs30, ⟨A32, c33, rfl, g34⟩, hc31⟩ := qCG hr_ qD.z x14 c27.1 c27.2
   refine plc hE (.r 0 1 <| .x 1 c25 <| .cs 2 hc31 <| .nil) (fun a hE => ple hE (.al (t := 51) hS [.int .i64 0, .slice none 0 0]) ?_)
   rintro _ u36 a ⟨b35, rfl, hb35, hS, hg⟩ hE
   refine plc hE (.r 4 1 .nil) (fun a hE => ple hE (.sto hS [.int .i64 ((nth qD.z l13 x14).f0), .slice A32 (((nth qD.z l13 x14).f1).length) c33]) ?_)
   rintro _ u37 a ⟨rfl, hb35, hS, hz⟩ hE
   refine pld (hK24 _ _ (pl0 (plc hE (.r 0 3 <| .b 3 1 hb35 <| .nil) (fun a hE => ?_))))
   obtain ⟨t39, h40, H⟩ := bd H
   refine ple hE (.cl en112 (qAN.calls ((nth qD.z l13 x14).f1) _ _ _ _ _ hS.own.sub g34 h40)) ?_
   rintro _ u38 a ⟨F41, A42, c43, rfl, hC⟩ hE
   have hs := hC.sub
   replace hS := hS.called (X := []) hC
   replace g34 := g34.mono hs
   have hr46 := hS.row_at (i := 2) rfl
   have c47 : 0 ≤ x14 ∧ x14 < (l13.length : Int) := by rw [← (qCF hr46).1]; exact c25
   have hr_ := hS.row_at (i := 2) rfl
   obtain ⟨cs49, ⟨A51, c52, rfl, g53⟩, hc50⟩ := qCG hr_ qD.z x14 c47.1 c47.2
   refine plc hE (.x 5 c25 <| .r 6 1 <| .nil) (fun a hE => ?_)
   obtain ⟨F55, hs, g56, hS⟩ := hS.give
   replace g34 := g34.mono hs
   replace hS := hS.front 1 rfl
   obtain ⟨cs60, ⟨A57, c58, rfl, g59⟩, hc61⟩ := qCG (hS.row_at (i := 0) rfl) qD.z x14 c47.1 c47.2
   refine ple hE (.set (d := qD.k) (n := t4.length) (i := x14) (⟨(nth qD.z l13 x14).f0, t39⟩ : qD) 1 (ea1 _ _ _) hS c47 [.int .i64 ((nth qD.z l13 x14).f0), .slice A57 (((nth qD.z l13 x14).f1).length) c58] hc61 [.int .i64 ((nth qD.z l13 x14).f0), .slice A42 t39.length c43] ⟨_, _, rfl, g56⟩) ?_
   rintro _ u54 a ⟨rfl, hS, hz⟩ hE
   refine pld ?_
   refine qCD ?_
   refine hK23 _ _ (pl0 (plc hE (.r 0 2 .nil) (fun a hE => pld ?_)))
   replace hS := hS.front 1 rfl
   replace hS := hS.tail
   exact qCE ⟨k18, by omega, _, (l13.set (x14).toNat (⟨(nth qD.z l13 x14).f0, t39⟩ : qD)), (w64 (x14 + 1)), F55, by omega, hE, .of, hS, H⟩
  ·
   replace hE := hE.kf 10 c22
   refine cf hE ?_
   refine wp_exit ?_
   refine hK11 _ _ (sq fun K62 hK62 => pl0 (plc hE (.r 0 2 .nil) (fun a hE => pld (hK62 _ _ (wp_ret ?_)))))
   have hn63 := (qCF (hS.row_at (i := 0) rfl)).1
   replace hE := hE.set (d := 2) (v := .slice A7 l13.length c8) (Eq.trans (b := .slice A7 t4.length c8) (by kernel_rfl) (by rw [← hn63]))
   replace hS : St W (mine W []) F u19 F15 [row qD.k 51 (.slice A7 l13.length c8) l13] := by rw [← hn63]; exact hS
   obtain rfl := si H
   exact rt1 hE ⟨_, rfl, _, _, _, rfl, hS⟩
mutual
def qAo.l30 : Nat → qJ → List qA → List qK → List qK → Int → Option qJ
  | 0, _, _, _, _, _ => none
  | k + 1, x0_, t8, t16, l27, x28 => if x28 < (t16.length : Int) then (if 0 ≤ x28 ∧ x28 < (t16.length : Int) then ((qAN.f ((nth qK.z l27 x28).f1)).bind fun t53 => (qAo.l30 k x0_ t8 t16 (l27.set (x28).toNat (⟨(nth qK.z l27 x28).f0, t53⟩ : qK)) (w64 (x28 + 1)))) else (none)) else ((qAV.f x0_.f6).bind fun t78 => (qAo.l91 k x0_ t8 l27 t78 t78 0))
def qAo.l91 : Nat → qJ → List qA → List qK → List qC → List qC → Int → Option qJ
  | 0, _, _, _, _, _, _ => none
  | k + 1, x0_, t8, l27, t78, l88, x89 => if x89 < (t78.length : Int) then (if 0 ≤ x89 ∧ x89 < (t78.length : Int) then ((qBO.f k ((nth qC.z l88 x89).f1)).bind fun t114 => (qAo.l91 k x0_ t8 l27 t78 (l88.set (x89).toNat (⟨(nth qC.z l88 x89).f0, t114⟩ : qC)) (w64 (x89 + 1)))) else (none)) else (some (⟨x0_.f0, x0_.f1, x0_.f2, x0_.f3, t8, l27, l88⟩ : qJ))
end
theorem qAo.l30_s (k : Nat) (x0_ : qJ) (t8 : List qA) (t16 : List qK) (l27 : List qK) (x28 : Int) : qAo.l30 (k + 1) x0_ t8 t16 l27 x28 = (if x28 < (t16.length : Int) then (if 0 ≤ x28 ∧ x28 < (t16.length : Int) then ((qAN.f ((nth qK.z l27 x28).f1)).bind fun t53 => (qAo.l30 k x0_ t8 t16 (l27.set (x28).toNat (⟨(nth qK.z l27 x28).f0, t53⟩ : qK)) (w64 (x28 + 1)))) else (none)) else ((qAV.f x0_.f6).bind fun t78 => (qAo.l91 k x0_ t8 l27 t78 t78 0))) := by kernel_rfl
theorem qAo.l91_s (k : Nat) (x0_ : qJ) (t8 : List qA) (l27 : List qK) (t78 : List qC) (l88 : List qC) (x89 : Int) : qAo.l91 (k + 1) x0_ t8 l27 t78 l88 x89 = (if x89 < (t78.length : Int) then (if 0 ≤ x89 ∧ x89 < (t78.length : Int) then ((qBO.f k ((nth qC.z l88 x89).f1)).bind fun t114 => (qAo.l91 k x0_ t8 l27 t78 (l88.set (x89).toNat (⟨(nth qC.z l88 x89).f0, t114⟩ : qC)) (w64 (x89 + 1)))) else (none)) else (some (⟨x0_.f0, x0_.f1, x0_.f2, x0_.f3, t8, l27, l88⟩ : qJ))) := by kernel_rfl
def qAo.f (k : Nat) (x0_ : qJ) : Option qJ := (qAg.f x0_.f4).bind fun t8 => ((qAh.f x0_.f5).bind fun t16 => (qAo.l30 k x0_ t8 t16 t16 0))
def qAo.Post (W F : World) (r : qJ) (v : Value) (w' : World) : Prop := ∃ (F' : World) (RA0_4 : Option Addr) (rc0_4 : Nat) (RA0_5 : Option Addr) (rc0_5 : Nat) (RA0_6 : Option Addr) (rc0_6 : Nat), v = .agg #[.int .i64 r.f0, .int .i64 r.f1, .int .i64 r.f2, .int .i64 r.f3, .slice RA0_4 r.f4.length rc0_4, .slice RA0_5 r.f5.length rc0_5, .slice RA0_6 r.f6.length rc0_6] ∧ St W (mine W []) F w' F' [row qA.k 104 (.slice RA0_4 r.f4.length rc0_4) r.f4, row qK.k 97 (.slice RA0_5 r.f5.length rc0_5) r.f5, row qC.k 49 (.slice RA0_6 r.f6.length rc0_6) r.f6]
theorem qAo.calls (k : Nat) (x0_ : qJ) (A0_4 : Option Addr) (c0_4 : Nat) (A0_5 : Option Addr) (c0_5 : Nat) (A0_6 : Option Addr) (c0_6 : Nat) (r : qJ) (W F : World) (hown : Sub F W) (g0_4 : Rd qA.k F A0_4 c0_4 x0_.f4) (g0_5 : Rd qK.k F A0_5 c0_5 x0_.f5) (g0_6 : Rd qC.k F A0_6 c0_6 x0_.f6) (H : qAo.f k x0_ = some r) :
    Calls Tryz.prog 77 #[.agg #[.int .i64 x0_.f0, .int .i64 x0_.f1, .int .i64 x0_.f2, .int .i64 x0_.f3, .slice A0_4 x0_.f4.length c0_4, .slice A0_5 x0_.f5.length c0_5, .slice A0_6 x0_.f6.length c0_6]] W fun e w' => ∃ v, e = .returned v ∧ qAo.Post W F r v w' := by
 have hS := St.start (Own.nil hown)
 unfold qAo.f at H
 refine enter (n := 54) rfl rfl rfl (Nat.le_of_ble_eq_true rfl) (fun a hE => ?_)
 refine sq fun K1 hK1 => pl0 (ple hE (.bx (t := 26) hS [.int .i64 x0_.f0, .int .i64 x0_.f1, .int .i64 x0_.f2, .int .i64 x0_.f3, .slice A0_4 x0_.f4.length c0_4, .slice A0_5 x0_.f5.length c0_5, .slice A0_6 x0_.f6.length c0_6]) ?_)
 rintro _ u3 a ⟨b2, rfl, hb2, hS, hg⟩ hE
 refine ple hE (.al (t := 26) hS [.int .i64 0, .int .i64 0, .int .i64 0, .int .i64 0, .slice none 0 0, .slice none 0 0, .slice none 0 0]) ?_
 rintro _ u5 a ⟨b4, rfl, hb4, hS, hg⟩ hE
 refine pld (hK1 _ _ (sq fun K6 hK6 => ?_))
 refine drawn 10 ⟨[7, 9], [], fun q => False⟩ mixed rfl (by kernel_rfl) (fun hst => ?_)
 replace hS := hS.drew
 have hb2 := hS.blk_at (i := 1) rfl
 refine mny 6 hst hE (.r 0 1 <| .b 1 4 hb2 <| .r 3 1 <| .b 4 5 hb2 <| .nil) (fun a hE => ?_)
 obtain ⟨t8, h9, H⟩ := bd H
 refine on1 2 hE (.cl en128 (qAg.calls x0_.f4 _ _ _ _ _ hS.own.sub g0_4 h9)) ?_
 rintro _ u7 a ⟨F10, A11, c12, rfl, hC⟩ hE
 refine ⟨.of hC.agr, ?_⟩
 have hs := hC.sub
 replace hS := hS.called (X := []) hC
 replace g0_4 := g0_4.mono hs
 replace g0_5 := g0_5.mono hs
 replace g0_6 := g0_6.mono hs
 refine mny 4 hst hE (.r 6 1 .nil) (fun a hE => ?_)
 obtain ⟨t16, h17, H⟩ := bd H
 refine on1 5 hE (.cl en129 (qAh.calls x0_.f5 _ _ _ _ _ hS.own.sub g0_5 h17)) ?_
 rintro _ u15 a ⟨F18, A19, c20, rfl, hC⟩ hE
 refine ⟨.of hC.agr, ?_⟩
 have hs := hC.sub
 replace hS := hS.called (X := []) hC
 replace g0_4 := g0_4.mono hs
 replace g0_5 := g0_5.mono hs
 replace g0_6 := g0_6.mono hs
 replace hS := hS.front 3 rfl
 refine on1 7 hE (.sto hS [.int .i64 x0_.f0, .int .i64 x0_.f1, .int .i64 x0_.f2, .int .i64 x0_.f3, .slice A11 t8.length c12, .slice A0_5 x0_.f5.length c0_5, .slice A0_6 x0_.f6.length c0_6]) ?_
 rintro _ u23 a ⟨rfl, hb2, hS, hz⟩ hE
 refine ⟨.d, ?_⟩
 refine mny 1 hst hE (.r 8 1 .nil) (fun a hE => ?_)
 refine on1 9 hE (.sto hS [.int .i64 x0_.f0, .int .i64 x0_.f1, .int .i64 x0_.f2, .int .i64 x0_.f3, .slice A11 t8.length c12, .slice A19 t16.length c20, .slice A0_6 x0_.f6.length c0_6]) ?_
 rintro _ u24 a ⟨rfl, hb2, hS, hz⟩ hE
 refine ⟨.d, ?_⟩
 refine dn ?_
 refine hK6 _ _ (sq fun K25 hK25 => sq fun K26 hK26 => pl0 (plc hE (.r 0 1 <| .b 1 5 hb2 <| .r 2 2 <| .nil) (fun a hE => pld (hK26 _ _ (wp_block ?_)))))
 replace hS := hS.front 1 rfl
 replace hS := hS.front 2 rfl
 replace hS := hS.front 3 rfl
 replace hS := hS.front 3 rfl
 refine wp_loop_ghost (fun kq31 a w' => ∃ (G : Nat → Value) (l27 : List qK) (x28 : Int) (F29 : World), kq31 ≤ k ∧ Env 54 G a ∧ At G [(1, .pointer (some ⟨b2, 0, none⟩)), (2, .pointer (some ⟨b4, 0, none⟩)), (16, .slice A19 t16.length c20), (17, .int .i64 (t16.length : Int)), (18, .int .i64 x28)] ∧ St W (mine W []) F w' F29 [box b2 #[.int .i64 x0_.f0, .int .i64 x0_.f1, .int .i64 x0_.f2, .int .i64 x0_.f3, .slice A11 t8.length c12, .slice A19 t16.length c20, .slice A0_6 x0_.f6.length c0_6] 26, box b4 #[.int .i64 0, .int .i64 0, .int .i64 0, .int .i64 0, .slice none 0 0, .slice none 0 0, .slice none 0 0] 26, row qA.k 104 (.slice A11 t8.length c12) t8, row qK.k 97 (.slice A19 t16.length c20) l27] ∧ Rd qC.k F29 A0_6 c0_6 x0_.f6 ∧  qAo.l30 kq31 x0_ t8 t16 l27 x28 = some r) k ⟨_, t16, 0, F18, Nat.le_refl _, hE, .of, hS, g0_6, H⟩ ?_
 rintro kq31 a u33 ⟨G, l27, x28, F29, hkq, hE, hA, hS, g0_6, H⟩
 cases kq31 with
 | zero => cases (show none = some r from H)
 | succ k32 =>
  rw [qAo.l30_s] at H
  obtain ⟨J, hE⟩ := hE.at hA
  refine sq fun K34 hK34 => pl0 (plc hE (.r 0 1 .nil) (fun a hE => pld (hK34 _ _ (sq fun K35 hK35 => ?_))))
  rcases sp H with ⟨c36, H⟩ | ⟨c36, H⟩
  ·
   replace hE := hE.kt 19 c36
   refine ct hE (wp_skip (hK35 _ _ (sq fun K37 hK37 => wp_block (sq fun K38 hK38 => pl0 ?_))))
   obtain ⟨c39, H⟩ := gd H
   have hr40 := hS.row_at (i := 3) rfl
   have c41 : 0 ≤ x28 ∧ x28 < (l27.length : Int) := by rw [← (qCF hr40).1]; exact c39
   have hE_ := hE
   obtain ⟨b42, rfl⟩ := qCI hr40 c41.1 c41.2
   replace hE := hE_
   have hr_ := hS.row_at (i := 3) rfl
   obtain ⟨cs44, ⟨A46, c47, rfl, g48⟩, hc45⟩ := qCG hr_ qK.z x28 c41.1 c41.2
   refine plc hE (.r 0 1 <| .x 1 c39 <| .cs 2 hc45 <| .nil) (fun a hE => ple hE (.al (t := 97) hS [.int .i64 0, .slice none 0 0]) ?_)
   rintro _ u50 a ⟨b49, rfl, hb49, hS, hg⟩ hE
   refine plc hE (.r 4 1 .nil) (fun a hE => ple hE (.sto hS [.int .i64 ((nth qK.z l27 x28).f0), .slice A46 (((nth qK.z l27 x28).f1).length) c47]) ?_)
   rintro _ u51 a ⟨rfl, hb49, hS, hz⟩ hE
   refine pld (hK38 _ _ ?_)
   refine drawn 9 ⟨[8], [], fun q => False⟩ mixed rfl (by kernel_rfl) (fun hst => ?_)
   replace hS := hS.drew
   have hb2 := hS.blk_at (i := 1) rfl
   have hb49 := hS.blk_at (i := 0) rfl
   refine mny 4 hst hE (.r 0 1 <| .b 1 5 hb2 <| .r 2 2 <| .b 4 1 hb49 <| .nil) (fun a hE => ?_)
   obtain ⟨t53, h54, H⟩ := bd H
   refine on1 5 hE (.cl en112 (qAN.calls ((nth qK.z l27 x28).f1) _ _ _ _ _ hS.own.sub g48 h54)) ?_
   rintro _ u52 a ⟨F55, A56, c57, rfl, hC⟩ hE
   refine ⟨.of hC.agr, ?_⟩
   have hs := hC.sub
   replace hS := hS.called (X := []) hC
   replace g48 := g48.mono hs
   replace g0_6 := g0_6.mono hs
   have hr60 := hS.row_at (i := 5) rfl
   have c61 : 0 ≤ x28 ∧ x28 < (l27.length : Int) := by rw [← (qCF hr60).1]; exact c39
   have hr_ := hS.row_at (i := 5) rfl
   obtain ⟨cs63, ⟨A65, c66, rfl, g67⟩, hc64⟩ := qCG hr_ qK.z x28 c61.1 c61.2
   refine mny 1 hst hE (.x 6 c39 <| .r 7 1 <| .nil) (fun a hE => ?_)
   obtain ⟨F69, hs, g70, hS⟩ := hS.give
   replace g48 := g48.mono hs
   replace g0_6 := g0_6.mono hs
   replace hS := hS.front 4 rfl
   obtain ⟨cs74, ⟨A71, c72, rfl, g73⟩, hc75⟩ := qCG (hS.row_at (i := 0) rfl) qK.z x28 c61.1 c61.2
   refine on1 8 hE (.set (d := qK.k) (n := t16.length) (i := x28) (⟨(nth qK.z l27 x28).f0, t53⟩ : qK) 1 (ea1 _ _ _) hS c61 [.int .i64 ((nth qK.z l27 x28).f0), .slice A71 (((nth qK.z l27 x28).f1).length) c72] hc75 [.int .i64 ((nth qK.z l27 x28).f0), .slice A56 t53.length c57] ⟨_, _, rfl, g70⟩) ?_
   rintro _ u68 a ⟨rfl, hS, hz⟩ hE
   refine ⟨.d, ?_⟩
   refine dn ?_
   refine qCD ?_
   refine hK37 _ _ (pl0 (plc hE (.r 0 2 .nil) (fun a hE => pld ?_)))
   replace hS := hS.front 1 rfl
   replace hS := hS.tail
   replace hS := hS.front 3 rfl
   replace hS := hS.front 3 rfl
   replace hS := hS.front 3 rfl
   exact qCE ⟨k32, by omega, _, (l27.set (x28).toNat (⟨(nth qK.z l27 x28).f0, t53⟩ : qK)), (w64 (x28 + 1)), F69, by omega, hE, .of, hS, g0_6, H⟩
  ·
   replace hE := hE.kf 19 c36
   refine cf hE ?_
   refine wp_exit ?_
   refine hK25 _ _ (sq fun K76 hK76 => pl0 ?_)
   have hb2 := hS.blk_at (i := 0) rfl
   refine plc hE (.r 0 1 <| .b 1 6 hb2 <| .nil) (fun a hE => ?_)
   obtain ⟨t78, h79, H⟩ := bd H
   refine ple hE (.cl en130 (qAV.calls x0_.f6 _ _ _ _ _ hS.own.sub g0_6 h79)) ?_
   rintro _ u77 a ⟨F80, A81, c82, rfl, hC⟩ hE
   have hs := hC.sub
   replace hS := hS.called (X := []) hC
   replace g0_6 := g0_6.mono hs
   refine plc hE (.r 3 1 .nil) (fun a hE => ?_)
   replace hS := hS.front 1 rfl
   refine ple hE (.sto hS [.int .i64 x0_.f0, .int .i64 x0_.f1, .int .i64 x0_.f2, .int .i64 x0_.f3, .slice A11 t8.length c12, .slice A19 t16.length c20, .slice A81 t78.length c82]) ?_
   rintro _ u85 a ⟨rfl, hb2, hS, hz⟩ hE
   refine pld (hK76 _ _ (sq fun K86 hK86 => sq fun K87 hK87 => pl0 (plc hE (.r 0 1 <| .b 1 6 hb2 <| .r 2 2 <| .nil) (fun a hE => pld (hK87 _ _ (wp_block ?_))))))
   replace hS := hS.front 1 rfl
   replace hS := hS.front 4 rfl
   replace hS := hS.front 4 rfl
   replace hS := hS.front 4 rfl
   replace hS := hS.front 4 rfl
   refine wp_loop_ghost (fun kq92 a w' => ∃ (G : Nat → Value) (l88 : List qC) (x89 : Int) (F90 : World), kq92 ≤ k32 ∧ Env 54 G a ∧ At G [(1, .pointer (some ⟨b2, 0, none⟩)), (2, .pointer (some ⟨b4, 0, none⟩)), (37, .slice A81 t78.length c82), (38, .int .i64 (t78.length : Int)), (39, .int .i64 x89)] ∧ St W (mine W []) F w' F90 [box b2 #[.int .i64 x0_.f0, .int .i64 x0_.f1, .int .i64 x0_.f2, .int .i64 x0_.f3, .slice A11 t8.length c12, .slice A19 t16.length c20, .slice A81 t78.length c82] 26, box b4 #[.int .i64 0, .int .i64 0, .int .i64 0, .int .i64 0, .slice none 0 0, .slice none 0 0, .slice none 0 0] 26, row qA.k 104 (.slice A11 t8.length c12) t8, row qK.k 97 (.slice A19 t16.length c20) l27, row qC.k 49 (.slice A81 t78.length c82) l88] ∧  qAo.l91 kq92 x0_ t8 l27 t78 l88 x89 = some r) k32 ⟨_, t78, 0, F80, Nat.le_refl _, hE, .of, hS, H⟩ ?_
   rintro kq92 a u94 ⟨G, l88, x89, F90, hkq, hE, hA, hS, H⟩
   cases kq92 with
   | zero => cases (show none = some r from H)
   | succ k93 =>
    rw [qAo.l91_s] at H
    obtain ⟨J, hE⟩ := hE.at hA
    refine sq fun K95 hK95 => pl0 (plc hE (.r 0 1 .nil) (fun a hE => pld (hK95 _ _ (sq fun K96 hK96 => ?_))))
    rcases sp H with ⟨c97, H⟩ | ⟨c97, H⟩
    ·
     replace hE := hE.kt 40 c97
     refine ct hE (wp_skip (hK96 _ _ (sq fun K98 hK98 => wp_block (sq fun K99 hK99 => pl0 ?_))))
     obtain ⟨c100, H⟩ := gd H
     have hr101 := hS.row_at (i := 4) rfl
     have c102 : 0 ≤ x89 ∧ x89 < (l88.length : Int) := by rw [← (qCF hr101).1]; exact c100
     have hE_ := hE
     obtain ⟨b103, rfl⟩ := qCI hr101 c102.1 c102.2
     replace hE := hE_
     have hr_ := hS.row_at (i := 4) rfl
     obtain ⟨cs105, ⟨A107, c108, rfl, g109⟩, hc106⟩ := qCG hr_ qC.z x89 c102.1 c102.2
     refine plc hE (.r 0 1 <| .x 1 c100 <| .cs 2 hc106 <| .nil) (fun a hE => ple hE (.al (t := 49) hS [.int .i64 0, .slice none 0 0]) ?_)
     rintro _ u111 a ⟨b110, rfl, hb110, hS, hg⟩ hE
     refine plc hE (.r 4 1 .nil) (fun a hE => ple hE (.sto hS [.int .i64 ((nth qC.z l88 x89).f0), .slice A107 (((nth qC.z l88 x89).f1).length) c108]) ?_)
     rintro _ u112 a ⟨rfl, hb110, hS, hz⟩ hE
     refine pld (hK99 _ _ ?_)
     refine drawn 9 ⟨[8], [], fun q => False⟩ mixed rfl (by kernel_rfl) (fun hst => ?_)
     replace hS := hS.drew
     have hb2 := hS.blk_at (i := 1) rfl
     have hb110 := hS.blk_at (i := 0) rfl
     refine mny 4 hst hE (.r 0 1 <| .b 1 6 hb2 <| .r 2 2 <| .b 4 1 hb110 <| .nil) (fun a hE => ?_)
     obtain ⟨t114, h115, H⟩ := bd H
     refine on1 5 hE (.cl en131 (qBO.calls k93 ((nth qC.z l88 x89).f1) _ _ _ _ _ hS.own.sub g109 h115)) ?_
     rintro _ u113 a ⟨F116, A117, c118, rfl, hC⟩ hE
     refine ⟨.of hC.agr, ?_⟩
     have hs := hC.sub
     replace hS := hS.called (X := []) hC
     replace g109 := g109.mono hs
     have hr121 := hS.row_at (i := 6) rfl
     have c122 : 0 ≤ x89 ∧ x89 < (l88.length : Int) := by rw [← (qCF hr121).1]; exact c100
     have hr_ := hS.row_at (i := 6) rfl
     obtain ⟨cs124, ⟨A126, c127, rfl, g128⟩, hc125⟩ := qCG hr_ qC.z x89 c122.1 c122.2
     refine mny 1 hst hE (.x 6 c100 <| .r 7 1 <| .nil) (fun a hE => ?_)
     obtain ⟨F130, hs, g131, hS⟩ := hS.give
     replace g109 := g109.mono hs
     replace hS := hS.front 5 rfl
     obtain ⟨cs135, ⟨A132, c133, rfl, g134⟩, hc136⟩ := qCG (hS.row_at (i := 0) rfl) qC.z x89 c122.1 c122.2
     refine on1 8 hE (.set (d := qC.k) (n := t78.length) (i := x89) (⟨(nth qC.z l88 x89).f0, t114⟩ : qC) 1 (ea1 _ _ _) hS c122 [.int .i64 ((nth qC.z l88 x89).f0), .slice A132 (((nth qC.z l88 x89).f1).length) c133] hc136 [.int .i64 ((nth qC.z l88 x89).f0), .slice A117 t114.length c118] ⟨_, _, rfl, g131⟩) ?_
     rintro _ u129 a ⟨rfl, hS, hz⟩ hE
     refine ⟨.d, ?_⟩
     refine dn ?_
     refine qCD ?_
     refine hK98 _ _ (pl0 (plc hE (.r 0 2 .nil) (fun a hE => pld ?_)))
     replace hS := hS.front 1 rfl
     replace hS := hS.tail
     replace hS := hS.front 4 rfl
     replace hS := hS.front 4 rfl
     replace hS := hS.front 4 rfl
     replace hS := hS.front 4 rfl
     exact qCE ⟨k93, by omega, _, (l88.set (x89).toNat (⟨(nth qC.z l88 x89).f0, t114⟩ : qC)), (w64 (x89 + 1)), F130, by omega, hE, .of, hS, H⟩
    ·
     replace hE := hE.kf 40 c97
     refine cf hE ?_
     refine wp_exit ?_
     refine hK86 _ _ (sq fun K137 hK137 => pl0 ?_)
     have hb2 := hS.blk_at (i := 0) rfl
     refine plc hE (.bn 0 0 7 hb2 .nil) (fun a hE => ?_)
     replace hS := hS.front 1 rfl
     refine ple hE (.sto hS [.int .i64 x0_.f0, .int .i64 x0_.f1, .int .i64 x0_.f2, .int .i64 x0_.f3, .slice A11 t8.length c12, .slice A19 t16.length c20, .slice A81 t78.length c82]) ?_
     rintro _ u138 a ⟨rfl, hb4, hS, hz⟩ hE
     refine pld (hK137 _ _ (wp_ret ?_))
     have hn139 := (qCF (hS.row_at (i := 3) rfl)).1
     replace hS : St W (mine W []) F u138 F90 [box b4 #[.int .i64 x0_.f0, .int .i64 x0_.f1, .int .i64 x0_.f2, .int .i64 x0_.f3, .slice A11 t8.length c12, .slice A19 l27.length c20, .slice A81 t78.length c82] 26, box b2 #[.int .i64 x0_.f0, .int .i64 x0_.f1, .int .i64 x0_.f2, .int .i64 x0_.f3, .slice A11 t8.length c12, .slice A19 l27.length c20, .slice A81 t78.length c82] 26, row qA.k 104 (.slice A11 t8.length c12) t8, row qK.k 97 (.slice A19 l27.length c20) l27, row qC.k 49 (.slice A81 t78.length c82) l88] := by rw [← hn139]; exact hS
     have hn140 := (qCF (hS.row_at (i := 4) rfl)).1
     replace hS : St W (mine W []) F u138 F90 [box b4 #[.int .i64 x0_.f0, .int .i64 x0_.f1, .int .i64 x0_.f2, .int .i64 x0_.f3, .slice A11 t8.length c12, .slice A19 l27.length c20, .slice A81 l88.length c82] 26, box b2 #[.int .i64 x0_.f0, .int .i64 x0_.f1, .int .i64 x0_.f2, .int .i64 x0_.f3, .slice A11 t8.length c12, .slice A19 l27.length c20, .slice A81 l88.length c82] 26, row qA.k 104 (.slice A11 t8.length c12) t8, row qK.k 97 (.slice A19 l27.length c20) l27, row qC.k 49 (.slice A81 l88.length c82) l88] := by rw [← hn140]; exact hS
     have hb4 := hS.blk_at (i := 0) rfl
     replace hS := hS.tail
     replace hS := hS.tail
     obtain rfl := si H
     exact ret1 hE rfl (.cell (by kernel_rfl) (qCH [.int .i64 x0_.f0, .int .i64 x0_.f1, .int .i64 x0_.f2, .int .i64 x0_.f3, .slice A11 t8.length c12, .slice A19 l27.length c20, .slice A81 l88.length c82] ag26 sz26 hb4 rfl) .nil) ⟨_, rfl, _, _, _, _, _, _, _, rfl, hS⟩
def qBL.f (x0_ : Int) : Option Bool := some (!(x0_ == x0_))
def qBL.Post (W F : World) (r : Bool) (v : Value) (w' : World) : Prop := ∃ (F' : World), v = .bool r ∧ St W (mine W []) F w' F' []
theorem qBL.calls (x0_ : Int) (r : Bool) (W F : World) (hown : Sub F W) (H : qBL.f x0_ = some r) :
    Calls Tryz.prog 202 #[.int .i64 x0_] W fun e w' => ∃ v, e = .returned v ∧ qBL.Post W F r v w' := by
 have hS := St.start (Own.nil hown)
 unfold qBL.f at H
 refine enter (n := 6) rfl rfl rfl (Nat.le_of_ble_eq_true rfl) (fun a hE => ?_)
 refine sq fun K1 hK1 => pl0 (plc hE (.r 0 1 .nil) (fun a hE => pld (hK1 _ _ (sq fun K2 hK2 => pl0 (plc hE (.r 0 4 .nil) (fun a hE => pld (hK2 _ _ (wp_ret ?_))))))))
 obtain rfl := si H
 exact rt1 hE ⟨_, rfl, _, rfl, hS⟩
def qAk.f (x0_ : Int) (x1_ : Int) : Option Int := (qBL.f x0_).bind fun t4 => ((qBL.f x1_).bind fun t8 => (if t4 = true then (if t8 = true then (some 0) else (some (-1))) else (if t8 = true then (some 1) else (if x0_ < x1_ then (some (-1)) else (if x0_ > x1_ then (some 1) else (some 0))))))
def qAk.Post (W F : World) (r : Int) (v : Value) (w' : World) : Prop := ∃ (F' : World), v = .int .i64 r ∧ St W (mine W []) F w' F' []
theorem qAk.calls (x0_ : Int) (x1_ : Int) (r : Int) (W F : World) (hown : Sub F W) (H : qAk.f x0_ x1_ = some r) :
    Calls Tryz.prog 161 #[.int .i64 x0_, .int .i64 x1_] W fun e w' => ∃ v, e = .returned v ∧ qAk.Post W F r v w' := by
 have hS := St.start (Own.nil hown)
 unfold qAk.f at H
 refine enter (n := 20) rfl rfl rfl (Nat.le_of_ble_eq_true rfl) (fun a hE => ?_)
 refine sq fun K1 hK1 => pl0 (plc hE (.r 0 1 .nil) (fun a hE => pld (hK1 _ _ (sq fun K2 hK2 => pl0 (plc hE (.r 0 1 .nil) (fun a hE => ?_))))))
 obtain ⟨t4, h5, H⟩ := bd H
 refine ple hE (.cl en202 (qBL.calls x0_ _ _ _ hS.own.sub h5)) ?_
 rintro _ u3 a ⟨_, rfl, hC⟩ hE
 replace hS := hS.lent hC
 refine plc hE (.r 2 1 .nil) (fun a hE => pld (hK2 _ _ (sq fun K6 hK6 => pl0 (plc hE (.r 0 1 .nil) (fun a hE => ?_)))))
 obtain ⟨t8, h9, H⟩ := bd H
 refine ple hE (.cl en202 (qBL.calls x1_ _ _ _ hS.own.sub h9)) ?_
 rintro _ u7 a ⟨_, rfl, hC⟩ hE
 replace hS := hS.lent hC
 refine plc hE (.r 2 1 .nil) (fun a hE => pld (hK6 _ _ (sq fun K10 hK10 => sq fun K11 hK11 => pl0 (plc hE (.r 0 1 .nil) (fun a hE => pld (hK11 _ _ ?_))))))
 rcases sp H with ⟨c12, H⟩ | ⟨c12, H⟩
 ·
  replace hE := hE.bt 11 c12
  refine ct hE (sq fun K13 hK13 => sq fun K14 hK14 => pl0 (plc hE (.r 0 1 .nil) (fun a hE => pld (hK14 _ _ ?_))))
  rcases sp H with ⟨c15, H⟩ | ⟨c15, H⟩
  ·
   replace hE := hE.bt 12 c15
   refine ct hE (sq fun K16 hK16 => pl0 (plc hE (.r 0 1 .nil) (fun a hE => pld (hK16 _ _ (wp_ret (qCB (qCB ?_)))))))
   obtain rfl := si H
   exact rt1 hE ⟨_, rfl, _, rfl, hS⟩
  ·
   replace hE := hE.bf 12 c15
   refine cf hE (wp_skip (hK13 _ _ (sq fun K17 hK17 => pl0 (plc hE (.r 0 1 .nil) (fun a hE => pld (hK17 _ _ (wp_ret (qCB ?_))))))))
   obtain rfl := si H
   exact rt1 hE ⟨_, rfl, _, rfl, hS⟩
 ·
  replace hE := hE.bf 11 c12
  refine cf hE (wp_skip (hK10 _ _ (sq fun K18 hK18 => sq fun K19 hK19 => pl0 (plc hE (.r 0 1 .nil) (fun a hE => pld (hK19 _ _ ?_))))))
  rcases sp H with ⟨c20, H⟩ | ⟨c20, H⟩
  ·
   replace hE := hE.bt 13 c20
   refine ct hE (sq fun K21 hK21 => pl0 (plc hE (.r 0 1 .nil) (fun a hE => pld (hK21 _ _ (wp_ret (qCB ?_))))))
   obtain rfl := si H
   exact rt1 hE ⟨_, rfl, _, rfl, hS⟩
  ·
   replace hE := hE.bf 13 c20
   refine cf hE (wp_skip (hK18 _ _ (sq fun K22 hK22 => sq fun K23 hK23 => pl0 (plc hE (.r 0 3 .nil) (fun a hE => pld (hK23 _ _ ?_))))))
   rcases sp H with ⟨c24, H⟩ | ⟨c24, H⟩
   ·
    replace hE := hE.kt 16 c24
    refine ct hE (sq fun K25 hK25 => pl0 (plc hE (.r 0 1 .nil) (fun a hE => pld (hK25 _ _ (wp_ret (qCB ?_))))))
    obtain rfl := si H
    exact rt1 hE ⟨_, rfl, _, rfl, hS⟩
   ·
    replace hE := hE.kf 16 c24
    refine cf hE (wp_skip (hK22 _ _ (sq fun K26 hK26 => sq fun K27 hK27 => pl0 (plc hE (.r 0 3 .nil) (fun a hE => pld (hK27 _ _ ?_))))))
    rcases sp H with ⟨c28, H⟩ | ⟨c28, H⟩
    ·
     replace hE := hE.kt 19 c28
     refine ct hE (sq fun K29 hK29 => pl0 (plc hE (.r 0 1 .nil) (fun a hE => pld (hK29 _ _ (wp_ret (qCB ?_))))))
     obtain rfl := si H
     exact rt1 hE ⟨_, rfl, _, rfl, hS⟩
    ·
     replace hE := hE.kf 19 c28
     refine cf hE (wp_skip (hK26 _ _ (sq fun K30 hK30 => pl0 (plc hE (.r 0 1 .nil) (fun a hE => pld (hK30 _ _ (wp_ret ?_)))))))
     obtain rfl := si H
     exact rt1 hE ⟨_, rfl, _, rfl, hS⟩
def qBn.f (x0_ : qA) (x1_ : Int) : Option Int := (qAk.f x0_.f0 x1_).bind fun t6 => (some t6)
def qBn.Post (W F : World) (r : Int) (v : Value) (w' : World) : Prop := ∃ (F' : World), v = .int .i64 r ∧ St W (mine W []) F w' F' []
theorem qBn.calls (x0_ : qA) (x1_ : Int) (r : Int) (W F : World) (hown : Sub F W) (H : qBn.f x0_ x1_ = some r) :
    Calls Tryz.prog 179 #[.agg #[.int .i64 x0_.f0, .int .i64 x0_.f1, .int .i64 x0_.f2, .int .i64 x0_.f3, .bool x0_.f4, .bool x0_.f5], .int .i64 x1_] W fun e w' => ∃ v, e = .returned v ∧ qBn.Post W F r v w' := by
 have hS := St.start (Own.nil hown)
 unfold qBn.f at H
 refine enter (n := 9) rfl rfl rfl (Nat.le_of_ble_eq_true rfl) (fun a hE => ?_)
 refine sq fun K1 hK1 => pl0 (ple hE (.bx (t := 104) hS [.int .i64 x0_.f0, .int .i64 x0_.f1, .int .i64 x0_.f2, .int .i64 x0_.f3, .bool x0_.f4, .bool x0_.f5]) ?_)
 rintro _ u3 a ⟨b2, rfl, hb2, hS, hg⟩ hE
 refine plc hE (.r 1 1 .nil) (fun a hE => pld (hK1 _ _ (sq fun K4 hK4 => pl0 (plc hE (.r 0 1 <| .b 1 0 hb2 <| .r 2 1 <| .nil) (fun a hE => ?_)))))
 obtain ⟨t6, h7, H⟩ := bd H
 refine ple hE (.cl en161 (qAk.calls x0_.f0 x1_ _ _ _ hS.own.sub h7)) ?_
 rintro _ u5 a ⟨_, rfl, hC⟩ hE
 replace hS := hS.lent hC
 refine plc hE (.r 4 1 .nil) (fun a hE => pld (hK4 _ _ (wp_ret ?_)))
 replace hS := hS.tail
 obtain rfl := si H
 exact rt1 hE ⟨_, rfl, _, rfl, hS⟩
def qV.l7 : Nat → List qA → Int → Int → Int → Option (Int × Bool)
  | 0, _, _, _, _ => none
  | k + 1, x0_, x1_, x5, x6 => if x5 < x6 then (if 0 ≤ (w64 ((IntKind.u64.wrap (w64 (x5 + x6))).fdiv 2)) ∧ (w64 ((IntKind.u64.wrap (w64 (x5 + x6))).fdiv 2)) < (x0_.length : Int) then ((qBn.f (⟨(nth qA.z x0_ (w64 ((IntKind.u64.wrap (w64 (x5 + x6))).fdiv 2))).f0, (nth qA.z x0_ (w64 ((IntKind.u64.wrap (w64 (x5 + x6))).fdiv 2))).f1, (nth qA.z x0_ (w64 ((IntKind.u64.wrap (w64 (x5 + x6))).fdiv 2))).f2, (nth qA.z x0_ (w64 ((IntKind.u64.wrap (w64 (x5 + x6))).fdiv 2))).f3, (nth qA.z x0_ (w64 ((IntKind.u64.wrap (w64 (x5 + x6))).fdiv 2))).f4, (nth qA.z x0_ (w64 ((IntKind.u64.wrap (w64 (x5 + x6))).fdiv 2))).f5⟩ : qA) x1_).bind fun t22 => (if t22 < 0 then (qV.l7 k x0_ x1_ (w64 ((w64 ((IntKind.u64.wrap (w64 (x5 + x6))).fdiv 2)) + 1)) x6) else (qV.l7 k x0_ x1_ x5 (w64 ((IntKind.u64.wrap (w64 (x5 + x6))).fdiv 2))))) else (none)) else (if x5 < (x0_.length : Int) then (if 0 ≤ x5 ∧ x5 < (x0_.length : Int) then ((qBn.f (⟨(nth qA.z x0_ x5).f0, (nth qA.z x0_ x5).f1, (nth qA.z x0_ x5).f2, (nth qA.z x0_ x5).f3, (nth qA.z x0_ x5).f4, (nth qA.z x0_ x5).f5⟩ : qA) x1_).bind fun t33 => (some (x5, (t33 == 0)))) else (none)) else (some (x5, false)))
theorem qV.l7_s (k : Nat) (x0_ : List qA) (x1_ : Int) (x5 : Int) (x6 : Int) : qV.l7 (k + 1) x0_ x1_ x5 x6 = (if x5 < x6 then (if 0 ≤ (w64 ((IntKind.u64.wrap (w64 (x5 + x6))).fdiv 2)) ∧ (w64 ((IntKind.u64.wrap (w64 (x5 + x6))).fdiv 2)) < (x0_.length : Int) then ((qBn.f (⟨(nth qA.z x0_ (w64 ((IntKind.u64.wrap (w64 (x5 + x6))).fdiv 2))).f0, (nth qA.z x0_ (w64 ((IntKind.u64.wrap (w64 (x5 + x6))).fdiv 2))).f1, (nth qA.z x0_ (w64 ((IntKind.u64.wrap (w64 (x5 + x6))).fdiv 2))).f2, (nth qA.z x0_ (w64 ((IntKind.u64.wrap (w64 (x5 + x6))).fdiv 2))).f3, (nth qA.z x0_ (w64 ((IntKind.u64.wrap (w64 (x5 + x6))).fdiv 2))).f4, (nth qA.z x0_ (w64 ((IntKind.u64.wrap (w64 (x5 + x6))).fdiv 2))).f5⟩ : qA) x1_).bind fun t22 => (if t22 < 0 then (qV.l7 k x0_ x1_ (w64 ((w64 ((IntKind.u64.wrap (w64 (x5 + x6))).fdiv 2)) + 1)) x6) else (qV.l7 k x0_ x1_ x5 (w64 ((IntKind.u64.wrap (w64 (x5 + x6))).fdiv 2))))) else (none)) else (if x5 < (x0_.length : Int) then (if 0 ≤ x5 ∧ x5 < (x0_.length : Int) then ((qBn.f (⟨(nth qA.z x0_ x5).f0, (nth qA.z x0_ x5).f1, (nth qA.z x0_ x5).f2, (nth qA.z x0_ x5).f3, (nth qA.z x0_ x5).f4, (nth qA.z x0_ x5).f5⟩ : qA) x1_).bind fun t33 => (some (x5, (t33 == 0)))) else (none)) else (some (x5, false)))) := by kernel_rfl
def qV.f (k : Nat) (x0_ : List qA) (x1_ : Int) : Option (Int × Bool) := qV.l7 k x0_ x1_ 0 (x0_.length : Int)
def qV.Post (W F : World) (r : Int × Bool) (v : Value) (w' : World) : Prop := ∃ (F' : World), v = .tuple #[.int .i64 r.1, .bool r.2] ∧ St W (mine W []) F w' F' []
theorem qV.calls (k : Nat) (x0_ : List qA) (x1_ : Int) (A0_0 : Option Addr) (c0_0 : Nat) (r : Int × Bool) (W F : World) (hown : Sub F W) (g0_0 : Rd qA.k F A0_0 c0_0 x0_) (H : qV.f k x0_ x1_ = some r) :
    Calls Tryz.prog 173 #[.slice A0_0 x0_.length c0_0, .int .i64 x1_, .func (.func 179) #[] #[]] W fun e w' => ∃ v, e = .returned v ∧ qV.Post W F r v w' := by
 have hS := St.start (Own.nil hown)
 unfold qV.f at H
 refine enter (n := 49) rfl rfl rfl (Nat.le_of_ble_eq_true rfl) (fun a hE => ?_)
 refine sq fun K1 hK1 => pl0 (plc hE (.r 0 2 .nil) (fun a hE => pld (hK1 _ _ (sq fun K2 hK2 => pl0 (plc hE (.r 0 3 .nil) (fun a hE => pld (hK2 _ _ (sq fun K3 hK3 => pl0 (plc hE (.r 0 3 .nil) (fun a hE => pld (hK3 _ _ (sq fun K4 hK4 => wp_block ?_))))))))))))
 refine wp_loop_ghost (fun kq8 a w' => ∃ (G : Nat → Value) (x5 : Int) (x6 : Int), kq8 ≤ k ∧ Env 49 G a ∧ At G [(0, .slice A0_0 x0_.length c0_0), (1, .int .i64 x1_), (2, .func (.func 179) #[] #[]), (8, .int .i64 (x0_.length : Int)), (9, .int .i64 x5), (10, .int .i64 x6)] ∧ St W (mine W []) F w' F [] ∧  qV.l7 kq8 x0_ x1_ x5 x6 = some r) k ⟨_, 0, (x0_.length : Int), Nat.le_refl _, hE, .of, hS, H⟩ ?_
 rintro kq8 a u10 ⟨G, x5, x6, hkq, hE, hA, hS, H⟩
 cases kq8 with
 | zero => cases (show none = some r from H)
 | succ k9 =>
  rw [qV.l7_s] at H
  obtain ⟨J, hE⟩ := hE.at hA
  refine sq fun K11 hK11 => sq fun K12 hK12 => pl0 (plc hE (.r 0 3 .nil) (fun a hE => pld (hK12 _ _ ?_)))
  rcases sp H with ⟨c13, H⟩ | ⟨c13, H⟩
  ·
   replace hE := hE.kt 17 c13
   refine ct hE (wp_skip (hK11 _ _ (wp_block (sq fun K14 hK14 => pl0 (plc hE (.r 0 7 .nil) (fun a hE => pld (hK14 _ _ (sq fun K15 hK15 => pl0 ?_))))))))
   obtain ⟨c16, H⟩ := gd H
   have hE_ := hE
   obtain ⟨ad17, rfl⟩ := g0_0.addr c16.1 c16.2
   replace hE := hE_
   obtain ⟨cs19, rfl, hc20⟩ := g0_0.el qA.z (w64 ((IntKind.u64.wrap (w64 (x5 + x6))).fdiv 2)) c16.1 c16.2
   refine plc hE (.r 0 3 <| .x 3 c16 <| .cs 4 (hS.fcs hc20) <| .r 5 1 <| .nil) (fun a hE => ?_)
   obtain ⟨t22, h23, H⟩ := bd H
   refine ple hE (.cl en179 (qBn.calls (⟨(nth qA.z x0_ (w64 ((IntKind.u64.wrap (w64 (x5 + x6))).fdiv 2))).f0, (nth qA.z x0_ (w64 ((IntKind.u64.wrap (w64 (x5 + x6))).fdiv 2))).f1, (nth qA.z x0_ (w64 ((IntKind.u64.wrap (w64 (x5 + x6))).fdiv 2))).f2, (nth qA.z x0_ (w64 ((IntKind.u64.wrap (w64 (x5 + x6))).fdiv 2))).f3, (nth qA.z x0_ (w64 ((IntKind.u64.wrap (w64 (x5 + x6))).fdiv 2))).f4, (nth qA.z x0_ (w64 ((IntKind.u64.wrap (w64 (x5 + x6))).fdiv 2))).f5⟩ : qA) x1_ _ _ _ hS.own.sub h23)) ?_
   rintro _ u21 a ⟨_, rfl, hC⟩ hE
   replace hS := hS.lent hC
   refine plc hE (.r 7 1 .nil) (fun a hE => pld (hK15 _ _ ?_))
   rcases sp H with ⟨c24, H⟩ | ⟨c24, H⟩
   ·
    replace hE := hE.kt 31 c24
    refine ct hE (pl0 (plc hE (.r 0 3 .nil) (fun a hE => pld ?_)))
    refine qCD ?_
    exact qCE ⟨k9, by omega, _, (w64 ((w64 ((IntKind.u64.wrap (w64 (x5 + x6))).fdiv 2)) + 1)), x6, by omega, hE, .of, hS, H⟩
   ·
    replace hE := hE.kf 31 c24
    refine cf hE (pl0 (plc hE (.r 0 2 .nil) (fun a hE => pld ?_)))
    refine qCD ?_
    exact qCE ⟨k9, by omega, _, x5, (w64 ((IntKind.u64.wrap (w64 (x5 + x6))).fdiv 2)), by omega, hE, .of, hS, H⟩
  ·
   replace hE := hE.kf 17 c13
   refine cf hE ?_
   refine wp_exit ?_
   refine hK4 _ _ (sq fun K25 hK25 => pl0 (plc hE (.r 0 5 .nil) (fun a hE => ?_)))
   rcases sp H with ⟨c26, H⟩ | ⟨c26, H⟩
   ·
    replace hE := hE.kt 39 c26
    obtain ⟨c27, H⟩ := gd H
    have hE_ := hE
    obtain ⟨ad28, rfl⟩ := g0_0.addr c27.1 c27.2
    replace hE := hE_
    obtain ⟨cs30, rfl, hc31⟩ := g0_0.el qA.z x5 c27.1 c27.2
    refine plc hE (.r 5 3 <| .x 8 c27 <| .cs 9 (hS.fcs hc31) <| .r 10 1 <| .nil) (fun a hE => ?_)
    obtain ⟨t33, h34, H⟩ := bd H
    refine ple hE (.cl en179 (qBn.calls (⟨(nth qA.z x0_ x5).f0, (nth qA.z x0_ x5).f1, (nth qA.z x0_ x5).f2, (nth qA.z x0_ x5).f3, (nth qA.z x0_ x5).f4, (nth qA.z x0_ x5).f5⟩ : qA) x1_ _ _ _ hS.own.sub h34)) ?_
    rintro _ u32 a ⟨_, rfl, hC⟩ hE
    replace hS := hS.lent hC
    refine plc hE (.r 12 4 .nil) (fun a hE => pld (hK25 _ _ (wp_ret ?_)))
    obtain rfl := si H
    exact rtN hE ⟨_, rfl, _, rfl, hS⟩
   ·
    replace hE := hE.kf 39 c26
    refine plc hE (.r 5 11 .nil) (fun a hE => pld (hK25 _ _ (wp_ret ?_)))
    obtain rfl := si H
    exact rtN hE ⟨_, rfl, _, rfl, hS⟩
def qBx.f (k : Nat) (x0_ : qJ) (x1_ : Int) : Option (Int × Bool) := (qV.f k x0_.f4 x1_).bind fun t6 => (some (t6.1, t6.2))
def qBx.Post (W F : World) (r : Int × Bool) (v : Value) (w' : World) : Prop := ∃ (F' : World), v = .tuple #[.int .i64 r.1, .bool r.2] ∧ St W (mine W []) F w' F' []
theorem qBx.calls (k : Nat) (x0_ : qJ) (x1_ : Int) (A0_4 : Option Addr) (c0_4 : Nat) (A0_5 : Option Addr) (c0_5 : Nat) (A0_6 : Option Addr) (c0_6 : Nat) (r : Int × Bool) (W F : World) (hown : Sub F W) (g0_4 : Rd qA.k F A0_4 c0_4 x0_.f4) (g0_5 : Rd qK.k F A0_5 c0_5 x0_.f5) (g0_6 : Rd qC.k F A0_6 c0_6 x0_.f6) (H : qBx.f k x0_ x1_ = some r) :
    Calls Tryz.prog 135 #[.agg #[.int .i64 x0_.f0, .int .i64 x0_.f1, .int .i64 x0_.f2, .int .i64 x0_.f3, .slice A0_4 x0_.f4.length c0_4, .slice A0_5 x0_.f5.length c0_5, .slice A0_6 x0_.f6.length c0_6], .int .i64 x1_] W fun e w' => ∃ v, e = .returned v ∧ qBx.Post W F r v w' := by
 have hS := St.start (Own.nil hown)
 unfold qBx.f at H
 refine enter (n := 12) rfl rfl rfl (Nat.le_of_ble_eq_true rfl) (fun a hE => ?_)
 refine sq fun K1 hK1 => pl0 (ple hE (.bx (t := 26) hS [.int .i64 x0_.f0, .int .i64 x0_.f1, .int .i64 x0_.f2, .int .i64 x0_.f3, .slice A0_4 x0_.f4.length c0_4, .slice A0_5 x0_.f5.length c0_5, .slice A0_6 x0_.f6.length c0_6]) ?_)
 rintro _ u3 a ⟨b2, rfl, hb2, hS, hg⟩ hE
 refine plc hE (.r 1 2 .nil) (fun a hE => pld (hK1 _ _ (sq fun K4 hK4 => pl0 (plc hE (.r 0 1 <| .b 1 4 hb2 <| .r 2 1 <| .nil) (fun a hE => ?_)))))
 obtain ⟨t6, h7, H⟩ := bd H
 refine ple hE (.cl en173 (qV.calls k x0_.f4 x1_ _ _ _ _ _ hS.own.sub g0_4 h7)) ?_
 rintro _ u5 a ⟨_, rfl, hC⟩ hE
 replace hS := hS.lent hC
 refine plc hE (.r 4 4 .nil) (fun a hE => pld (hK4 _ _ (wp_ret ?_)))
 replace hS := hS.tail
 obtain rfl := si H
 exact rtN hE ⟨_, rfl, _, rfl, hS⟩
def qAf.f (x0_ : List qA) (x1_ : Int) (x2_ : List qA) : Option (List qA) := match x2_ with
  | [x] => if 0 ≤ x1_ ∧ x1_ ≤ (x0_.length : Int) ∧ x0_.length ≤ 1000000 then some (x0_.take x1_.toNat ++ x :: x0_.drop x1_.toNat) else none
  | _ => none
def qAf.Post (x0_ : List qA) (x1_ : Int) (x2_ : List qA) (A0_0 : Option Addr) (c0_0 : Nat) (A2_0 : Option Addr) (c2_0 : Nat) (W F : World) (r : List qA) (v : Value) (w' : World) : Prop := ∃ (F' : World) (RA0_0 : Option Addr) (rc0_0 : Nat), v = .slice RA0_0 r.length rc0_0 ∧ St W (mine W [row qA.k 104 (.slice A0_0 x0_.length c0_0) x0_, row qA.k 104 (.slice A2_0 x2_.length c2_0) x2_]) F w' F' [row qA.k 104 (.slice RA0_0 r.length rc0_0) r]
set_option maxHeartbeats 4000000 in
set_option maxRecDepth 100000 in
theorem qAf.calls (x0_ : List qA) (x1_ : Int) (x2_ : List qA) (A0_0 : Option Addr) (c0_0 : Nat) (A2_0 : Option Addr) (c2_0 : Nat) (r : List qA) (W F : World) (hown : Own W F [row qA.k 104 (.slice A0_0 x0_.length c0_0) x0_, row qA.k 104 (.slice A2_0 x2_.length c2_0) x2_]) (H : qAf.f x0_ x1_ x2_ = some r) :
    Calls Tryz.prog 176 #[.slice A0_0 x0_.length c0_0, .int .i64 x1_, .slice A2_0 x2_.length c2_0] W fun e w' => ∃ v, e = .returned v ∧ qAf.Post x0_ x1_ x2_ A0_0 c0_0 A2_0 c2_0 W F r v w' := by
  have hS := St.start hown
  unfold qAf.f at H
  rcases x2_ with _ | ⟨x, _ | ⟨y, l⟩⟩
  · cases H
  rotate_left
  · cases H
  replace H : (if 0 ≤ x1_ ∧ x1_ ≤ (x0_.length : Int) ∧ x0_.length ≤ 1000000 then some (x0_.take x1_.toNat ++ x :: x0_.drop x1_.toNat) else none) = some r := H
  by_cases hc : 0 ≤ x1_ ∧ x1_ ≤ (x0_.length : Int) ∧ x0_.length ≤ 1000000
  rotate_left
  · rw [if_neg hc] at H; cases H
  rw [if_pos hc] at H
  have hr := Option.some.inj H
  clear H
  obtain ⟨h0, h1, hm⟩ := hc
  obtain ⟨j, rfl⟩ : ∃ j : Nat, x1_ = j := ⟨x1_.toNat, by omega⟩
  simp only [Int.toNat_natCast] at hr
  refine enter (n := 95) rfl rfl rfl (Nat.le_of_ble_eq_true rfl) (fun a hE => ?_)
  obtain ⟨A12, c12, hA12, hv12⟩ := y_suf (P := Tryz.prog) (k := .i64) (hS.row_at (i := 0) rfl) ⟨h0, h1⟩
  refine sq fun K0 hK0 => ?_
  refine pl0 ?_
  refine plc hE (.r 0 1 .nil) (fun a hE => ?_)
  refine pld ?_
  refine hK0 _ _ ?_
  refine sq fun K1 hK1 => ?_
  refine pl0 ?_
  refine plc hE (.r 0 2 <| .y 2 (hv12 (by kernel_rfl)) .nil) (fun a hE => ?_)
  refine pld ?_
  refine hK1 _ _ ?_
  refine sq fun K2 hK2 => ?_
  refine pl0 ?_
  refine plc hE (.r 0 3 .nil) (fun a hE => ?_)
  refine pld ?_
  refine hK2 _ _ ?_
  refine sq fun K3 hK3 => ?_
  refine sq fun K4 hK4 => ?_
  refine pl0 ?_
  refine plc hE (.r 0 2 .nil) (fun a hE => ?_)
  refine pld ?_
  refine hK4 _ _ ?_
  refine cf hE ?_
  refine wp_skip ?_
  refine hK3 _ _ ?_
  refine sq fun K5 hK5 => ?_
  refine pl0 ?_
  refine plc hE (.r 0 3 .nil) (fun a hE => ?_)
  refine pld ?_
  refine hK5 _ _ ?_
  refine sq fun K6 hK6 => ?_
  refine sq fun K7 hK7 => ?_
  refine pl0 ?_
  refine plc hE (.r 0 3 .nil) (fun a hE => ?_)
  refine pld ?_
  refine hK7 _ _ ?_
  by_cases hi : (j : Int) = (x0_.length : Int)
  · replace hE := hE.kt 22 hi
    refine ct hE ?_
    obtain rfl : j = x0_.length := by omega
    obtain rfl : x0_ ++ [x] = r := by rw [← hr]; simp
    refine sq fun K8 hK8 => ?_
    refine pl0 ?_
    refine plc hE (.r 0 2 .nil) (fun a hE => ?_)
    refine ple hE (.ap (d := qA.k) 40 hS (qCM (hS.row_at (i := 1) rfl)) (by simp only [List.length_cons, List.length_nil]; omega) c2_0) ?_
    rintro _ w1 a ⟨A1, c1, rfl, hS, hz⟩ hE
    refine plc hE (.r 3 1 .nil) (fun a hE => ?_)
    refine pld ?_
    refine hK8 _ _ ?_
    refine wp_ret (qCB ?_)
    replace hS := hS.front 1 rfl
    replace hS := hS.tail
    exact rt1 hE ⟨_, rfl, F, _, _, rfl, hS⟩
  replace hE := hE.kf 22 hi
  refine cf hE ?_
  refine wp_skip ?_
  refine hK6 _ _ ?_
  have hlt : j < x0_.length := by omega
  have hxc : x0_.length ≤ c0_0 ∧ c0_0 ≤ maxLen := by
    obtain ⟨_, q1, q2, _⟩ := qCF (hS.row_at (i := 0) rfl)
    exact ⟨q1, q2⟩
  have hxc2 : [x].length ≤ c2_0 := (qCF (hS.row_at (i := 1) rfl)).2.1
  have hE_ := hE
  obtain ⟨g, cur, rfl, hsz, hrep, hS⟩ := hS.unrow (by omega)
  replace hS := hS.front 1 rfl
  obtain ⟨g2, cur2, rfl, hsz2, hrep2, hS⟩ := hS.unrow (by simp)
  replace hE := hE_
  have hne : g2 ≠ g := hS.ne (i := 0) (j := 1) rfl rfl (by decide)
  obtain ⟨cs, hcs⟩ : ∃ cs, cs = cur2.toList.take 6 := ⟨_, rfl⟩
  have hx : (qA.k).K F x cs := by
    have h5 := hrep2.2 0 x rfl
    rw [Nat.zero_mul, List.drop_zero, List.take_take] at h5
    rw [hcs]
    exact h5
  have hcl : cs.length = 6 := (qA.k).len hx
  have hcget : ∀ q u, cs[q]? = some u → cur2[q]? = some u := fun q u hq => by
    rw [hcs, List.getElem?_take] at hq
    split at hq
    · rwa [Array.getElem?_toList] at hq
    · cases hq
  have hcone : ∀ u ∈ cs, u.oneCell' = true := (qA.k).one hx
  obtain ⟨inner, hin⟩ : ∃ inner, inner = cur.toList.take (x0_.length * 6) := ⟨_, rfl⟩
  replace hrep : RepsK qA.k F x0_ inner := by rw [hin]; exact hrep
  have hil : inner.length = x0_.length * 6 := hrep.1
  have hione : ∀ u ∈ inner.drop (j * 6), u.oneCell' = true := fun u hu => hrep.one u (List.mem_of_mem_drop hu)
  have hidl : (inner.drop (j * 6)).length = (x0_.length - j) * 6 := by rw [List.length_drop, hil, Nat.sub_mul]
  have higet : ∀ q u, (inner.drop (j * 6))[q]? = some u → cur[j * 6 + q]? = some u := fun q u hq => by
    rw [List.getElem?_drop, hin, List.getElem?_take] at hq
    split at hq
    · rwa [Array.getElem?_toList] at hq
    · cases hq
  replace hsz : cur.size = c0_0 * 6 := hsz
  have hw1 : w64 ((x0_.length : Int) + (([x].length : Nat) : Int)) = ((x0_.length + 1 : Nat) : Int) := by
    simp only [List.length_cons, List.length_nil]
    rw [qCJ (by omega) (by omega)]
    omega
  have hw2 : w64 ((j : Int) + (([x].length : Nat) : Int)) = ((j + 1 : Nat) : Int) := by
    simp only [List.length_cons, List.length_nil]
    rw [qCJ (by omega) (by omega)]
    omega
  refine sq fun K9 hK9 => ?_
  refine sq fun K10 hK10 => ?_
  refine pl0 ?_
  refine plc hE (.r 0 4 <| .y 4 (y_cap (A := some ⟨g, 0, none⟩) (n := x0_.length) (c := c0_0)) <| .r 5 1 .nil) (fun a hE => ?_)
  refine pld ?_
  refine hK10 _ _ ?_
  by_cases hroom : w64 ((x0_.length : Int) + (([x].length : Nat) : Int)) > (c0_0 : Int)
  · replace hE := hE.kt 31 hroom
    rw [hw1] at hroom
    refine ct hE ?_
    have hw3 : w64 (w64 ((x0_.length : Int) + (([x].length : Nat) : Int)) - (j : Int)) = ((x0_.length + 1 - j : Nat) : Int) := by
      rw [hw1, qCJ (by omega) (by omega)]
      omega
    refine sq fun K11 hK11 => ?_
    refine pl0 ?_
    refine plc hE (.r 0 2 <| .y 2 (y_hi (e := 104) (z := 6) (g := g) (n := x0_.length) (c := c0_0) (k := .i64) (hi := (j : Int)) ⟨by omega, by omega⟩) <| .r 3 5 .nil) (fun a hE => ?_)
    refine ple hE (.gro (e := 104) (g := g) (c := c0_0) (j := j) (z := 6) (bytes := 40) (k := w64 (w64 ((x0_.length : Int) + (([x].length : Nat) : Int)) - (j : Int))) hS (hS.blk_at (i := 1) rfl) (by omega) (by omega) (by rw [hsz]; exact Nat.mul_le_mul_right _ (by omega)) (by rw [hw3]; omega) (by kernel_rfl)) ?_
    rintro _ w1 a ⟨b, arr, cc, rfl, has, hc1, hc2, hpre, hS, hag⟩ hE
    rw [hw3] at hc1 hE
    have hnb : g2 ≠ b := hS.ne (i := 1) (j := 0) rfl rfl (by decide)
    have hgb : g ≠ b := hS.ne (i := 2) (j := 0) rfl rfl (by decide)
    have hk3 : j + ((x0_.length + 1 - j : Nat) : Int).toNat = x0_.length + 1 := by rw [Int.toNat_natCast]; omega
    rw [hk3] at hc1 hE
    have hpi : arr.toList.take (j * 6) = inner.take (j * 6) := by
      rw [hpre, hin, List.take_take, Nat.min_eq_left (Nat.mul_le_mul_right _ (by omega))]
    obtain ⟨s1, s2, s3⟩ := qDY (sz := 6) (n := x0_.length) (i := j) (cap := cc) (c0 := arr.toList) (inner := inner) (cs := cs) hpi hil hcl (by omega) hc1 (by rw [Array.length_toList]; exact has)
    obtain ⟨C1, hC1⟩ : ∃ C1, C1 = arr.toList.take (j * 6) ++ cs ++ arr.toList.drop (j * 6 + cs.length) := ⟨_, rfl⟩
    rw [← hC1] at s1 s2 s3
    obtain ⟨C2, hC2⟩ : ∃ C2, C2 = C1.take ((j + 1) * 6) ++ inner.drop (j * 6) ++ C1.drop ((j + 1) * 6 + (inner.drop (j * 6)).length) := ⟨_, rfl⟩
    rw [← hC2] at s1 s2
    refine plc hE (.r 9 1 .nil) (fun a hE => ?_)
    refine pld ?_
    refine hK11 _ _ ?_
    refine sq fun K12 hK12 => ?_
    refine pl0 ?_
    refine plc hE (.r 0 2 <| .y 2 (y_lo (e := 104) (z := 6) (g := b) (n := x0_.length + 1) (c := cc) (k := .i64) (lo := (j : Int)) ⟨by omega, by omega⟩ (by omega)) <| .r 3 1 .nil) (fun a hE => ?_)
    have hb2 := hS.blk_at (i := 1) rfl
    have hbg := hS.blk_at (i := 2) rfl
    have hmin1 : Nat.min [x].length (x0_.length + 1 - (j : Int).toNat) = 1 := by
      rw [Int.toNat_natCast]
      simp only [List.length_cons, List.length_nil]
      exact Nat.min_eq_left (by omega)
    refine ple hE (.cpy (e := 104) (z := 6) (off := (j : Int).toNat * 6) (dn := x0_.length + 1 - (j : Int).toNat) (dc := cc - (j : Int).toNat) (sn := [x].length) (sc := c2_0) (sa := ⟨g2, 0, none⟩) hS cs (by rw [hmin1, hcl]) (fun q u hq => by rw [qCQ, Nat.zero_add]; exact qCL hb2 (hcget q u hq)) hcone (by
      rw [Int.toNat_natCast, has, hcl]
      have := Nat.mul_le_mul_right 6 (show j + 1 ≤ cc by omega)
      omega) (by kernel_rfl)) ?_
    rintro _ w2 a ⟨rfl, hS, hz, hnew, hoth⟩ hE
    simp only [Int.toNat_natCast] at hS hnew
    rw [← hC1] at hS hnew
    refine pld ?_
    refine hK12 _ _ ?_
    refine sq fun K13 hK13 => ?_
    refine drawn 9 ⟨[8], [], fun q => False⟩ mixed rfl (by kernel_rfl) (fun hst => ?_)
    replace hS := hS.drew
    have hbg2 := hS.blk_at (i := 2) rfl
    refine mny 1 hst hE (.r 0 4 <| .y 4 (y_lo (e := 104) (z := 6) (g := b) (n := x0_.length + 1) (c := cc) (k := .i64) (lo := w64 ((j : Int) + (([x].length : Nat) : Int))) ⟨by omega, by omega⟩ (by omega)) <| .r 5 2 <| .y 7 (y_lo (e := 104) (z := 6) (g := g) (n := x0_.length) (c := c0_0) (k := .i64) (lo := (j : Int)) ⟨by omega, by omega⟩ (by omega)) .nil) (fun a hE => ?_)
    refine on1 8 hE (.cpy (e := 104) (z := 6) (off := (w64 ((j : Int) + (([x].length : Nat) : Int))).toNat * 6) (dn := x0_.length + 1 - (w64 ((j : Int) + (([x].length : Nat) : Int))).toNat) (dc := cc - (w64 ((j : Int) + (([x].length : Nat) : Int))).toNat) (sn := x0_.length - (j : Int).toNat) (sc := c0_0 - (j : Int).toNat) (sa := ⟨g, (j : Int).toNat * 6, none⟩) hS (inner.drop (j * 6)) (by
      rw [hw2, Int.toNat_natCast, Int.toNat_natCast, hidl, show x0_.length + 1 - (j + 1) = x0_.length - j by omega]
      congr 1
      exact (Nat.min_self _).symm) (fun q u hq => by rw [qCQ, Int.toNat_natCast]; exact qCL hbg2 (higet q u hq)) hione (by
      rw [hw2, Int.toNat_natCast, hidl, List.size_toArray, s3, ← Nat.add_mul]
      exact Nat.mul_le_mul_right _ (by omega)) (by kernel_rfl)) ?_
    rintro _ w3 a ⟨rfl, hS, hz, hnew, hoth⟩ hE
    refine ⟨.d, ?_⟩
    refine dn ?_
    rw [hw2, Int.toNat_natCast] at hS
    simp only [List.toList_toArray] at hS
    rw [← hC2] at hS
    refine hK13 _ _ ?_
    refine sq fun K14 hK14 => ?_
    refine pl0 ?_
    refine plc hE (.r 0 2 .nil) (fun a hE => ?_)
    refine pld ?_
    refine hK14 _ _ ?_
    refine wp_ret (qCB ?_)
    have hrl : r.length = x0_.length + 1 := by rw [← hr]; simp; omega
    have hrr : RepsK qA.k F r (C2.toArray.toList.take (r.length * (qA.k).sz)) := by
      rw [hrl]
      show RepsK qA.k F r (C2.take ((x0_.length + 1) * 6))
      rw [s1, ← hr]
      exact qCb hrep hx (by omega) rfl
    have hS2 := hS.rerow (c := cc) r (show C2.toArray.size = cc * 6 by simpa using s2) (by omega) hc2 hrr
    replace hS2 := hS2.front 1 rfl
    replace hS2 := hS2.tail
    replace hS2 := hS2.front 1 rfl
    replace hS2 := hS2.tail
    rw [← hrl] at hE
    exact rt1 hE ⟨_, rfl, F, _, _, rfl, hS2⟩
  replace hE := hE.kf 31 hroom
  rw [hw1] at hroom
  have hrm : x0_.length + 1 ≤ c0_0 := by omega
  refine cf hE ?_
  refine wp_skip ?_
  refine hK9 _ _ ?_
  obtain ⟨s1, s2, s3⟩ := qDu (sz := 6) (n := x0_.length) (i := j) (cap := c0_0) (cur := cur.toList) (inner := inner) (cs := cs) hin.symm hcl (by omega) hrm (by rw [Array.length_toList]; exact hsz)
  obtain ⟨C1, hC1⟩ : ∃ C1, C1 = cur.toList.take ((j + 1) * 6) ++ inner.drop (j * 6) ++ cur.toList.drop ((j + 1) * 6 + (inner.drop (j * 6)).length) := ⟨_, rfl⟩
  rw [← hC1] at s1 s2 s3
  obtain ⟨C2, hC2⟩ : ∃ C2, C2 = C1.take (j * 6) ++ cs ++ C1.drop (j * 6 + cs.length) := ⟨_, rfl⟩
  rw [← hC2] at s1 s2
  refine sq fun K15 hK15 => ?_
  refine pl0 ?_
  refine plc hE (.r 0 4 <| .y 4 (y_hi (e := 104) (z := 6) (g := g) (n := x0_.length) (c := c0_0) (k := .i64) (hi := w64 ((x0_.length : Int) + (([x].length : Nat) : Int))) ⟨by omega, by omega⟩) <| .r 5 1 .nil) (fun a hE => ?_)
  refine pld ?_
  refine hK15 _ _ ?_
  have hn1 : (w64 ((x0_.length : Int) + (([x].length : Nat) : Int))).toNat = x0_.length + 1 := by rw [hw1, Int.toNat_natCast]
  rw [hn1] at hE
  refine sq fun K16 hK16 => ?_
  refine sq fun K17 hK17 => ?_
  refine pl0 ?_
  refine plc hE (.r 0 5 <| .y 5 (y_lo (e := 104) (z := 6) (g := g) (n := x0_.length + 1) (c := c0_0) (k := .i64) (lo := w64 ((j : Int) + (([x].length : Nat) : Int))) ⟨by omega, by omega⟩ (by omega)) .nil) (fun a hE => ?_)
  have hb2 := hS.blk_at (i := 0) rfl
  have hbg := hS.blk_at (i := 1) rfl
  have hcz : cur.size ≠ 0 := by rw [hsz]; exact Nat.mul_ne_zero (by omega) (by decide)
  refine ple hE (.ext (f := 210) (args := [.slice (some ⟨g2, 0, none⟩) [x].length c2_0, .slice (some ⟨g, (w64 ((j : Int) + (([x].length : Nat) : Int))).toNat * 6, none⟩) (x0_.length + 1 - (w64 ((j : Int) + (([x].length : Nat) : Int))).toNat) (c0_0 - (w64 ((j : Int) + (([x].length : Nat) : Int))).toNat)]) (v := .bool false) (R := fun v w' => v = .bool false ∧ w' = _) (by
    rw [run_callFunc_extern Tryz.func210 (by kernel_rfl) (by kernel_rfl) (by kernel_rfl) (e := Extern.SlicesOverlaps.overlaps #[22, 22] #[4]) (by kernel_rfl)]
    refine (congrArg (fun r : Result Value => r.andThen fun v w' => Result.ok (Next.value v) w') (Lib.run_overlaps_apart _ 22 4 104 Tryz.underlying22 6 (fun _ => by kernel_rfl) ⟨g2, 0, none⟩ ⟨g, (w64 ((j : Int) + (([x].length : Nat) : Int))).toNat * 6, none⟩ [x].length c2_0 _ _ hne 104 104 cur2.size cur.size (by simp [World.shape?, hb2]) (by simp [World.shape?, hbg]) hcz (by simp [World.frozen?, hb2]) (by simp [World.frozen?, hb2]))).trans rfl) ⟨rfl, rfl⟩) ?_
  rintro _ _ a ⟨rfl, rfl⟩ hE
  refine plc hE (.r 7 1 .nil) (fun a hE => ?_)
  refine pld ?_
  refine hK17 _ _ ?_
  refine ct hE ?_
  refine sq fun K18 hK18 => ?_
  refine drawn 9 ⟨[8], [], fun q => False⟩ mixed rfl (by kernel_rfl) (fun hst => ?_)
  replace hS := hS.drew
  replace hS := hS.front 1 rfl
  have hbg2 := hS.blk_at (i := 0) rfl
  refine mny 1 hst hE (.r 0 4 <| .y 4 (y_lo (e := 104) (z := 6) (g := g) (n := x0_.length + 1) (c := c0_0) (k := .i64) (lo := w64 ((j : Int) + (([x].length : Nat) : Int))) ⟨by omega, by omega⟩ (by omega)) <| .r 5 2 <| .y 7 (y_lo (e := 104) (z := 6) (g := g) (n := x0_.length + 1) (c := c0_0) (k := .i64) (lo := (j : Int)) ⟨by omega, by omega⟩ (by omega)) .nil) (fun a hE => ?_)
  refine on1 8 hE (.cpy (e := 104) (z := 6) (off := (w64 ((j : Int) + (([x].length : Nat) : Int))).toNat * 6) (dn := x0_.length + 1 - (w64 ((j : Int) + (([x].length : Nat) : Int))).toNat) (dc := c0_0 - (w64 ((j : Int) + (([x].length : Nat) : Int))).toNat) (sn := x0_.length + 1 - (j : Int).toNat) (sc := c0_0 - (j : Int).toNat) (sa := ⟨g, (j : Int).toNat * 6, none⟩) hS (inner.drop (j * 6)) (by
    rw [hw2, Int.toNat_natCast, Int.toNat_natCast, hidl, show x0_.length + 1 - (j + 1) = x0_.length - j by omega]
    congr 1
    exact (Nat.min_eq_right (by omega)).symm) (fun q u hq => by rw [qCQ, Int.toNat_natCast]; exact qCL hbg2 (higet q u hq)) hione (by
    rw [hw2, Int.toNat_natCast, hidl, hsz, ← Nat.add_mul]
    exact Nat.mul_le_mul_right _ (by omega)) (by kernel_rfl)) ?_
  rintro _ w2 a ⟨rfl, hS, hz, hnew, hoth⟩ hE
  refine ⟨.d, ?_⟩
  refine dn ?_
  rw [hw2, Int.toNat_natCast, ← hC1] at hS
  refine hK18 _ _ ?_
  refine sq fun K19 hK19 => ?_
  refine pl0 ?_
  have hb3 := hS.blk_at (i := 1) rfl
  refine plc hE (.r 0 2 <| .y 2 (y_lo (e := 104) (z := 6) (g := g) (n := x0_.length + 1) (c := c0_0) (k := .i64) (lo := (j : Int)) ⟨by omega, by omega⟩ (by omega)) <| .r 3 1 .nil) (fun a hE => ?_)
  have hmin1 : Nat.min [x].length (x0_.length + 1 - (j : Int).toNat) = 1 := by
    rw [Int.toNat_natCast]
    simp only [List.length_cons, List.length_nil]
    exact Nat.min_eq_left (by omega)
  refine ple hE (.cpy (e := 104) (z := 6) (off := (j : Int).toNat * 6) (dn := x0_.length + 1 - (j : Int).toNat) (dc := c0_0 - (j : Int).toNat) (sn := [x].length) (sc := c2_0) (sa := ⟨g2, 0, none⟩) hS cs (by rw [hmin1, hcl]) (fun q u hq => by rw [qCQ, Nat.zero_add]; exact qCL hb3 (hcget q u hq)) hcone (by
    rw [Int.toNat_natCast, List.size_toArray, s3, hcl]
    have := Nat.mul_le_mul_right 6 (show j + 1 ≤ c0_0 by omega)
    omega) (by kernel_rfl)) ?_
  rintro _ w3 a ⟨rfl, hS, hz, hnew, hoth⟩ hE
  simp only [Int.toNat_natCast, List.toList_toArray] at hS
  rw [← hC2] at hS
  refine pld ?_
  refine hK19 _ _ ?_
  refine sq fun K20 hK20 => ?_
  refine pl0 ?_
  refine plc hE (.r 0 2 .nil) (fun a hE => ?_)
  refine pld ?_
  refine hK20 _ _ ?_
  refine wp_ret (qCB ?_)
  have hrl : r.length = x0_.length + 1 := by rw [← hr]; simp; omega
  have hrr : RepsK qA.k F r (C2.toArray.toList.take (r.length * (qA.k).sz)) := by
    rw [hrl]
    show RepsK qA.k F r (C2.take ((x0_.length + 1) * 6))
    rw [s1, ← hr]
    exact qCb hrep hx (by omega) rfl
  have hS2 := hS.rerow (c := c0_0) r (show C2.toArray.size = c0_0 * 6 by simpa using s2) (by omega) hxc.2 hrr
  replace hS2 := hS2.front 1 rfl
  replace hS2 := hS2.tail
  rw [← hrl] at hE
  exact rt1 hE ⟨_, rfl, F, _, _, rfl, hS2⟩
def qBy.f (k : Nat) (x0_ : qJ) (x1_ : qAm) : Option (qJ × Int) := (qBx.f k x0_ x1_.f1).bind fun t10 => (if t10.2 = true then (some (x0_, 7)) else (if (x0_.f4.length : Int) = 12 then (some (x0_, 6)) else ((qAf.f x0_.f4 t10.1 [(⟨x1_.f1, x1_.f2, x1_.f3, x1_.f4, false, true⟩ : qA)]).bind fun t27 => ((qAG.f k t27).bind fun t37 => (some ((⟨x0_.f0, x0_.f1, x0_.f2, x0_.f3, t27, x0_.f5, x0_.f6⟩ : qJ), t37))))))
def qBy.Post (x0_ : qJ) (x1_ : qAm) (A0_4 : Option Addr) (c0_4 : Nat) (A0_5 : Option Addr) (c0_5 : Nat) (A0_6 : Option Addr) (c0_6 : Nat) (A1_6 : Option Addr) (c1_6 : Nat) (W F : World) (r : qJ × Int) (v : Value) (w' : World) : Prop := ∃ (F' : World) (RA0_4 : Option Addr) (rc0_4 : Nat) (RA0_5 : Option Addr) (rc0_5 : Nat) (RA0_6 : Option Addr) (rc0_6 : Nat), v = .tuple #[.agg #[.int .i64 r.1.f0, .int .i64 r.1.f1, .int .i64 r.1.f2, .int .i64 r.1.f3, .slice RA0_4 r.1.f4.length rc0_4, .slice RA0_5 r.1.f5.length rc0_5, .slice RA0_6 r.1.f6.length rc0_6], .int .i64 r.2] ∧ St W (mine W [row qA.k 104 (.slice A0_4 x0_.f4.length c0_4) x0_.f4]) F w' F' [row qA.k 104 (.slice RA0_4 r.1.f4.length rc0_4) r.1.f4] ∧ Rd qK.k F' RA0_5 rc0_5 r.1.f5 ∧ Rd qC.k F' RA0_6 rc0_6 r.1.f6
theorem qBy.calls (k : Nat) (x0_ : qJ) (x1_ : qAm) (A0_4 : Option Addr) (c0_4 : Nat) (A0_5 : Option Addr) (c0_5 : Nat) (A0_6 : Option Addr) (c0_6 : Nat) (A1_6 : Option Addr) (c1_6 : Nat) (r : qJ × Int) (W F : World) (hown : Own W F [row qA.k 104 (.slice A0_4 x0_.f4.length c0_4) x0_.f4]) (g0_5 : Rd qK.k F A0_5 c0_5 x0_.f5) (g0_6 : Rd qC.k F A0_6 c0_6 x0_.f6) (g1_6 : Rd (Kn.int .i64) F A1_6 c1_6 x1_.f6) (H : qBy.f k x0_ x1_ = some r) :
    Calls Tryz.prog 132 #[.agg #[.int .i64 x0_.f0, .int .i64 x0_.f1, .int .i64 x0_.f2, .int .i64 x0_.f3, .slice A0_4 x0_.f4.length c0_4, .slice A0_5 x0_.f5.length c0_5, .slice A0_6 x0_.f6.length c0_6], .agg #[.int .i64 x1_.f0, .int .i64 x1_.f1, .int .i64 x1_.f2, .int .i64 x1_.f3, .int .i64 x1_.f4, .int .i64 x1_.f5, .slice A1_6 x1_.f6.length c1_6]] W fun e w' => ∃ v, e = .returned v ∧ qBy.Post x0_ x1_ A0_4 c0_4 A0_5 c0_5 A0_6 c0_6 A1_6 c1_6 W F r v w' := by
 have hS := St.start hown
 obtain ⟨N, hN⟩ : ∃ N, N = mine W [row qA.k 104 (.slice A0_4 x0_.f4.length c0_4) x0_.f4] := ⟨_, rfl⟩
 rw [← hN] at hS
 unfold qBy.f at H
 refine enter (n := 43) rfl rfl rfl (Nat.le_of_ble_eq_true rfl) (fun a hE => ?_)
 refine sq fun K1 hK1 => pl0 (ple hE (.bx (t := 26) hS [.int .i64 x0_.f0, .int .i64 x0_.f1, .int .i64 x0_.f2, .int .i64 x0_.f3, .slice A0_4 x0_.f4.length c0_4, .slice A0_5 x0_.f5.length c0_5, .slice A0_6 x0_.f6.length c0_6]) ?_)
 rintro _ u3 a ⟨b2, rfl, hb2, hS, hg⟩ hE
 refine ple hE (.bx (t := 40) hS [.int .i64 x1_.f0, .int .i64 x1_.f1, .int .i64 x1_.f2, .int .i64 x1_.f3, .int .i64 x1_.f4, .int .i64 x1_.f5, .slice A1_6 x1_.f6.length c1_6]) ?_
 rintro _ u5 a ⟨b4, rfl, hb4, hS, hg⟩ hE
 refine ple hE (.al (t := 26) hS [.int .i64 0, .int .i64 0, .int .i64 0, .int .i64 0, .slice none 0 0, .slice none 0 0, .slice none 0 0]) ?_
 rintro _ u7 a ⟨b6, rfl, hb6, hS, hg⟩ hE
 refine plc hE (.r 3 1 .nil) (fun a hE => pld (hK1 _ _ (sq fun K8 hK8 => pl0 ?_)))
 have hb2 := hS.blk_at (i := 2) rfl
 have hb4 := hS.blk_at (i := 1) rfl
 refine plc hE (.bn 0 0 7 hb2 <| .r 1 1 <| .b 2 1 hb4 <| .nil) (fun a hE => ?_)
 obtain ⟨t10, h11, H⟩ := bd H
 refine ple hE (.cl en135 (qBx.calls k x0_ x1_.f1 _ _ _ _ _ _ _ _ _ (Sub.refl _) (hS.rd_at (i := 3) rfl) (g0_5.mono hS.own.sub) (g0_6.mono hS.own.sub) h11)) ?_
 rintro _ u9 a ⟨_, rfl, hC⟩ hE
 replace hS := hS.lent hC
 refine plc hE (.r 4 5 .nil) (fun a hE => pld (hK8 _ _ (sq fun K12 hK12 => wp_block (sq fun K13 hK13 => pl0 (plc hE (.r 0 2 .nil) (fun a hE => pld (hK13 _ _ ?_)))))))
 rcases sp H with ⟨c14, H⟩ | ⟨c14, H⟩
 ·
  replace hE := hE.bt 15 c14
  refine ct hE (sq fun K15 hK15 => pl0 ?_)
  have hb2 := hS.blk_at (i := 2) rfl
  refine plc hE (.bn 0 0 7 hb2 .nil) (fun a hE => ple hE (.sto hS [.int .i64 x0_.f0, .int .i64 x0_.f1, .int .i64 x0_.f2, .int .i64 x0_.f3, .slice A0_4 x0_.f4.length c0_4, .slice A0_5 x0_.f5.length c0_5, .slice A0_6 x0_.f6.length c0_6]) ?_)
  rintro _ u16 a ⟨rfl, hb6, hS, hz⟩ hE
  refine plc hE (.r 2 1 .nil) (fun a hE => pld (hK15 _ _ (wp_ret (qCC (qCB ?_)))))
  replace hS := hS.tail
  replace hS := hS.tail
  replace hS := hS.tail
  rw [hN] at hS
  obtain rfl := si H
  exact retN hE rfl (of_decide_eq_true rfl) (.cell (by kernel_rfl) (qCH [.int .i64 x0_.f0, .int .i64 x0_.f1, .int .i64 x0_.f2, .int .i64 x0_.f3, .slice A0_4 x0_.f4.length c0_4, .slice A0_5 x0_.f5.length c0_5, .slice A0_6 x0_.f6.length c0_6] ag26 sz26 hb6 rfl) (.tmp (by kernel_rfl) .nil)) ⟨_, rfl, _, _, _, _, _, _, _, rfl, hS, g0_5, g0_6⟩
 ·
  replace hE := hE.bf 15 c14
  refine cf hE (sq fun K17 hK17 => pl0 ?_)
  have hb2 := hS.blk_at (i := 2) rfl
  refine plc hE (.r 0 1 <| .b 1 4 hb2 <| .r 2 3 <| .nil) (fun a hE => pld (hK17 _ _ ?_))
  rcases sp H with ⟨c18, H⟩ | ⟨c18, H⟩
  ·
   replace hE := hE.kt 18 c18
   refine ct hE (sq fun K19 hK19 => pl0 (plc hE (.bn 0 0 7 hb2 .nil) (fun a hE => ple hE (.sto hS [.int .i64 x0_.f0, .int .i64 x0_.f1, .int .i64 x0_.f2, .int .i64 x0_.f3, .slice A0_4 x0_.f4.length c0_4, .slice A0_5 x0_.f5.length c0_5, .slice A0_6 x0_.f6.length c0_6]) ?_)))
   rintro _ u20 a ⟨rfl, hb6, hS, hz⟩ hE
   refine plc hE (.r 2 1 .nil) (fun a hE => pld (hK19 _ _ (wp_ret (qCC (qCB ?_)))))
   replace hS := hS.tail
   replace hS := hS.tail
   replace hS := hS.tail
   rw [hN] at hS
   obtain rfl := si H
   exact retN hE rfl (of_decide_eq_true rfl) (.cell (by kernel_rfl) (qCH [.int .i64 x0_.f0, .int .i64 x0_.f1, .int .i64 x0_.f2, .int .i64 x0_.f3, .slice A0_4 x0_.f4.length c0_4, .slice A0_5 x0_.f5.length c0_5, .slice A0_6 x0_.f6.length c0_6] ag26 sz26 hb6 rfl) (.tmp (by kernel_rfl) .nil)) ⟨_, rfl, _, _, _, _, _, _, _, rfl, hS, g0_5, g0_6⟩
  ·
   replace hE := hE.kf 18 c18
   refine cf hE (wp_skip ?_)
   refine qCD ?_
   refine hK12 _ _ (sq fun K21 hK21 => pl0 ?_)
   have hb4 := hS.blk_at (i := 1) rfl
   refine plc hE (.r 0 1 <| .b 1 4 hb2 <| .r 2 2 <| .b 4 1 hb4 <| .r 5 1 <| .b 6 2 hb4 <| .r 7 1 <| .b 8 3 hb4 <| .r 9 1 <| .b 10 4 hb4 <| .r 11 1 <| .nil) (fun a hE => ple hE (.lit (d := qA.k) (e := 104) hS [(⟨x1_.f1, x1_.f2, x1_.f3, x1_.f4, false, true⟩ : qA)] (.cons rfl .nil)) ?_)
   rintro _ u22 a ⟨A23, c24, rfl, hS, hg⟩ hE
   replace hS := hS.front 4 rfl
   obtain ⟨t27, h28, H⟩ := bd H
   refine ple hE (.cl en176 (qAf.calls x0_.f4 t10.1 [(⟨x1_.f1, x1_.f2, x1_.f3, x1_.f4, false, true⟩ : qA)] _ _ _ _ _ _ _ (Own.left (X := [row qA.k 104 (.slice A0_4 x0_.f4.length c0_4) x0_.f4, row qA.k 104 (.slice A23 ([(⟨x1_.f1, x1_.f2, x1_.f3, x1_.f4, false, true⟩ : qA)].length) c24) [(⟨x1_.f1, x1_.f2, x1_.f3, x1_.f4, false, true⟩ : qA)]]) hS.own) h28)) ?_
   rintro _ u26 a ⟨F29, A30, c31, rfl, hC⟩ hE
   have hs := hC.sub
   replace hS := hS.called (X := [row qA.k 104 (.slice A0_4 x0_.f4.length c0_4) x0_.f4, row qA.k 104 (.slice A23 ([(⟨x1_.f1, x1_.f2, x1_.f3, x1_.f4, false, true⟩ : qA)].length) c24) [(⟨x1_.f1, x1_.f2, x1_.f3, x1_.f4, false, true⟩ : qA)]]) hC
   replace g0_5 := g0_5.mono hs
   replace g0_6 := g0_6.mono hs
   replace g1_6 := g1_6.mono hs
   refine plc hE (.r 14 1 .nil) (fun a hE => ?_)
   replace hS := hS.front 3 rfl
   refine ple hE (.sto hS [.int .i64 x0_.f0, .int .i64 x0_.f1, .int .i64 x0_.f2, .int .i64 x0_.f3, .slice A30 t27.length c31, .slice A0_5 x0_.f5.length c0_5, .slice A0_6 x0_.f6.length c0_6]) ?_
   rintro _ u34 a ⟨rfl, hb2, hS, hz⟩ hE
   refine pld (hK21 _ _ (sq fun K35 hK35 => ?_))
   refine drawn 6 ⟨[4], [], fun q => False⟩ mixed rfl (by kernel_rfl) (fun hst => ?_)
   replace hS := hS.drew
   have hb2 := hS.blk_at (i := 0) rfl
   refine mny 3 hst hE (.bn 0 0 7 hb2 <| .r 1 1 <| .b 2 4 hb2 <| .nil) (fun a hE => ?_)
   obtain ⟨t37, h38, H⟩ := bd H
   refine on1 3 hE (.cl en80 (qAG.calls k t27 _ _ _ _ _ (Sub.refl _) (hS.rd_at (i := 1) rfl) h38)) ?_
   rintro _ u36 a ⟨_, rfl, hC⟩ hE
   refine ⟨.of hC.agr, ?_⟩
   replace hS := hS.lent hC
   replace hS := hS.front 2 rfl
   refine on1 4 hE (.sto hS [.int .i64 x0_.f0, .int .i64 x0_.f1, .int .i64 x0_.f2, .int .i64 x0_.f3, .slice A30 t27.length c31, .slice A0_5 x0_.f5.length c0_5, .slice A0_6 x0_.f6.length c0_6]) ?_
   rintro _ u39 a ⟨rfl, hb6, hS, hz⟩ hE
   refine ⟨.d, ?_⟩
   refine mny 0 hst hE (.r 5 1 .nil) (fun a hE => ?_)
   refine dn ?_
   refine hK35 _ _ (wp_ret ?_)
   replace hS := hS.tail
   replace hS := hS.tail
   replace hS := hS.front 1 rfl
   replace hS := hS.tail
   rw [hN] at hS
   obtain rfl := si H
   exact retN hE rfl (of_decide_eq_true rfl) (.cell (by kernel_rfl) (qCH [.int .i64 x0_.f0, .int .i64 x0_.f1, .int .i64 x0_.f2, .int .i64 x0_.f3, .slice A30 t27.length c31, .slice A0_5 x0_.f5.length c0_5, .slice A0_6 x0_.f6.length c0_6] ag26 sz26 hb6 rfl) (.tmp (by kernel_rfl) .nil)) ⟨_, rfl, _, _, _, _, _, _, _, rfl, hS, g0_5, g0_6⟩
set_option maxRecDepth 100000 in
theorem qBz.same (b : Bool) {c : Bool} (p : Addr) (W : World) (h : W.cell? p = some (.bool c)) (hc : c = b) : Calls Tryz.prog 180 #[.pointer (some p), .bool b] W fun e w' => ∃ v, e = .returned v ∧ (v = .int .i64 7 ∧ w' = W) := by
  subst hc
  refine enter (n := 13) rfl rfl rfl (Nat.le_of_ble_eq_true rfl) (fun a hE => ?_)
  refine sq fun K0 hK0 => ?_
  refine pl0 ?_
  refine plc hE (.r 0 1 .nil) (fun a hE => ?_)
  refine pld ?_
  refine hK0 _ _ ?_
  refine sq fun K1 hK1 => ?_
  refine sq fun K2 hK2 => ?_
  refine pl0 ?_
  refine plc hE (.r 0 2 <| .c 2 h <| .r 3 2 .nil) (fun a hE => ?_)
  refine pld ?_
  refine hK2 _ _ ?_
  replace hE := hE.et 9 (rfl : c = c)
  refine ct hE ?_
  refine sq fun K3 hK3 => ?_
  refine pl0 ?_
  refine plc hE (.r 0 1 .nil) (fun a hE => ?_)
  refine pld ?_
  refine hK3 _ _ ?_
  refine wp_ret (qCB ?_)
  exact rt1 hE ⟨_, rfl, rfl, rfl⟩
set_option maxRecDepth 100000 in
theorem qBz.turn {W0 : World} {N : Nat → Prop} {F0 W F : World} {L : List Asrt} {xs : List qA} {g n c : Nat} {i : Int} {p : Addr} (hS : St W0 N F0 W F (row qA.k 104 (.slice (some ⟨g, 0, none⟩) n c) xs :: L)) (yv : qA) (off : Nat) (h01 : 0 ≤ i ∧ i < (xs.length : Int)) (cs : List Value) (hcs : ∀ (j : Nat) (u : Value), cs[j]? = some u → W.cell? (((⟨g, 0, none⟩ : Addr).add (i.toNat * (qA.k).sz)).add j) = some u) (cur to : Bool) (cs' : List Value) (hcur : cs[off]? = some (.bool cur)) (hK : (qA.k).K F yv cs') (hne : ¬ cur = to) (hp : p = ((⟨g, 0, none⟩ : Addr).add (i.toNat * (qA.k).sz)).add off := by rfl)
    (hk : cs' = cs.take off ++ [.bool to] ++ cs.drop (off + 1) := by rfl) (hl : Nat.beq cs.length (qA.k).sz = true := by kernel_rfl) (ho : Nat.ble (off + 1) (qA.k).sz = true := by kernel_rfl) : Calls Tryz.prog 180 #[.pointer (some p), .bool to] W fun e w' => ∃ v, e = .returned v ∧ (v = .int .i64 0 ∧ St W0 N F0 w' F (row qA.k 104 (.slice (some ⟨g, 0, none⟩) n c) (xs.set i.toNat yv) :: L) ∧ AgrX (fun q => q = g) W w') := by
  subst hp
  subst hk
  have h := hcs off _ hcur
  refine enter (n := 13) rfl rfl rfl (Nat.le_of_ble_eq_true rfl) (fun a hE => ?_)
  refine sq fun K0 hK0 => ?_
  refine pl0 ?_
  refine plc hE (.r 0 1 .nil) (fun a hE => ?_)
  refine pld ?_
  refine hK0 _ _ ?_
  refine sq fun K1 hK1 => ?_
  refine sq fun K2 hK2 => ?_
  refine pl0 ?_
  refine plc hE (.r 0 2 <| .c 2 h <| .r 3 2 .nil) (fun a hE => ?_)
  refine pld ?_
  refine hK2 _ _ ?_
  replace hE := hE.ef 9 hne
  refine cf hE ?_
  refine wp_skip ?_
  refine hK1 _ _ ?_
  refine sq fun K3 hK3 => ?_
  refine pl0 ?_
  refine plc hE (.r 0 3 .nil) (fun a hE => ?_)
  refine ple hE (.setx (d := qA.k) (n := n) (i := i) yv off (ea1 _ _ _) hS h01 cs hcs _ hK ?_) ?_
  · unfold setK
    show (match (Nat.beq [Value.bool to].length 1 && Nat.ble (off + 1) (qA.k).sz) && (true && Nat.beq cs.length (qA.k).sz) with
      | true => some (((⟨g, 0, none⟩ : Addr).add (i.toNat * (qA.k).sz)).add off, cs.take off ++ [.bool to] ++ cs.drop (off + 1))
      | false => none) = some _
    rw [hl, ho]
    rfl
  rintro _ w1 a ⟨rfl, hS, hz, hX⟩ hE
  refine pld ?_
  refine hK3 _ _ ?_
  refine sq fun K4 hK4 => ?_
  refine pl0 ?_
  refine plc hE (.r 0 1 .nil) (fun a hE => ?_)
  refine pld ?_
  refine hK4 _ _ ?_
  refine wp_ret ?_
  exact rt1 hE ⟨_, rfl, rfl, hS, hX⟩
end Go.Proofs.YtpohepinmjmbkaaGreat.QS
