import Derived.Test.YtpohepinmjmbkaaGreatQS4
namespace Go.Proofs.YtpohepinmjmbkaaGreat.QS
open Go Go.RowKit Go.Proofs.YtpohepinmjmbkaaGreat.Sl
set_option linter.unusedVariables false
set_option linter.unusedSimpArgs false
set_option maxHeartbeats 4000000
set_option maxRecDepth 100000
mutual
def qAA.j42 : Nat → qU → qH → Int → List qB → Option (List qU)
  | 0, _, _, _, _ => none
  | k + 1, x1_, x2_, x3_, l40 => (qBJ.f k (IntKind.u64.wrap x3_) [(IntKind.u64.wrap x2_.f1), (IntKind.u64.wrap x1_.f0), (IntKind.u64.wrap x1_.f1)]).bind fun t53 => ((qAv.f k t53 l40).bind fun t58 => (if 0 ≤ (if (t58.length : Int) < x2_.f2 then (t58.length : Int) else x2_.f2) ∧ (if (t58.length : Int) < x2_.f2 then (t58.length : Int) else x2_.f2) ≤ (t58.length : Int) then (qAA.l80 k x1_ x2_ t58 [] 0) else (none)))
def qAA.l80 : Nat → qU → qH → List Int → List qU → Int → Option (List qU)
  | 0, _, _, _, _, _ => none
  | k + 1, x1_, x2_, t58, l78, x79 => if x79 < ((cutl t58 0 (if (t58.length : Int) < x2_.f2 then (t58.length : Int) else x2_.f2)).length : Int) then (if 0 ≤ x79 ∧ x79 < ((cutl t58 0 (if (t58.length : Int) < x2_.f2 then (t58.length : Int) else x2_.f2)).length : Int) then (if x2_.f1 = 1 then (qAA.j110 k x1_ x2_ t58 l78 x79 (nth 0 (cutl t58 0 (if (t58.length : Int) < x2_.f2 then (t58.length : Int) else x2_.f2)) x79) x1_.f1 x1_.f2) else (if x2_.f1 = 2 then (qAA.j110 k x1_ x2_ t58 l78 x79 x1_.f0 (nth 0 (cutl t58 0 (if (t58.length : Int) < x2_.f2 then (t58.length : Int) else x2_.f2)) x79) x1_.f2) else (qAA.j110 k x1_ x2_ t58 l78 x79 x1_.f0 x1_.f1 (nth 0 (cutl t58 0 (if (t58.length : Int) < x2_.f2 then (t58.length : Int) else x2_.f2)) x79)))) else (none)) else (some l78)
def qAA.j110 : Nat → qU → qH → List Int → List qU → Int → Int → Int → Int → Option (List qU)
  | 0, _, _, _, _, _, _, _, _ => none
  | k + 1, x1_, x2_, t58, l78, x79, x107, x108, x109 => if ((l78.length : Int) + ((1 : Nat) : Int)) * 24 ≤ 140737488355328 then (qAA.l80 k x1_ x2_ t58 (l78 ++ [(⟨x107, x108, x109⟩ : qU)]) (w64 (x79 + 1))) else (none)
end
theorem qAA.j42_s (k : Nat) (x1_ : qU) (x2_ : qH) (x3_ : Int) (l40 : List qB) : qAA.j42 (k + 1) x1_ x2_ x3_ l40 = ((qBJ.f k (IntKind.u64.wrap x3_) [(IntKind.u64.wrap x2_.f1), (IntKind.u64.wrap x1_.f0), (IntKind.u64.wrap x1_.f1)]).bind fun t53 => ((qAv.f k t53 l40).bind fun t58 => (if 0 ≤ (if (t58.length : Int) < x2_.f2 then (t58.length : Int) else x2_.f2) ∧ (if (t58.length : Int) < x2_.f2 then (t58.length : Int) else x2_.f2) ≤ (t58.length : Int) then (qAA.l80 k x1_ x2_ t58 [] 0) else (none)))) := by kernel_rfl
theorem qAA.l80_s (k : Nat) (x1_ : qU) (x2_ : qH) (t58 : List Int) (l78 : List qU) (x79 : Int) : qAA.l80 (k + 1) x1_ x2_ t58 l78 x79 = (if x79 < ((cutl t58 0 (if (t58.length : Int) < x2_.f2 then (t58.length : Int) else x2_.f2)).length : Int) then (if 0 ≤ x79 ∧ x79 < ((cutl t58 0 (if (t58.length : Int) < x2_.f2 then (t58.length : Int) else x2_.f2)).length : Int) then (if x2_.f1 = 1 then (qAA.j110 k x1_ x2_ t58 l78 x79 (nth 0 (cutl t58 0 (if (t58.length : Int) < x2_.f2 then (t58.length : Int) else x2_.f2)) x79) x1_.f1 x1_.f2) else (if x2_.f1 = 2 then (qAA.j110 k x1_ x2_ t58 l78 x79 x1_.f0 (nth 0 (cutl t58 0 (if (t58.length : Int) < x2_.f2 then (t58.length : Int) else x2_.f2)) x79) x1_.f2) else (qAA.j110 k x1_ x2_ t58 l78 x79 x1_.f0 x1_.f1 (nth 0 (cutl t58 0 (if (t58.length : Int) < x2_.f2 then (t58.length : Int) else x2_.f2)) x79)))) else (none)) else (some l78)) := by kernel_rfl
theorem qAA.j110_s (k : Nat) (x1_ : qU) (x2_ : qH) (t58 : List Int) (l78 : List qU) (x79 : Int) (x107 : Int) (x108 : Int) (x109 : Int) : qAA.j110 (k + 1) x1_ x2_ t58 l78 x79 x107 x108 x109 = (if ((l78.length : Int) + ((1 : Nat) : Int)) * 24 ≤ 140737488355328 then (qAA.l80 k x1_ x2_ t58 (l78 ++ [(⟨x107, x108, x109⟩ : qU)]) (w64 (x79 + 1))) else (none)) := by kernel_rfl
def qAA.f (k : Nat) (x0_ : List qA) (x1_ : qU) (x2_ : qH) (x3_ : Int) : Option (List qU) := if x2_.f1 = 1 then ((qBq.f k x0_).bind fun t12 => (qAA.j42 k x1_ x2_ x3_ t12)) else (if x2_.f1 = 2 then ((qBr.f k x0_ x1_.f0).bind fun t22 => (qAA.j42 k x1_ x2_ x3_ t22)) else ((qBl.f k x0_ x1_.f0 x1_.f1).bind fun t30 => (qAA.j42 k x1_ x2_ x3_ t30)))
def qAA.Post (W F : World) (r : List qU) (v : Value) (w' : World) : Prop := ∃ (F' : World) (RA0_0 : Option Addr) (rc0_0 : Nat), v = .slice RA0_0 r.length rc0_0 ∧ St W (mine W []) F w' F' [row qU.k 212 (.slice RA0_0 r.length rc0_0) r]
theorem qAA.calls (k : Nat) (x0_ : List qA) (x1_ : qU) (x2_ : qH) (x3_ : Int) (A0_0 : Option Addr) (c0_0 : Nat) (r : List qU) (W F : World) (hown : Sub F W) (g0_0 : Rd qA.k F A0_0 c0_0 x0_) (H : qAA.f k x0_ x1_ x2_ x3_ = some r) :
    Calls Tryz.prog 204 #[.slice A0_0 x0_.length c0_0, .agg #[.int .i64 x1_.f0, .int .i64 x1_.f1, .int .i64 x1_.f2], .agg #[.int .i64 x2_.f0, .int .i64 x2_.f1, .int .i64 x2_.f2], .int .i64 x3_] W fun e w' => ∃ v, e = .returned v ∧ qAA.Post W F r v w' := by
 have hS := St.start (Own.nil hown)
 unfold qAA.f at H
 refine enter (n := 79) rfl rfl rfl (Nat.le_of_ble_eq_true rfl) (fun a hE => ?_)
 refine sq fun K1 hK1 => pl0 (ple hE (.bx (t := 212) hS [.int .i64 x1_.f0, .int .i64 x1_.f1, .int .i64 x1_.f2]) ?_)
 rintro _ u3 a ⟨b2, rfl, hb2, hS, hg⟩ hE
 refine ple hE (.bx (t := 175) hS [.int .i64 x2_.f0, .int .i64 x2_.f1, .int .i64 x2_.f2]) ?_
 rintro _ u5 a ⟨b4, rfl, hb4, hS, hg⟩ hE
 refine plc hE (.r 2 1 .nil) (fun a hE => pld (hK1 _ _ (sq fun K6 hK6 => pl0 (plc hE (.r 0 1 .nil) (fun a hE => pld (hK6 _ _ (sq fun K7 hK7 => ?_)))))))
 have J45 : ∀ kq43, kq43 ≤ k → ∀ (G : Nat → Value) (A38 : Option Addr) (c39 : Nat) (l40 : List qB) (F41 : World) (a : Act) (w' : World), Env 79 G a → At G [(3, .int .i64 x3_), (5, .pointer (some ⟨b2, 0, none⟩)), (6, .pointer (some ⟨b4, 0, none⟩)), (9, .slice A38 l40.length c39)] → St W (mine W []) F w' F41 [box b4 #[.int .i64 x2_.f0, .int .i64 x2_.f1, .int .i64 x2_.f2] 175, box b2 #[.int .i64 x1_.f0, .int .i64 x1_.f1, .int .i64 x1_.f2] 212, row qB.k 216 (.slice A38 l40.length c39) l40] → qAA.j42 kq43 x1_ x2_ x3_ l40 = some r → K7 a w' := by
  intro kq43 hkq G A38 c39 l40 F41 a u46 hE hA hS H
  cases kq43 with
  | zero => cases (show none = some r from H)
  | succ k44 =>
   rw [qAA.j42_s] at H
   obtain ⟨J, hE⟩ := hE.at hA
   refine hK7 _ _ (sq fun K47 hK47 => pl0 ?_)
   have hb4 := hS.blk_at (i := 0) rfl
   have hb2 := hS.blk_at (i := 1) rfl
   refine plc hE (.r 0 3 <| .b 3 1 hb4 <| .r 4 2 <| .b 6 0 hb2 <| .r 7 2 <| .b 9 1 hb2 <| .r 10 1 <| .nil) (fun a hE => ple hE (.lit (d := (Kn.int .u64)) (e := 182) hS [(IntKind.u64.wrap x2_.f1), (IntKind.u64.wrap x1_.f0), (IntKind.u64.wrap x1_.f1)] (.cons rfl <| .cons rfl <| .cons rfl .nil)) ?_)
   rintro _ u48 a ⟨A49, c50, rfl, hS, hg⟩ hE
   obtain ⟨t53, h54, H⟩ := bd H
   refine ple hE (.cl en229 (qBJ.calls k44 (IntKind.u64.wrap x3_) [(IntKind.u64.wrap x2_.f1), (IntKind.u64.wrap x1_.f0), (IntKind.u64.wrap x1_.f1)] _ _ _ _ _ (Sub.refl _) (hS.rd_at (i := 0) rfl) h54)) ?_
   rintro _ u52 a ⟨_, rfl, hC⟩ hE
   replace hS := hS.lent hC
   refine plc hE (.r 13 1 .nil) (fun a hE => ?_)
   replace hS := hS.front 3 rfl
   obtain ⟨F55, hs, g56, hS⟩ := hS.give
   obtain ⟨t58, h59, H⟩ := bd H
   refine ple hE (.cl en228 (qAv.calls k44 t53 l40 _ _ _ _ _ hS.own.sub g56 h59)) ?_
   rintro _ u57 a ⟨F60, A61, c62, rfl, hC⟩ hE
   have hs := hC.sub
   replace hS := hS.called (X := []) hC
   replace g56 := g56.mono hs
   refine plc hE (.r 15 1 .nil) (fun a hE => pld (hK47 _ _ (sq fun K65 hK65 => pl0 (plc hE (.r 0 1 .nil) (fun a hE => pld (hK65 _ _ (sq fun K66 hK66 => sq fun K67 hK67 => pl0 ?_)))))))
   have hb4 := hS.blk_at (i := 2) rfl
   obtain ⟨F68, hs, g69, hS⟩ := hS.give
   replace g56 := g56.mono hs
   obtain ⟨c70, H⟩ := gd H
   obtain ⟨A71, c72, g73, hv74⟩ := qEJ (P := Tryz.prog) g69 ⟨Int.le_refl _, c70.1, c70.2⟩ sz3
   refine plc hE (.r 0 2 <| .b 2 2 hb4 <| .r 3 3 <| .y 6 (hv74 (by kernel_rfl)) <| .r 7 2 <| .nil) (fun a hE => pld (hK67 _ _ (wp_block ?_)))
   replace hS := hS.nilrow qU.k 212
   replace hS := hS.front 1 rfl
   replace hS := hS.tail
   replace hS := hS.front 2 rfl
   replace hS := hS.front 2 rfl
   refine wp_loop_ghost (fun kq81 a w' => ∃ (G : Nat → Value) (A76 : Option Addr) (c77 : Nat) (l78 : List qU) (x79 : Int), kq81 ≤ k44 ∧ Env 79 G a ∧ At G [(5, .pointer (some ⟨b2, 0, none⟩)), (6, .pointer (some ⟨b4, 0, none⟩)), (11, .slice A76 l78.length c77), (54, .slice A71 ((cutl t58 0 (if (t58.length : Int) < x2_.f2 then (t58.length : Int) else x2_.f2)).length) c72), (55, .int .i64 ((cutl t58 0 (if (t58.length : Int) < x2_.f2 then (t58.length : Int) else x2_.f2)).length : Int)), (56, .int .i64 x79)] ∧ St W (mine W []) F w' F68 [box b4 #[.int .i64 x2_.f0, .int .i64 x2_.f1, .int .i64 x2_.f2] 175, box b2 #[.int .i64 x1_.f0, .int .i64 x1_.f1, .int .i64 x1_.f2] 212, row qU.k 212 (.slice A76 l78.length c77) l78] ∧  qAA.l80 kq81 x1_ x2_ t58 l78 x79 = some r) k44 ⟨_, none, 0, [], 0, Nat.le_refl _, hE, .of, hS, H⟩ ?_
   rintro kq81 a u83 ⟨G, A76, c77, l78, x79, hkq, hE, hA, hS, H⟩
   cases kq81 with
   | zero => cases (show none = some r from H)
   | succ k82 =>
    rw [qAA.l80_s] at H
    obtain ⟨J, hE⟩ := hE.at hA
    refine sq fun K84 hK84 => pl0 (plc hE (.r 0 1 .nil) (fun a hE => pld (hK84 _ _ (sq fun K85 hK85 => ?_))))
    rcases sp H with ⟨c86, H⟩ | ⟨c86, H⟩
    ·
     replace hE := hE.kt 57 c86
     refine ct hE (wp_skip (hK85 _ _ (sq fun K87 hK87 => wp_block (sq fun K88 hK88 => pl0 ?_))))
     obtain ⟨c89, H⟩ := gd H
     have hE_ := hE
     obtain ⟨ad90, rfl⟩ := g73.addr c89.1 c89.2
     replace hE := hE_
     obtain ⟨cs92, rfl, hc93⟩ := g73.el 0 x79 c89.1 c89.2
     refine plc hE (.x 0 c89 <| .c 1 (hS.fc hc93 0) <| .r 2 1 <| .nil) (fun a hE => pld (hK88 _ _ (sq fun K94 hK94 => pl0 ?_)))
     have hb2 := hS.blk_at (i := 1) rfl
     refine plc hE (.bn 0 0 3 hb2 .nil) (fun a hE => ple hE (.al (t := 212) hS [.int .i64 0, .int .i64 0, .int .i64 0]) ?_)
     rintro _ u96 a ⟨b95, rfl, hb95, hS, hg⟩ hE
     refine ple hE (.sto hS [.int .i64 x1_.f0, .int .i64 x1_.f1, .int .i64 x1_.f2]) ?_
     rintro _ u97 a ⟨rfl, hb95, hS, hz⟩ hE
     refine pld (hK94 _ _ (sq fun K98 hK98 => ?_))
     have J113 : ∀ kq111, kq111 ≤ k82 → ∀ (G : Nat → Value) (x107 : Int) (x108 : Int) (x109 : Int) (a : Act) (w' : World), Env 79 G a → At G [(5, .pointer (some ⟨b2, 0, none⟩)), (6, .pointer (some ⟨b4, 0, none⟩)), (11, .slice A76 l78.length c77), (14, .pointer (some ⟨b95, 0, none⟩)), (54, .slice (some ad90) ((cutl t58 0 (if (t58.length : Int) < x2_.f2 then (t58.length : Int) else x2_.f2)).length) c72), (55, .int .i64 ((cutl t58 0 (if (t58.length : Int) < x2_.f2 then (t58.length : Int) else x2_.f2)).length : Int)), (56, .int .i64 x79)] → St W (mine W []) F w' F68 [box b95 #[.int .i64 x107, .int .i64 x108, .int .i64 x109] 212, box b4 #[.int .i64 x2_.f0, .int .i64 x2_.f1, .int .i64 x2_.f2] 175, box b2 #[.int .i64 x1_.f0, .int .i64 x1_.f1, .int .i64 x1_.f2] 212, row qU.k 212 (.slice A76 l78.length c77) l78] → qAA.j110 kq111 x1_ x2_ t58 l78 x79 x107 x108 x109 = some r → K98 a w' := by
      intro kq111 hkq G x107 x108 x109 a u114 hE hA hS H
      cases kq111 with
      | zero => cases (show none = some r from H)
      | succ k112 =>
       rw [qAA.j110_s] at H
       obtain ⟨J, hE⟩ := hE.at hA
       refine hK98 _ _ (pl0 ?_)
       have hb95 := hS.blk_at (i := 0) rfl
       refine plc hE (.r 0 1 <| .bn 1 0 3 hb95 <| .nil) (fun a hE => ple hE (.lit (d := qU.k) (e := 212) hS [(⟨x107, x108, x109⟩ : qU)] (.cons rfl .nil)) ?_)
       rintro _ u115 a ⟨A116, c117, rfl, hS, hg⟩ hE
       obtain ⟨c119, H⟩ := gd H
       replace hS := hS.front 4 rfl
       refine ple hE (.ap (d := qU.k) 24 hS (qCM (hS.row_at (i := 1) rfl)) c119 c117) ?_
       rintro _ u122 a ⟨A120, c121, rfl, hS, hz⟩ hE
       refine plc hE (.r 4 1 .nil) (fun a hE => pld ?_)
       refine qCD ?_
       refine hK87 _ _ (pl0 (plc hE (.r 0 2 .nil) (fun a hE => pld ?_)))
       replace hS := hS.front 1 rfl
       replace hS := hS.tail
       replace hS := hS.front 1 rfl
       replace hS := hS.tail
       replace hS := hS.front 2 rfl
       replace hS := hS.front 2 rfl
       exact qCE ⟨k112, by omega, _, A120, c121, (l78 ++ [(⟨x107, x108, x109⟩ : qU)]), (w64 (x79 + 1)), by omega, hE, .of, hS, H⟩
     refine sq fun K99 hK99 => pl0 ?_
     have hb4 := hS.blk_at (i := 1) rfl
     refine plc hE (.r 0 1 <| .b 1 1 hb4 <| .nil) (fun a hE => pld (hK99 _ _ (wp_block (sq fun K100 hK100 => pl0 (plc hE (.r 0 2 .nil) (fun a hE => pld (hK100 _ _ ?_)))))))
     rcases sp H with ⟨c101, H⟩ | ⟨c101, H⟩
     ·
      replace hE := hE.kt 65 c101
      refine ct hE (pl0 (plc hE (.r 0 2 .nil) (fun a hE => ple hE (.sto hS [.int .i64 (nth 0 (cutl t58 0 (if (t58.length : Int) < x2_.f2 then (t58.length : Int) else x2_.f2)) x79), .int .i64 x1_.f1, .int .i64 x1_.f2]) ?_)))
      rintro _ u102 a ⟨rfl, hb95, hS, hz⟩ hE
      refine pld ?_
      refine qCD ?_
      exact J113 _ (by omega) _ (nth 0 (cutl t58 0 (if (t58.length : Int) < x2_.f2 then (t58.length : Int) else x2_.f2)) x79) x1_.f1 x1_.f2 _ _ hE .of hS H
     ·
      replace hE := hE.kf 65 c101
      refine cf hE (sq fun K103 hK103 => pl0 (plc hE (.r 0 2 .nil) (fun a hE => pld (hK103 _ _ ?_))))
      rcases sp H with ⟨c104, H⟩ | ⟨c104, H⟩
      ·
       replace hE := hE.kt 69 c104
       refine ct hE (pl0 (plc hE (.r 0 2 .nil) (fun a hE => ple hE (.sto hS [.int .i64 x1_.f0, .int .i64 (nth 0 (cutl t58 0 (if (t58.length : Int) < x2_.f2 then (t58.length : Int) else x2_.f2)) x79), .int .i64 x1_.f2]) ?_)))
       rintro _ u105 a ⟨rfl, hb95, hS, hz⟩ hE
       refine pld ?_
       refine qCD ?_
       exact J113 _ (by omega) _ x1_.f0 (nth 0 (cutl t58 0 (if (t58.length : Int) < x2_.f2 then (t58.length : Int) else x2_.f2)) x79) x1_.f2 _ _ hE .of hS H
      ·
       replace hE := hE.kf 69 c104
       refine cf hE (pl0 (plc hE (.r 0 2 .nil) (fun a hE => ple hE (.sto hS [.int .i64 x1_.f0, .int .i64 x1_.f1, .int .i64 (nth 0 (cutl t58 0 (if (t58.length : Int) < x2_.f2 then (t58.length : Int) else x2_.f2)) x79)]) ?_)))
       rintro _ u106 a ⟨rfl, hb95, hS, hz⟩ hE
       refine pld ?_
       refine qCD ?_
       exact J113 _ (by omega) _ x1_.f0 x1_.f1 (nth 0 (cutl t58 0 (if (t58.length : Int) < x2_.f2 then (t58.length : Int) else x2_.f2)) x79) _ _ hE .of hS H
    ·
     replace hE := hE.kf 57 c86
     refine cf hE ?_
     refine wp_exit ?_
     refine hK66 _ _ (sq fun K124 hK124 => pl0 (plc hE (.r 0 2 .nil) (fun a hE => pld (hK124 _ _ (wp_ret ?_)))))
     replace hS := hS.tail
     replace hS := hS.tail
     obtain rfl := si H
     exact rt1 hE ⟨_, rfl, _, _, _, rfl, hS⟩
 refine sq fun K8 hK8 => pl0 (plc hE (.r 0 1 <| .b 1 1 hb4 <| .nil) (fun a hE => pld (hK8 _ _ (wp_block (sq fun K9 hK9 => pl0 (plc hE (.r 0 2 .nil) (fun a hE => pld (hK9 _ _ ?_))))))))
 rcases sp H with ⟨c10, H⟩ | ⟨c10, H⟩
 ·
  replace hE := hE.kt 23 c10
  refine ct hE (pl0 (plc hE (.r 0 1 .nil) (fun a hE => ?_)))
  obtain ⟨t12, h13, H⟩ := bd H
  refine ple hE (.cl en225 (qBq.calls k x0_ _ _ _ _ _ hS.own.sub g0_0 h13)) ?_
  rintro _ u11 a ⟨F14, A15, c16, rfl, hC⟩ hE
  have hs := hC.sub
  replace hS := hS.called (X := []) hC
  replace g0_0 := g0_0.mono hs
  refine plc hE (.r 2 1 .nil) (fun a hE => pld ?_)
  refine qCD ?_
  replace hS := hS.front 2 rfl
  replace hS := hS.front 2 rfl
  exact J45 _ (by omega) _ A15 c16 t12 F14 _ _ hE .of hS H
 ·
  replace hE := hE.kf 23 c10
  refine cf hE (sq fun K19 hK19 => pl0 (plc hE (.r 0 2 .nil) (fun a hE => pld (hK19 _ _ ?_))))
  rcases sp H with ⟨c20, H⟩ | ⟨c20, H⟩
  ·
   replace hE := hE.kt 27 c20
   refine ct hE (pl0 ?_)
   have hb2 := hS.blk_at (i := 1) rfl
   refine plc hE (.r 0 2 <| .b 2 0 hb2 <| .nil) (fun a hE => ?_)
   obtain ⟨t22, h23, H⟩ := bd H
   refine ple hE (.cl en226 (qBr.calls k x0_ x1_.f0 _ _ _ _ _ hS.own.sub g0_0 h23)) ?_
   rintro _ u21 a ⟨F24, A25, c26, rfl, hC⟩ hE
   have hs := hC.sub
   replace hS := hS.called (X := []) hC
   replace g0_0 := g0_0.mono hs
   refine plc hE (.r 4 1 .nil) (fun a hE => pld ?_)
   refine qCD ?_
   replace hS := hS.front 2 rfl
   replace hS := hS.front 2 rfl
   exact J45 _ (by omega) _ A25 c26 t22 F24 _ _ hE .of hS H
  ·
   replace hE := hE.kf 27 c20
   refine cf hE (pl0 ?_)
   have hb2 := hS.blk_at (i := 1) rfl
   refine plc hE (.r 0 2 <| .b 2 0 hb2 <| .r 3 1 <| .b 4 1 hb2 <| .nil) (fun a hE => ?_)
   obtain ⟨t30, h31, H⟩ := bd H
   refine ple hE (.cl en227 (qBl.calls k x0_ x1_.f0 x1_.f1 _ _ _ _ _ hS.own.sub g0_0 h31)) ?_
   rintro _ u29 a ⟨F32, A33, c34, rfl, hC⟩ hE
   have hs := hC.sub
   replace hS := hS.called (X := []) hC
   replace g0_0 := g0_0.mono hs
   refine plc hE (.r 6 1 .nil) (fun a hE => pld ?_)
   refine qCD ?_
   replace hS := hS.front 2 rfl
   replace hS := hS.front 2 rfl
   exact J45 _ (by omega) _ A33 c34 t30 F32 _ _ hE .of hS H
mutual
def qw.j16 : Nat → List qA → List qH → Int → Int → Bool → Option ((List Int) × Int)
  | 0, _, _, _, _, _ => none
  | k + 1, x0_, x1_, x2_, x3_, y15 => if y15 = true then (some ([], 1)) else (qw.l38 k x0_ x1_ x2_ x3_ [] [] 0)
def qw.l38 : Nat → List qA → List qH → Int → Int → List qU → List Int → Int → Option ((List Int) × Int)
  | 0, _, _, _, _, _, _, _ => none
  | k + 1, x0_, x1_, x2_, x3_, l32, l35, x36 => if x36 < (x1_.length : Int) then (if 0 ≤ x36 ∧ x36 < (x1_.length : Int) then (if (nth qH.z x1_ x36).f0 = 1 then (qw.l38 k x0_ x1_ x2_ x3_ [(⟨0, 0, 0⟩ : qU)] l35 (w64 (x36 + 1))) else (if (nth qH.z x1_ x36).f0 = 2 then (qw.l73 k x0_ x1_ x2_ x3_ l32 l35 x36 [] 0) else (qw.l111 k x0_ x1_ x2_ x3_ l32 x36 l35 0))) else (none)) else (some (l35, 0))
def qw.l73 : Nat → List qA → List qH → Int → Int → List qU → List Int → Int → List qU → Int → Option ((List Int) × Int)
  | 0, _, _, _, _, _, _, _, _, _ => none
  | k + 1, x0_, x1_, x2_, x3_, l32, l35, x36, l70, x71 => if x71 < (l32.length : Int) then (if 0 ≤ x71 ∧ x71 < (l32.length : Int) then ((qAA.f k x0_ (⟨(nth qU.z l32 x71).f0, (nth qU.z l32 x71).f1, (nth qU.z l32 x71).f2⟩ : qU) (⟨(nth qH.z x1_ x36).f0, (nth qH.z x1_ x36).f1, (nth qH.z x1_ x36).f2⟩ : qH) x2_).bind fun t92 => (if ((l70.length : Int) + (t92.length : Int)) * 24 ≤ 140737488355328 then (qw.l73 k x0_ x1_ x2_ x3_ l32 l35 x36 (l70 ++ t92) (w64 (x71 + 1))) else (none))) else (none)) else (qw.l38 k x0_ x1_ x2_ x3_ l70 l35 (w64 (x36 + 1)))
def qw.l111 : Nat → List qA → List qH → Int → Int → List qU → Int → List Int → Int → Option ((List Int) × Int)
  | 0, _, _, _, _, _, _, _, _ => none
  | k + 1, x0_, x1_, x2_, x3_, l32, x36, l109, x110 => if x110 < (l32.length : Int) then (if 0 ≤ x110 ∧ x110 < (l32.length : Int) then (if (l109.length : Int) < x3_ then ((qAT.f k l109 ((nth qU.z l32 x110).f2)).bind fun t132 => (qw.j135 k x0_ x1_ x2_ x3_ l32 x36 l109 x110 (!t132))) else (qw.j135 k x0_ x1_ x2_ x3_ l32 x36 l109 x110 false)) else (none)) else (qw.l38 k x0_ x1_ x2_ x3_ [] l109 (w64 (x36 + 1)))
def qw.j135 : Nat → List qA → List qH → Int → Int → List qU → Int → List Int → Int → Bool → Option ((List Int) × Int)
  | 0, _, _, _, _, _, _, _, _, _ => none
  | k + 1, x0_, x1_, x2_, x3_, l32, x36, l109, x110, y134 => if y134 = true then (if ((l109.length : Int) + ((1 : Nat) : Int)) * 8 ≤ 140737488355328 then (qw.l111 k x0_ x1_ x2_ x3_ l32 x36 (l109 ++ [(nth qU.z l32 x110).f2]) (w64 (x110 + 1))) else (none)) else (qw.l111 k x0_ x1_ x2_ x3_ l32 x36 l109 (w64 (x110 + 1)))
end
theorem qw.j16_s (k : Nat) (x0_ : List qA) (x1_ : List qH) (x2_ : Int) (x3_ : Int) (y15 : Bool) : qw.j16 (k + 1) x0_ x1_ x2_ x3_ y15 = (if y15 = true then (some ([], 1)) else (qw.l38 k x0_ x1_ x2_ x3_ [] [] 0)) := by kernel_rfl
theorem qw.l38_s (k : Nat) (x0_ : List qA) (x1_ : List qH) (x2_ : Int) (x3_ : Int) (l32 : List qU) (l35 : List Int) (x36 : Int) : qw.l38 (k + 1) x0_ x1_ x2_ x3_ l32 l35 x36 = (if x36 < (x1_.length : Int) then (if 0 ≤ x36 ∧ x36 < (x1_.length : Int) then (if (nth qH.z x1_ x36).f0 = 1 then (qw.l38 k x0_ x1_ x2_ x3_ [(⟨0, 0, 0⟩ : qU)] l35 (w64 (x36 + 1))) else (if (nth qH.z x1_ x36).f0 = 2 then (qw.l73 k x0_ x1_ x2_ x3_ l32 l35 x36 [] 0) else (qw.l111 k x0_ x1_ x2_ x3_ l32 x36 l35 0))) else (none)) else (some (l35, 0))) := by kernel_rfl
theorem qw.l73_s (k : Nat) (x0_ : List qA) (x1_ : List qH) (x2_ : Int) (x3_ : Int) (l32 : List qU) (l35 : List Int) (x36 : Int) (l70 : List qU) (x71 : Int) : qw.l73 (k + 1) x0_ x1_ x2_ x3_ l32 l35 x36 l70 x71 = (if x71 < (l32.length : Int) then (if 0 ≤ x71 ∧ x71 < (l32.length : Int) then ((qAA.f k x0_ (⟨(nth qU.z l32 x71).f0, (nth qU.z l32 x71).f1, (nth qU.z l32 x71).f2⟩ : qU) (⟨(nth qH.z x1_ x36).f0, (nth qH.z x1_ x36).f1, (nth qH.z x1_ x36).f2⟩ : qH) x2_).bind fun t92 => (if ((l70.length : Int) + (t92.length : Int)) * 24 ≤ 140737488355328 then (qw.l73 k x0_ x1_ x2_ x3_ l32 l35 x36 (l70 ++ t92) (w64 (x71 + 1))) else (none))) else (none)) else (qw.l38 k x0_ x1_ x2_ x3_ l70 l35 (w64 (x36 + 1)))) := by kernel_rfl
theorem qw.l111_s (k : Nat) (x0_ : List qA) (x1_ : List qH) (x2_ : Int) (x3_ : Int) (l32 : List qU) (x36 : Int) (l109 : List Int) (x110 : Int) : qw.l111 (k + 1) x0_ x1_ x2_ x3_ l32 x36 l109 x110 = (if x110 < (l32.length : Int) then (if 0 ≤ x110 ∧ x110 < (l32.length : Int) then (if (l109.length : Int) < x3_ then ((qAT.f k l109 ((nth qU.z l32 x110).f2)).bind fun t132 => (qw.j135 k x0_ x1_ x2_ x3_ l32 x36 l109 x110 (!t132))) else (qw.j135 k x0_ x1_ x2_ x3_ l32 x36 l109 x110 false)) else (none)) else (qw.l38 k x0_ x1_ x2_ x3_ [] l109 (w64 (x36 + 1)))) := by kernel_rfl
theorem qw.j135_s (k : Nat) (x0_ : List qA) (x1_ : List qH) (x2_ : Int) (x3_ : Int) (l32 : List qU) (x36 : Int) (l109 : List Int) (x110 : Int) (y134 : Bool) : qw.j135 (k + 1) x0_ x1_ x2_ x3_ l32 x36 l109 x110 y134 = (if y134 = true then (if ((l109.length : Int) + ((1 : Nat) : Int)) * 8 ≤ 140737488355328 then (qw.l111 k x0_ x1_ x2_ x3_ l32 x36 (l109 ++ [(nth qU.z l32 x110).f2]) (w64 (x110 + 1))) else (none)) else (qw.l111 k x0_ x1_ x2_ x3_ l32 x36 l109 (w64 (x110 + 1)))) := by kernel_rfl
def qw.f (k : Nat) (x0_ : List qA) (x1_ : List qH) (x2_ : Int) (x3_ : Int) : Option ((List Int) × Int) := (qAG.f k x0_).bind fun t5 => (if t5 = 0 then ((qAc.f k x1_).bind fun t9 => (if t9 = 0 then (if x2_ < 0 then (qw.j16 k x0_ x1_ x2_ x3_ true) else (if x2_ ≥ 8 then (qw.j16 k x0_ x1_ x2_ x3_ true) else (if x3_ < 1 then (qw.j16 k x0_ x1_ x2_ x3_ true) else (qw.j16 k x0_ x1_ x2_ x3_ (decide (x3_ > 3)))))) else (qw.j16 k x0_ x1_ x2_ x3_ true))) else (qw.j16 k x0_ x1_ x2_ x3_ true))
def qw.Post (W F : World) (r : (List Int) × Int) (v : Value) (w' : World) : Prop := ∃ (F' : World) (RA0_0 : Option Addr) (rc0_0 : Nat), v = .tuple #[.slice RA0_0 r.1.length rc0_0, .int .i64 r.2] ∧ St W (mine W []) F w' F' [row (Kn.int .i64) 3 (.slice RA0_0 r.1.length rc0_0) r.1]
theorem qw.calls (k : Nat) (x0_ : List qA) (x1_ : List qH) (x2_ : Int) (x3_ : Int) (A0_0 : Option Addr) (c0_0 : Nat) (A1_0 : Option Addr) (c1_0 : Nat) (r : (List Int) × Int) (W F : World) (hown : Sub F W) (g0_0 : Rd qA.k F A0_0 c0_0 x0_) (g1_0 : Rd qH.k F A1_0 c1_0 x1_) (H : qw.f k x0_ x1_ x2_ x3_ = some r) :
    Calls Tryz.prog 166 #[.slice A0_0 x0_.length c0_0, .slice A1_0 x1_.length c1_0, .int .i64 x2_, .int .i64 x3_] W fun e w' => ∃ v, e = .returned v ∧ qw.Post W F r v w' := by
 have hS := St.start (Own.nil hown)
 unfold qw.f at H
 refine enter (n := 97) rfl rfl rfl (Nat.le_of_ble_eq_true rfl) (fun a hE => ?_)
 refine sq fun K1 hK1 => pl0 (plc hE (.r 0 2 .nil) (fun a hE => pld (hK1 _ _ (sq fun K2 hK2 => sq fun K3 hK3 => ?_))))
 have J19 : ∀ kq17, kq17 ≤ k → ∀ (G : Nat → Value) (y15 : Bool) (a : Act) (w' : World), Env 97 G a → At G [(0, .slice A0_0 x0_.length c0_0), (1, .slice A1_0 x1_.length c1_0), (2, .int .i64 x2_), (3, .int .i64 x3_), (42, .bool y15)] → St W (mine W []) F w' F [] → qw.j16 kq17 x0_ x1_ x2_ x3_ y15 = some r → K3 a w' := by
  intro kq17 hkq G y15 a u20 hE hA hS H
  cases kq17 with
  | zero => cases (show none = some r from H)
  | succ k18 =>
   rw [qw.j16_s] at H
   obtain ⟨J, hE⟩ := hE.at hA
   refine hK3 _ _ ?_
   rcases sp H with ⟨c21, H⟩ | ⟨c21, H⟩
   ·
    replace hE := hE.bt 42 c21
    refine ct hE (sq fun K22 hK22 => pl0 (plc hE (.r 0 2 .nil) (fun a hE => pld (hK22 _ _ (wp_ret (qCB ?_))))))
    replace hS := hS.nilrow (Kn.int .i64) 3
    obtain rfl := si H
    exact rtN hE ⟨_, rfl, _, _, _, rfl, hS⟩
   ·
    replace hE := hE.bf 42 c21
    refine cf hE (wp_skip (hK2 _ _ (sq fun K24 hK24 => pl0 (plc hE (.r 0 1 .nil) (fun a hE => pld (hK24 _ _ (sq fun K25 hK25 => pl0 (plc hE (.r 0 1 .nil) (fun a hE => pld (hK25 _ _ (sq fun K26 hK26 => sq fun K27 hK27 => pl0 (plc hE (.r 0 3 .nil) (fun a hE => pld (hK27 _ _ (wp_block ?_)))))))))))))))
    replace hS := hS.nilrow qU.k 212
    replace hS := hS.nilrow (Kn.int .i64) 3
    replace hS := hS.front 1 rfl
    refine wp_loop_ghost (fun kq39 a w' => ∃ (G : Nat → Value) (A30 : Option Addr) (c31 : Nat) (l32 : List qU) (A33 : Option Addr) (c34 : Nat) (l35 : List Int) (x36 : Int) (F37 : World), kq39 ≤ k18 ∧ Env 97 G a ∧ At G [(0, .slice A0_0 x0_.length c0_0), (2, .int .i64 x2_), (3, .int .i64 x3_), (10, .slice A30 l32.length c31), (11, .slice A33 l35.length c34), (43, .slice A1_0 x1_.length c1_0), (44, .int .i64 (x1_.length : Int)), (45, .int .i64 x36)] ∧ St W (mine W []) F w' F37 [row qU.k 212 (.slice A30 l32.length c31) l32, row (Kn.int .i64) 3 (.slice A33 l35.length c34) l35] ∧ Rd qA.k F37 A0_0 c0_0 x0_ ∧ Rd qH.k F37 A1_0 c1_0 x1_ ∧  qw.l38 kq39 x0_ x1_ x2_ x3_ l32 l35 x36 = some r) k18 ⟨_, none, 0, [], none, 0, [], 0, F, Nat.le_refl _, hE, .of, hS, g0_0, g1_0, H⟩ ?_
    rintro kq39 a u41 ⟨G, A30, c31, l32, A33, c34, l35, x36, F37, hkq, hE, hA, hS, g0_0, g1_0, H⟩
    cases kq39 with
    | zero => cases (show none = some r from H)
    | succ k40 =>
     rw [qw.l38_s] at H
     obtain ⟨J, hE⟩ := hE.at hA
     refine sq fun K42 hK42 => pl0 (plc hE (.r 0 1 .nil) (fun a hE => pld (hK42 _ _ (sq fun K43 hK43 => ?_))))
     rcases sp H with ⟨c44, H⟩ | ⟨c44, H⟩
     ·
      replace hE := hE.kt 46 c44
      refine ct hE (wp_skip (hK43 _ _ (sq fun K45 hK45 => wp_block (sq fun K46 hK46 => pl0 ?_))))
      obtain ⟨c47, H⟩ := gd H
      have hE_ := hE
      obtain ⟨ad48, rfl⟩ := g1_0.addr c47.1 c47.2
      replace hE := hE_
      obtain ⟨cs50, rfl, hc51⟩ := g1_0.el qH.z x36 c47.1 c47.2
      refine plc hE (.x 0 c47 <| .cs 1 (hS.fcs hc51) <| .nil) (fun a hE => ple hE (.al (t := 175) hS [.int .i64 0, .int .i64 0, .int .i64 0]) ?_)
      rintro _ u53 a ⟨b52, rfl, hb52, hS, hg⟩ hE
      refine ple hE (.sto hS [.int .i64 ((nth qH.z x1_ x36).f0), .int .i64 ((nth qH.z x1_ x36).f1), .int .i64 ((nth qH.z x1_ x36).f2)]) ?_
      rintro _ u54 a ⟨rfl, hb52, hS, hz⟩ hE
      refine pld (hK46 _ _ (sq fun K55 hK55 => pl0 (plc hE (.r 0 1 <| .b 1 0 hb52 <| .nil) (fun a hE => pld (hK55 _ _ (wp_block (sq fun K56 hK56 => pl0 (plc hE (.r 0 2 .nil) (fun a hE => pld (hK56 _ _ ?_))))))))))
      rcases sp H with ⟨c57, H⟩ | ⟨c57, H⟩
      ·
       replace hE := hE.kt 74 c57
       refine ct hE (pl0 (plc hE (.r 0 1 .nil) (fun a hE => ple hE (.lit (d := qU.k) (e := 212) hS [(⟨0, 0, 0⟩ : qU)] (.cons rfl .nil)) ?_)))
       rintro _ u58 a ⟨A59, c60, rfl, hS, hg⟩ hE
       refine plc hE (.r 2 1 .nil) (fun a hE => pld ?_)
       refine qCD ?_
       refine qCD ?_
       refine hK45 _ _ (pl0 (plc hE (.r 0 2 .nil) (fun a hE => pld ?_)))
       replace hS := hS.front 1 rfl
       replace hS := hS.tail
       replace hS := hS.front 1 rfl
       replace hS := hS.tail
       exact qCE ⟨k40, by omega, _, A59, c60, [(⟨0, 0, 0⟩ : qU)], A33, c34, l35, (w64 (x36 + 1)), F37, by omega, hE, .of, hS, g0_0, g1_0, H⟩
      ·
       replace hE := hE.kf 74 c57
       refine cf hE (sq fun K62 hK62 => pl0 (plc hE (.r 0 2 .nil) (fun a hE => pld (hK62 _ _ ?_))))
       rcases sp H with ⟨c63, H⟩ | ⟨c63, H⟩
       ·
        replace hE := hE.kt 78 c63
        refine ct hE (sq fun K64 hK64 => pl0 (plc hE (.r 0 1 .nil) (fun a hE => pld (hK64 _ _ (sq fun K65 hK65 => sq fun K66 hK66 => pl0 (plc hE (.r 0 3 .nil) (fun a hE => pld (hK66 _ _ (wp_block ?_)))))))))
        replace hS := hS.nilrow qU.k 212
        replace hS := hS.front 3 rfl
        replace hS := hS.front 3 rfl
        replace hS := hS.front 3 rfl
        refine wp_loop_ghost (fun kq74 a w' => ∃ (G : Nat → Value) (A68 : Option Addr) (c69 : Nat) (l70 : List qU) (x71 : Int) (F72 : World), kq74 ≤ k40 ∧ Env 97 G a ∧ At G [(0, .slice A0_0 x0_.length c0_0), (2, .int .i64 x2_), (3, .int .i64 x3_), (11, .slice A33 l35.length c34), (13, .pointer (some ⟨b52, 0, none⟩)), (14, .slice A68 l70.length c69), (43, .slice (some ad48) x1_.length c1_0), (44, .int .i64 (x1_.length : Int)), (45, .int .i64 x36), (80, .slice A30 l32.length c31), (81, .int .i64 (l32.length : Int)), (82, .int .i64 x71)] ∧ St W (mine W []) F w' F72 [box b52 #[.int .i64 ((nth qH.z x1_ x36).f0), .int .i64 ((nth qH.z x1_ x36).f1), .int .i64 ((nth qH.z x1_ x36).f2)] 175, row qU.k 212 (.slice A30 l32.length c31) l32, row (Kn.int .i64) 3 (.slice A33 l35.length c34) l35, row qU.k 212 (.slice A68 l70.length c69) l70] ∧ Rd qA.k F72 A0_0 c0_0 x0_ ∧ Rd qH.k F72 (some ad48) c1_0 x1_ ∧  qw.l73 kq74 x0_ x1_ x2_ x3_ l32 l35 x36 l70 x71 = some r) k40 ⟨_, none, 0, [], 0, F37, Nat.le_refl _, hE, .of, hS, g0_0, g1_0, H⟩ ?_
        rintro kq74 a u76 ⟨G, A68, c69, l70, x71, F72, hkq, hE, hA, hS, g0_0, g1_0, H⟩
        cases kq74 with
        | zero => cases (show none = some r from H)
        | succ k75 =>
         rw [qw.l73_s] at H
         obtain ⟨J, hE⟩ := hE.at hA
         refine sq fun K77 hK77 => pl0 (plc hE (.r 0 1 .nil) (fun a hE => pld (hK77 _ _ (sq fun K78 hK78 => ?_))))
         rcases sp H with ⟨c79, H⟩ | ⟨c79, H⟩
         ·
          replace hE := hE.kt 83 c79
          refine ct hE (wp_skip (hK78 _ _ (sq fun K80 hK80 => wp_block (sq fun K81 hK81 => pl0 ?_))))
          obtain ⟨c82, H⟩ := gd H
          have hr83 := hS.row_at (i := 1) rfl
          have hE_ := hE
          obtain ⟨b84, rfl⟩ := qCI hr83 c82.1 c82.2
          replace hE := hE_
          have hr_ := hS.row_at (i := 1) rfl
          obtain ⟨cs86, rfl, hc87⟩ := qCG hr_ qU.z x71 c82.1 c82.2
          refine plc hE (.x 0 c82 <| .cs 1 hc87 <| .nil) (fun a hE => ple hE (.al (t := 212) hS [.int .i64 0, .int .i64 0, .int .i64 0]) ?_)
          rintro _ u89 a ⟨b88, rfl, hb88, hS, hg⟩ hE
          refine ple hE (.sto hS [.int .i64 ((nth qU.z l32 x71).f0), .int .i64 ((nth qU.z l32 x71).f1), .int .i64 ((nth qU.z l32 x71).f2)]) ?_
          rintro _ u90 a ⟨rfl, hb88, hS, hz⟩ hE
          refine pld (hK81 _ _ (pl0 ?_))
          have hb52 := hS.blk_at (i := 1) rfl
          refine plc hE (.r 0 2 <| .bn 2 0 3 hb88 <| .bn 3 0 3 hb52 <| .r 4 1 <| .nil) (fun a hE => ?_)
          obtain ⟨t92, h93, H⟩ := bd H
          refine ple hE (.cl en204 (qAA.calls k75 x0_ (⟨(nth qU.z l32 x71).f0, (nth qU.z l32 x71).f1, (nth qU.z l32 x71).f2⟩ : qU) (⟨(nth qH.z x1_ x36).f0, (nth qH.z x1_ x36).f1, (nth qH.z x1_ x36).f2⟩ : qH) x2_ _ _ _ _ _ hS.own.sub g0_0 h93)) ?_
          rintro _ u91 a ⟨F94, A95, c96, rfl, hC⟩ hE
          have hs := hC.sub
          replace hS := hS.called (X := []) hC
          replace g0_0 := g0_0.mono hs
          replace g1_0 := g1_0.mono hs
          obtain ⟨c99, H⟩ := gd H
          replace hS := hS.front 5 rfl
          refine ple hE (.ap (d := qU.k) 24 hS (qCM (hS.row_at (i := 1) rfl)) c99 c96) ?_
          rintro _ u102 a ⟨A100, c101, rfl, hS, hz⟩ hE
          refine plc hE (.r 7 1 .nil) (fun a hE => pld ?_)
          refine qCD ?_
          refine hK80 _ _ (pl0 (plc hE (.r 0 2 .nil) (fun a hE => pld ?_)))
          replace hS := hS.front 1 rfl
          replace hS := hS.tail
          replace hS := hS.front 1 rfl
          replace hS := hS.tail
          replace hS := hS.front 3 rfl
          replace hS := hS.front 3 rfl
          replace hS := hS.front 3 rfl
          exact qCE ⟨k75, by omega, _, A100, c101, (l70 ++ t92), (w64 (x71 + 1)), F94, by omega, hE, .of, hS, g0_0, g1_0, H⟩
         ·
          replace hE := hE.kf 83 c79
          refine cf hE ?_
          refine wp_exit ?_
          refine hK65 _ _ (pl0 (plc hE (.r 0 2 .nil) (fun a hE => pld ?_)))
          refine qCD ?_
          refine qCD ?_
          refine hK45 _ _ (pl0 (plc hE (.r 0 2 .nil) (fun a hE => pld ?_)))
          replace hS := hS.tail
          replace hS := hS.tail
          replace hS := hS.front 1 rfl
          exact qCE ⟨k75, by omega, _, A68, c69, l70, A33, c34, l35, (w64 (x36 + 1)), F72, by omega, hE, .of, hS, g0_0, g1_0, H⟩
       ·
        replace hE := hE.kf 78 c63
        refine cf hE (sq fun K104 hK104 => sq fun K105 hK105 => pl0 (plc hE (.r 0 3 .nil) (fun a hE => pld (hK105 _ _ (wp_block ?_)))))
        refine wp_loop_ghost (fun kq112 a w' => ∃ (G : Nat → Value) (A107 : Option Addr) (c108 : Nat) (l109 : List Int) (x110 : Int), kq112 ≤ k40 ∧ Env 97 G a ∧ At G [(0, .slice A0_0 x0_.length c0_0), (2, .int .i64 x2_), (3, .int .i64 x3_), (11, .slice A107 l109.length c108), (43, .slice (some ad48) x1_.length c1_0), (44, .int .i64 (x1_.length : Int)), (45, .int .i64 x36), (51, .slice A30 l32.length c31), (52, .int .i64 (l32.length : Int)), (53, .int .i64 x110)] ∧ St W (mine W []) F w' F37 [box b52 #[.int .i64 ((nth qH.z x1_ x36).f0), .int .i64 ((nth qH.z x1_ x36).f1), .int .i64 ((nth qH.z x1_ x36).f2)] 175, row qU.k 212 (.slice A30 l32.length c31) l32, row (Kn.int .i64) 3 (.slice A107 l109.length c108) l109] ∧  qw.l111 kq112 x0_ x1_ x2_ x3_ l32 x36 l109 x110 = some r) k40 ⟨_, A33, c34, l35, 0, Nat.le_refl _, hE, .of, hS, H⟩ ?_
        rintro kq112 a u114 ⟨G, A107, c108, l109, x110, hkq, hE, hA, hS, H⟩
        cases kq112 with
        | zero => cases (show none = some r from H)
        | succ k113 =>
         rw [qw.l111_s] at H
         obtain ⟨J, hE⟩ := hE.at hA
         refine sq fun K115 hK115 => pl0 (plc hE (.r 0 1 .nil) (fun a hE => pld (hK115 _ _ (sq fun K116 hK116 => ?_))))
         rcases sp H with ⟨c117, H⟩ | ⟨c117, H⟩
         ·
          replace hE := hE.kt 54 c117
          refine ct hE (wp_skip (hK116 _ _ (sq fun K118 hK118 => wp_block (sq fun K119 hK119 => pl0 ?_))))
          obtain ⟨c120, H⟩ := gd H
          have hr121 := hS.row_at (i := 1) rfl
          have hE_ := hE
          obtain ⟨b122, rfl⟩ := qCI hr121 c120.1 c120.2
          replace hE := hE_
          have hr_ := hS.row_at (i := 1) rfl
          obtain ⟨cs124, rfl, hc125⟩ := qCG hr_ qU.z x110 c120.1 c120.2
          refine plc hE (.x 0 c120 <| .cs 1 hc125 <| .nil) (fun a hE => ple hE (.al (t := 212) hS [.int .i64 0, .int .i64 0, .int .i64 0]) ?_)
          rintro _ u127 a ⟨b126, rfl, hb126, hS, hg⟩ hE
          refine ple hE (.sto hS [.int .i64 ((nth qU.z l32 x110).f0), .int .i64 ((nth qU.z l32 x110).f1), .int .i64 ((nth qU.z l32 x110).f2)]) ?_
          rintro _ u128 a ⟨rfl, hb126, hS, hz⟩ hE
          refine pld (hK119 _ _ (sq fun K129 hK129 => ?_))
          have J138 : ∀ kq136, kq136 ≤ k113 → ∀ (G : Nat → Value) (y134 : Bool) (a : Act) (w' : World), Env 97 G a → At G [(0, .slice A0_0 x0_.length c0_0), (2, .int .i64 x2_), (3, .int .i64 x3_), (11, .slice A107 l109.length c108), (18, .pointer (some ⟨b126, 0, none⟩)), (43, .slice (some ad48) x1_.length c1_0), (44, .int .i64 (x1_.length : Int)), (45, .int .i64 x36), (51, .slice (some ⟨b122, 0, none⟩) l32.length c31), (52, .int .i64 (l32.length : Int)), (53, .int .i64 x110), (67, .bool y134)] → St W (mine W []) F w' F37 [box b126 #[.int .i64 ((nth qU.z l32 x110).f0), .int .i64 ((nth qU.z l32 x110).f1), .int .i64 ((nth qU.z l32 x110).f2)] 212, box b52 #[.int .i64 ((nth qH.z x1_ x36).f0), .int .i64 ((nth qH.z x1_ x36).f1), .int .i64 ((nth qH.z x1_ x36).f2)] 175, row qU.k 212 (.slice (some ⟨b122, 0, none⟩) l32.length c31) l32, row (Kn.int .i64) 3 (.slice A107 l109.length c108) l109] → qw.j135 kq136 x0_ x1_ x2_ x3_ l32 x36 l109 x110 y134 = some r → K129 a w' := by
           intro kq136 hkq G y134 a u139 hE hA hS H
           cases kq136 with
           | zero => cases (show none = some r from H)
           | succ k137 =>
            rw [qw.j135_s] at H
            obtain ⟨J, hE⟩ := hE.at hA
            refine hK129 _ _ ?_
            rcases sp H with ⟨c140, H⟩ | ⟨c140, H⟩
            ·
             replace hE := hE.bt 67 c140
             refine ct hE (pl0 ?_)
             have hb126 := hS.blk_at (i := 0) rfl
             refine plc hE (.r 0 2 <| .b 2 2 hb126 <| .nil) (fun a hE => ple hE (.lit (d := (Kn.int .i64)) (e := 3) hS [(nth qU.z l32 x110).f2] (.cons rfl .nil)) ?_)
             rintro _ u141 a ⟨A142, c143, rfl, hS, hg⟩ hE
             obtain ⟨c145, H⟩ := gd H
             replace hS := hS.front 4 rfl
             refine ple hE (.ap (d := (Kn.int .i64)) 8 hS (qCM (hS.row_at (i := 1) rfl)) c145 c143) ?_
             rintro _ u148 a ⟨A146, c147, rfl, hS, hz⟩ hE
             refine plc hE (.r 5 1 .nil) (fun a hE => pld ?_)
             refine qCD ?_
             refine hK118 _ _ (pl0 (plc hE (.r 0 2 .nil) (fun a hE => pld ?_)))
             replace hS := hS.front 1 rfl
             replace hS := hS.tail
             replace hS := hS.front 1 rfl
             replace hS := hS.tail
             replace hS := hS.front 2 rfl
             replace hS := hS.front 2 rfl
             exact qCE ⟨k137, by omega, _, A146, c147, (l109 ++ [(nth qU.z l32 x110).f2]), (w64 (x110 + 1)), by omega, hE, .of, hS, H⟩
            ·
             replace hE := hE.bf 67 c140
             refine cf hE (wp_skip ?_)
             refine qCD ?_
             refine hK118 _ _ (pl0 (plc hE (.r 0 2 .nil) (fun a hE => pld ?_)))
             replace hS := hS.tail
             exact qCE ⟨k137, by omega, _, A107, c108, l109, (w64 (x110 + 1)), by omega, hE, .of, hS, H⟩
          refine pl0 (plc hE (.r 0 5 .nil) (fun a hE => ?_))
          rcases sp H with ⟨c130, H⟩ | ⟨c130, H⟩
          ·
           replace hE := hE.kt 61 c130
           refine plc hE (.r 5 2 <| .b 7 2 hb126 <| .nil) (fun a hE => ?_)
           obtain ⟨t132, h133, H⟩ := bd H
           refine ple hE (.cl en118 (qAT.calls k113 l109 ((nth qU.z l32 x110).f2) _ _ _ _ _ (Sub.refl _) (hS.rd_at (i := 3) rfl) h133)) ?_
           rintro _ u131 a ⟨_, rfl, hC⟩ hE
           replace hS := hS.lent hC
           refine plc hE (.r 9 2 .nil) (fun a hE => pld ?_)
           exact J138 _ (by omega) _ (!t132) _ _ hE .of hS H
          ·
           replace hE := hE.kf 61 c130
           refine plc hE (.r 5 6 .nil) (fun a hE => pld ?_)
           exact J138 _ (by omega) _ false _ _ hE .of hS H
         ·
          replace hE := hE.kf 54 c117
          refine cf hE ?_
          refine wp_exit ?_
          refine hK104 _ _ (pl0 (plc hE (.r 0 1 .nil) (fun a hE => pld ?_)))
          refine qCD ?_
          refine qCD ?_
          refine hK45 _ _ (pl0 (plc hE (.r 0 2 .nil) (fun a hE => pld ?_)))
          replace hS := hS.nilrow qU.k 212
          replace hS := hS.front 1 rfl
          replace hS := hS.tail
          replace hS := hS.front 1 rfl
          replace hS := hS.tail
          exact qCE ⟨k113, by omega, _, none, 0, [], A107, c108, l109, (w64 (x36 + 1)), F37, by omega, hE, .of, hS, g0_0, g1_0, H⟩
     ·
      replace hE := hE.kf 46 c44
      refine cf hE ?_
      refine wp_exit ?_
      refine hK26 _ _ (sq fun K152 hK152 => pl0 (plc hE (.r 0 3 .nil) (fun a hE => pld (hK152 _ _ (wp_ret ?_)))))
      replace hS := hS.tail
      obtain rfl := si H
      exact rtN hE ⟨_, rfl, _, _, _, rfl, hS⟩
 refine pl0 (plc hE (.r 0 1 .nil) (fun a hE => ?_))
 obtain ⟨t5, h6, H⟩ := bd H
 refine ple hE (.cl en80 (qAG.calls k x0_ _ _ _ _ _ hS.own.sub g0_0 h6)) ?_
 rintro _ u4 a ⟨_, rfl, hC⟩ hE
 replace hS := hS.lent hC
 refine plc hE (.r 2 2 .nil) (fun a hE => ?_)
 rcases sp H with ⟨c7, H⟩ | ⟨c7, H⟩
 ·
  replace hE := hE.ktn 22 c7
  refine plc hE (.r 4 1 .nil) (fun a hE => ?_)
  obtain ⟨t9, h10, H⟩ := bd H
  refine ple hE (.cl en203 (qAc.calls k x1_ _ _ _ _ _ hS.own.sub g1_0 h10)) ?_
  rintro _ u8 a ⟨_, rfl, hC⟩ hE
  replace hS := hS.lent hC
  refine plc hE (.r 6 3 .nil) (fun a hE => ?_)
  rcases sp H with ⟨c11, H⟩ | ⟨c11, H⟩
  ·
   replace hE := hE.ktn 27 c11
   refine plc hE (.r 9 4 .nil) (fun a hE => ?_)
   rcases sp H with ⟨c12, H⟩ | ⟨c12, H⟩
   ·
    replace hE := hE.kt 31 c12
    refine plc hE (.r 13 11 .nil) (fun a hE => pld ?_)
    exact J19 _ (by omega) _ true _ _ hE .of hS H
   ·
    replace hE := hE.kf 31 c12
    refine plc hE (.r 13 4 .nil) (fun a hE => ?_)
    rcases sp H with ⟨c13, H⟩ | ⟨c13, H⟩
    ·
     replace hE := hE.kt 35 c13
     refine plc hE (.r 17 7 .nil) (fun a hE => pld ?_)
     exact J19 _ (by omega) _ true _ _ hE .of hS H
    ·
     replace hE := hE.kf 35 c13
     refine plc hE (.r 17 4 .nil) (fun a hE => ?_)
     rcases sp H with ⟨c14, H⟩ | ⟨c14, H⟩
     ·
      replace hE := hE.kt 39 c14
      refine plc hE (.r 21 3 .nil) (fun a hE => pld ?_)
      exact J19 _ (by omega) _ true _ _ hE .of hS H
     ·
      replace hE := hE.kf 39 c14
      refine plc hE (.r 21 3 .nil) (fun a hE => pld ?_)
      exact J19 _ (by omega) _ (decide (x3_ > 3)) _ _ hE .of hS H
  ·
   replace hE := hE.kfn 27 c11
   refine plc hE (.r 9 15 .nil) (fun a hE => pld ?_)
   exact J19 _ (by omega) _ true _ _ hE .of hS H
 ·
  replace hE := hE.kfn 22 c7
  refine plc hE (.r 4 20 .nil) (fun a hE => pld ?_)
  exact J19 _ (by omega) _ true _ _ hE .of hS H
def qBu.f (k : Nat) (x0_ : List qA) (x1_ : Int) (x2_ : Int) : Option (List Int) := (qAr.f k x2_).bind fun t4 => ((qw.f k x0_ t4 x1_ x2_).bind fun t14 => (some t14.1))
def qBu.Post (W F : World) (r : List Int) (v : Value) (w' : World) : Prop := ∃ (F' : World) (RA0_0 : Option Addr) (rc0_0 : Nat), v = .slice RA0_0 r.length rc0_0 ∧ St W (mine W []) F w' F' [row (Kn.int .i64) 3 (.slice RA0_0 r.length rc0_0) r]
theorem qBu.calls (k : Nat) (x0_ : List qA) (x1_ : Int) (x2_ : Int) (A0_0 : Option Addr) (c0_0 : Nat) (r : List Int) (W F : World) (hown : Sub F W) (g0_0 : Rd qA.k F A0_0 c0_0 x0_) (H : qBu.f k x0_ x1_ x2_ = some r) :
    Calls Tryz.prog 122 #[.slice A0_0 x0_.length c0_0, .int .i64 x1_, .int .i64 x2_] W fun e w' => ∃ v, e = .returned v ∧ qBu.Post W F r v w' := by
 have hS := St.start (Own.nil hown)
 unfold qBu.f at H
 refine enter (n := 19) rfl rfl rfl (Nat.le_of_ble_eq_true rfl) (fun a hE => ?_)
 refine sq fun K1 hK1 => pl0 (plc hE (.r 0 1 .nil) (fun a hE => pld (hK1 _ _ (sq fun K2 hK2 => pl0 (plc hE (.r 0 2 .nil) (fun a hE => ?_))))))
 obtain ⟨t4, h5, H⟩ := bd H
 refine ple hE (.cl en167 (qAr.calls k x2_ _ _ _ hS.own.sub h5)) ?_
 rintro _ u3 a ⟨F6, A7, c8, rfl, hC⟩ hE
 have hs := hC.sub
 replace hS := hS.called (X := []) hC
 replace g0_0 := g0_0.mono hs
 refine plc hE (.r 3 2 .nil) (fun a hE => ?_)
 obtain ⟨F11, hs, g12, hS⟩ := hS.give
 replace g0_0 := g0_0.mono hs
 obtain ⟨t14, h15, H⟩ := bd H
 refine ple hE (.cl en166 (qw.calls k x0_ t4 x1_ x2_ _ _ _ _ _ _ _ hS.own.sub g0_0 g12 h15)) ?_
 rintro _ u13 a ⟨F16, A17, c18, rfl, hC⟩ hE
 have hs := hC.sub
 replace hS := hS.called (X := []) hC
 replace g0_0 := g0_0.mono hs
 replace g12 := g12.mono hs
 refine plc hE (.r 6 5 .nil) (fun a hE => pld (hK2 _ _ (sq fun K21 hK21 => pl0 (plc hE (.r 0 2 .nil) (fun a hE => pld (hK21 _ _ (wp_ret ?_)))))))
 obtain rfl := si H
 exact rt1 hE ⟨_, rfl, _, _, _, rfl, hS⟩
def qBg.f (k : Nat) (x0_ : qJ) (x1_ : Int) : Option (List Int) := (qBt.f k x0_ x1_).bind fun t7 => (if t7.2 = true then (if 0 ≤ t7.1 ∧ t7.1 < (x0_.f5.length : Int) then ((qAN.f ((nth qK.z x0_.f5 t7.1).f1)).bind fun t21 => (some t21)) else (none)) else ((qBu.f k x0_.f4 x1_ x0_.f1).bind fun t30 => (some t30)))
def qBg.Post (W F : World) (r : List Int) (v : Value) (w' : World) : Prop := ∃ (F' : World) (RA0_0 : Option Addr) (rc0_0 : Nat), v = .slice RA0_0 r.length rc0_0 ∧ St W (mine W []) F w' F' [row (Kn.int .i64) 3 (.slice RA0_0 r.length rc0_0) r]
theorem qBg.calls (k : Nat) (x0_ : qJ) (x1_ : Int) (A0_4 : Option Addr) (c0_4 : Nat) (A0_5 : Option Addr) (c0_5 : Nat) (A0_6 : Option Addr) (c0_6 : Nat) (r : List Int) (W F : World) (hown : Sub F W) (g0_4 : Rd qA.k F A0_4 c0_4 x0_.f4) (g0_5 : Rd qK.k F A0_5 c0_5 x0_.f5) (g0_6 : Rd qC.k F A0_6 c0_6 x0_.f6) (H : qBg.f k x0_ x1_ = some r) :
    Calls Tryz.prog 71 #[.agg #[.int .i64 x0_.f0, .int .i64 x0_.f1, .int .i64 x0_.f2, .int .i64 x0_.f3, .slice A0_4 x0_.f4.length c0_4, .slice A0_5 x0_.f5.length c0_5, .slice A0_6 x0_.f6.length c0_6], .int .i64 x1_] W fun e w' => ∃ v, e = .returned v ∧ qBg.Post W F r v w' := by
 have hS := St.start (Own.nil hown)
 unfold qBg.f at H
 refine enter (n := 27) rfl rfl rfl (Nat.le_of_ble_eq_true rfl) (fun a hE => ?_)
 refine sq fun K1 hK1 => pl0 (ple hE (.bx (t := 26) hS [.int .i64 x0_.f0, .int .i64 x0_.f1, .int .i64 x0_.f2, .int .i64 x0_.f3, .slice A0_4 x0_.f4.length c0_4, .slice A0_5 x0_.f5.length c0_5, .slice A0_6 x0_.f6.length c0_6]) ?_)
 rintro _ u3 a ⟨b2, rfl, hb2, hS, hg⟩ hE
 refine plc hE (.r 1 1 .nil) (fun a hE => pld (hK1 _ _ (sq fun K4 hK4 => sq fun K5 hK5 => pl0 (plc hE (.bn 0 0 7 hb2 <| .r 1 1 <| .nil) (fun a hE => ?_)))))
 obtain ⟨t7, h8, H⟩ := bd H
 refine ple hE (.cl en121 (qBt.calls k x0_ x1_ _ _ _ _ _ _ _ _ _ hS.own.sub g0_4 g0_5 g0_6 h8)) ?_
 rintro _ u6 a ⟨_, rfl, hC⟩ hE
 replace hS := hS.lent hC
 refine plc hE (.r 3 5 .nil) (fun a hE => pld (hK5 _ _ (sq fun K9 hK9 => pl0 (plc hE (.r 0 1 .nil) (fun a hE => pld (hK9 _ _ ?_))))))
 rcases sp H with ⟨c10, H⟩ | ⟨c10, H⟩
 ·
  replace hE := hE.bt 13 c10
  refine ct hE (sq fun K11 hK11 => pl0 ?_)
  have hb2 := hS.blk_at (i := 0) rfl
  obtain ⟨c12, H⟩ := gd H
  have hE_ := hE
  obtain ⟨ad13, rfl⟩ := g0_5.addr c12.1 c12.2
  replace hE := hE_
  obtain ⟨cs15, ⟨A17, c18, rfl, g19⟩, hc16⟩ := g0_5.el qK.z t7.1 c12.1 c12.2
  refine plc hE (.r 0 1 <| .b 1 5 hb2 <| .r 2 1 <| .x 3 c12 <| .r 4 1 <| .c 5 (hS.fc hc16 1) <| .nil) (fun a hE => ?_)
  obtain ⟨t21, h22, H⟩ := bd H
  refine ple hE (.cl en112 (qAN.calls ((nth qK.z x0_.f5 t7.1).f1) _ _ _ _ _ hS.own.sub g19 h22)) ?_
  rintro _ u20 a ⟨F23, A24, c25, rfl, hC⟩ hE
  have hs := hC.sub
  replace hS := hS.called (X := []) hC
  replace g0_4 := g0_4.mono hs
  replace g0_5 := g0_5.mono hs
  replace g0_6 := g0_6.mono hs
  replace g19 := g19.mono hs
  refine plc hE (.r 7 1 .nil) (fun a hE => pld (hK11 _ _ (wp_ret (qCB ?_))))
  replace hS := hS.front 1 rfl
  replace hS := hS.tail
  obtain rfl := si H
  exact rt1 hE ⟨_, rfl, _, _, _, rfl, hS⟩
 ·
  replace hE := hE.bf 13 c10
  refine cf hE (wp_skip (hK4 _ _ (sq fun K28 hK28 => pl0 ?_)))
  have hb2 := hS.blk_at (i := 0) rfl
  refine plc hE (.r 0 1 <| .b 1 4 hb2 <| .r 2 2 <| .b 4 1 hb2 <| .nil) (fun a hE => ?_)
  obtain ⟨t30, h31, H⟩ := bd H
  refine ple hE (.cl en122 (qBu.calls k x0_.f4 x1_ x0_.f1 _ _ _ _ _ hS.own.sub g0_4 h31)) ?_
  rintro _ u29 a ⟨F32, A33, c34, rfl, hC⟩ hE
  have hs := hC.sub
  replace hS := hS.called (X := []) hC
  replace g0_4 := g0_4.mono hs
  replace g0_5 := g0_5.mono hs
  replace g0_6 := g0_6.mono hs
  refine plc hE (.r 6 1 .nil) (fun a hE => pld (hK28 _ _ (wp_ret ?_)))
  replace hS := hS.front 1 rfl
  replace hS := hS.tail
  obtain rfl := si H
  exact rt1 hE ⟨_, rfl, _, _, _, rfl, hS⟩
def qBS.f (x0_ : qA) (x1_ : Int) : Option Int := (qAk.f x0_.f0 x1_).bind fun t6 => (some t6)
def qBS.Post (W F : World) (r : Int) (v : Value) (w' : World) : Prop := ∃ (F' : World), v = .int .i64 r ∧ St W (mine W []) F w' F' []
theorem qBS.calls (x0_ : qA) (x1_ : Int) (r : Int) (W F : World) (hown : Sub F W) (H : qBS.f x0_ x1_ = some r) :
    Calls Tryz.prog 174 #[.agg #[.int .i64 x0_.f0, .int .i64 x0_.f1, .int .i64 x0_.f2, .int .i64 x0_.f3, .bool x0_.f4, .bool x0_.f5], .int .i64 x1_] W fun e w' => ∃ v, e = .returned v ∧ qBS.Post W F r v w' := by
 have hS := St.start (Own.nil hown)
 unfold qBS.f at H
 refine enter (n := 9) rfl rfl rfl (Nat.le_of_ble_eq_true rfl) (fun a hE => ?_)
 refine sq fun K1 hK1 => pl0 (ple hE (.bx (t := 104) hS [.int .i64 x0_.f0, .int .i64 x0_.f1, .int .i64 x0_.f2, .int .i64 x0_.f3, .bool x0_.f4, .bool x0_.f5]) ?_)
 rintro _ u3 a ⟨b2, rfl, hb2, hS, hg⟩ hE
 refine plc hE (.r 1 1 .nil) (fun a hE => pld (hK1 _ _ (sq fun K4 hK4 => pl0 (plc hE (.r 0 1 <| .b 1 0 hb2 <| .r 2 1 <| .nil) (fun a hE => ?_)))))
 obtain ⟨t6, h7, H⟩ := bd H
 refine ple hE (.cl en161 (qAk.calls x0_.f0 x1_ _ _ _ hS.own.sub h7)) ?_
 rintro _ u5 a ⟨_, rfl, hC⟩ hE
 replace hS := hS.lent hC
 refine plc hE (.r 4 1 .nil) (fun a hE => pld (hK4 _ _ (wp_ret ?_)))
 replace hS := hS.tail
 obtain rfl := si H
 exact rt1 hE ⟨_, rfl, _, rfl, hS⟩
def qN.l7 : Nat → List qA → Int → Int → Int → Option (Int × Bool)
  | 0, _, _, _, _ => none
  | k + 1, x0_, x1_, x5, x6 => if x5 < x6 then (if 0 ≤ (w64 ((IntKind.u64.wrap (w64 (x5 + x6))).fdiv 2)) ∧ (w64 ((IntKind.u64.wrap (w64 (x5 + x6))).fdiv 2)) < (x0_.length : Int) then ((qBS.f (⟨(nth qA.z x0_ (w64 ((IntKind.u64.wrap (w64 (x5 + x6))).fdiv 2))).f0, (nth qA.z x0_ (w64 ((IntKind.u64.wrap (w64 (x5 + x6))).fdiv 2))).f1, (nth qA.z x0_ (w64 ((IntKind.u64.wrap (w64 (x5 + x6))).fdiv 2))).f2, (nth qA.z x0_ (w64 ((IntKind.u64.wrap (w64 (x5 + x6))).fdiv 2))).f3, (nth qA.z x0_ (w64 ((IntKind.u64.wrap (w64 (x5 + x6))).fdiv 2))).f4, (nth qA.z x0_ (w64 ((IntKind.u64.wrap (w64 (x5 + x6))).fdiv 2))).f5⟩ : qA) x1_).bind fun t22 => (if t22 < 0 then (qN.l7 k x0_ x1_ (w64 ((w64 ((IntKind.u64.wrap (w64 (x5 + x6))).fdiv 2)) + 1)) x6) else (qN.l7 k x0_ x1_ x5 (w64 ((IntKind.u64.wrap (w64 (x5 + x6))).fdiv 2))))) else (none)) else (if x5 < (x0_.length : Int) then (if 0 ≤ x5 ∧ x5 < (x0_.length : Int) then ((qBS.f (⟨(nth qA.z x0_ x5).f0, (nth qA.z x0_ x5).f1, (nth qA.z x0_ x5).f2, (nth qA.z x0_ x5).f3, (nth qA.z x0_ x5).f4, (nth qA.z x0_ x5).f5⟩ : qA) x1_).bind fun t33 => (some (x5, (t33 == 0)))) else (none)) else (some (x5, false)))
theorem qN.l7_s (k : Nat) (x0_ : List qA) (x1_ : Int) (x5 : Int) (x6 : Int) : qN.l7 (k + 1) x0_ x1_ x5 x6 = (if x5 < x6 then (if 0 ≤ (w64 ((IntKind.u64.wrap (w64 (x5 + x6))).fdiv 2)) ∧ (w64 ((IntKind.u64.wrap (w64 (x5 + x6))).fdiv 2)) < (x0_.length : Int) then ((qBS.f (⟨(nth qA.z x0_ (w64 ((IntKind.u64.wrap (w64 (x5 + x6))).fdiv 2))).f0, (nth qA.z x0_ (w64 ((IntKind.u64.wrap (w64 (x5 + x6))).fdiv 2))).f1, (nth qA.z x0_ (w64 ((IntKind.u64.wrap (w64 (x5 + x6))).fdiv 2))).f2, (nth qA.z x0_ (w64 ((IntKind.u64.wrap (w64 (x5 + x6))).fdiv 2))).f3, (nth qA.z x0_ (w64 ((IntKind.u64.wrap (w64 (x5 + x6))).fdiv 2))).f4, (nth qA.z x0_ (w64 ((IntKind.u64.wrap (w64 (x5 + x6))).fdiv 2))).f5⟩ : qA) x1_).bind fun t22 => (if t22 < 0 then (qN.l7 k x0_ x1_ (w64 ((w64 ((IntKind.u64.wrap (w64 (x5 + x6))).fdiv 2)) + 1)) x6) else (qN.l7 k x0_ x1_ x5 (w64 ((IntKind.u64.wrap (w64 (x5 + x6))).fdiv 2))))) else (none)) else (if x5 < (x0_.length : Int) then (if 0 ≤ x5 ∧ x5 < (x0_.length : Int) then ((qBS.f (⟨(nth qA.z x0_ x5).f0, (nth qA.z x0_ x5).f1, (nth qA.z x0_ x5).f2, (nth qA.z x0_ x5).f3, (nth qA.z x0_ x5).f4, (nth qA.z x0_ x5).f5⟩ : qA) x1_).bind fun t33 => (some (x5, (t33 == 0)))) else (none)) else (some (x5, false)))) := by kernel_rfl
def qN.f (k : Nat) (x0_ : List qA) (x1_ : Int) : Option (Int × Bool) := qN.l7 k x0_ x1_ 0 (x0_.length : Int)
def qN.Post (W F : World) (r : Int × Bool) (v : Value) (w' : World) : Prop := ∃ (F' : World), v = .tuple #[.int .i64 r.1, .bool r.2] ∧ St W (mine W []) F w' F' []
theorem qN.calls (k : Nat) (x0_ : List qA) (x1_ : Int) (A0_0 : Option Addr) (c0_0 : Nat) (r : Int × Bool) (W F : World) (hown : Sub F W) (g0_0 : Rd qA.k F A0_0 c0_0 x0_) (H : qN.f k x0_ x1_ = some r) :
    Calls Tryz.prog 173 #[.slice A0_0 x0_.length c0_0, .int .i64 x1_, .func (.func 174) #[] #[]] W fun e w' => ∃ v, e = .returned v ∧ qN.Post W F r v w' := by
 have hS := St.start (Own.nil hown)
 unfold qN.f at H
 refine enter (n := 49) rfl rfl rfl (Nat.le_of_ble_eq_true rfl) (fun a hE => ?_)
 refine sq fun K1 hK1 => pl0 (plc hE (.r 0 2 .nil) (fun a hE => pld (hK1 _ _ (sq fun K2 hK2 => pl0 (plc hE (.r 0 3 .nil) (fun a hE => pld (hK2 _ _ (sq fun K3 hK3 => pl0 (plc hE (.r 0 3 .nil) (fun a hE => pld (hK3 _ _ (sq fun K4 hK4 => wp_block ?_))))))))))))
 refine wp_loop_ghost (fun kq8 a w' => ∃ (G : Nat → Value) (x5 : Int) (x6 : Int), kq8 ≤ k ∧ Env 49 G a ∧ At G [(0, .slice A0_0 x0_.length c0_0), (1, .int .i64 x1_), (2, .func (.func 174) #[] #[]), (8, .int .i64 (x0_.length : Int)), (9, .int .i64 x5), (10, .int .i64 x6)] ∧ St W (mine W []) F w' F [] ∧  qN.l7 kq8 x0_ x1_ x5 x6 = some r) k ⟨_, 0, (x0_.length : Int), Nat.le_refl _, hE, .of, hS, H⟩ ?_
 rintro kq8 a u10 ⟨G, x5, x6, hkq, hE, hA, hS, H⟩
 cases kq8 with
 | zero => cases (show none = some r from H)
 | succ k9 =>
  rw [qN.l7_s] at H
  obtain ⟨J, hE⟩ := hE.at hA
  refine sq fun K11 hK11 => sq fun K12 hK12 => pl0 (plc hE (.r 0 3 .nil) (fun a hE => pld (hK12 _ _ ?_)))
  rcases sp H with ⟨c13, H⟩ | ⟨c13, H⟩
  ·
   replace hE := hE.kt 17 c13
   refine ct hE (wp_skip (hK11 _ _ (wp_block (sq fun K14 hK14 => pl0 (plc hE (.r 0 7 .nil) (fun a hE => pld (hK14 _ _ (sq fun K15 hK15 => pl0 ?_))))))))
   obtain ⟨c16, H⟩ := gd H
   have hE_ := hE
   obtain ⟨ad17, rfl⟩ := g0_0.addr c16.1 c16.2
   replace hE := hE_
   obtain ⟨cs19, rfl, hc20⟩ := g0_0.el qA.z (w64 ((IntKind.u64.wrap (w64 (x5 + x6))).fdiv 2)) c16.1 c16.2
   refine plc hE (.r 0 3 <| .x 3 c16 <| .cs 4 (hS.fcs hc20) <| .r 5 1 <| .nil) (fun a hE => ?_)
   obtain ⟨t22, h23, H⟩ := bd H
   refine ple hE (.cl en174 (qBS.calls (⟨(nth qA.z x0_ (w64 ((IntKind.u64.wrap (w64 (x5 + x6))).fdiv 2))).f0, (nth qA.z x0_ (w64 ((IntKind.u64.wrap (w64 (x5 + x6))).fdiv 2))).f1, (nth qA.z x0_ (w64 ((IntKind.u64.wrap (w64 (x5 + x6))).fdiv 2))).f2, (nth qA.z x0_ (w64 ((IntKind.u64.wrap (w64 (x5 + x6))).fdiv 2))).f3, (nth qA.z x0_ (w64 ((IntKind.u64.wrap (w64 (x5 + x6))).fdiv 2))).f4, (nth qA.z x0_ (w64 ((IntKind.u64.wrap (w64 (x5 + x6))).fdiv 2))).f5⟩ : qA) x1_ _ _ _ hS.own.sub h23)) ?_
   rintro _ u21 a ⟨_, rfl, hC⟩ hE
   replace hS := hS.lent hC
   refine plc hE (.r 7 1 .nil) (fun a hE => pld (hK15 _ _ ?_))
   rcases sp H with ⟨c24, H⟩ | ⟨c24, H⟩
   ·
    replace hE := hE.kt 31 c24
    refine ct hE (pl0 (plc hE (.r 0 3 .nil) (fun a hE => pld ?_)))
    refine qCD ?_
    exact qCE ⟨k9, by omega, _, (w64 ((w64 ((IntKind.u64.wrap (w64 (x5 + x6))).fdiv 2)) + 1)), x6, by omega, hE, .of, hS, H⟩
   ·
    replace hE := hE.kf 31 c24
    refine cf hE (pl0 (plc hE (.r 0 2 .nil) (fun a hE => pld ?_)))
    refine qCD ?_
    exact qCE ⟨k9, by omega, _, x5, (w64 ((IntKind.u64.wrap (w64 (x5 + x6))).fdiv 2)), by omega, hE, .of, hS, H⟩
  ·
   replace hE := hE.kf 17 c13
   refine cf hE ?_
   refine wp_exit ?_
   refine hK4 _ _ (sq fun K25 hK25 => pl0 (plc hE (.r 0 5 .nil) (fun a hE => ?_)))
   rcases sp H with ⟨c26, H⟩ | ⟨c26, H⟩
   ·
    replace hE := hE.kt 39 c26
    obtain ⟨c27, H⟩ := gd H
    have hE_ := hE
    obtain ⟨ad28, rfl⟩ := g0_0.addr c27.1 c27.2
    replace hE := hE_
    obtain ⟨cs30, rfl, hc31⟩ := g0_0.el qA.z x5 c27.1 c27.2
    refine plc hE (.r 5 3 <| .x 8 c27 <| .cs 9 (hS.fcs hc31) <| .r 10 1 <| .nil) (fun a hE => ?_)
    obtain ⟨t33, h34, H⟩ := bd H
    refine ple hE (.cl en174 (qBS.calls (⟨(nth qA.z x0_ x5).f0, (nth qA.z x0_ x5).f1, (nth qA.z x0_ x5).f2, (nth qA.z x0_ x5).f3, (nth qA.z x0_ x5).f4, (nth qA.z x0_ x5).f5⟩ : qA) x1_ _ _ _ hS.own.sub h34)) ?_
    rintro _ u32 a ⟨_, rfl, hC⟩ hE
    replace hS := hS.lent hC
    refine plc hE (.r 12 4 .nil) (fun a hE => pld (hK25 _ _ (wp_ret ?_)))
    obtain rfl := si H
    exact rtN hE ⟨_, rfl, _, rfl, hS⟩
   ·
    replace hE := hE.kf 39 c26
    refine plc hE (.r 5 11 .nil) (fun a hE => pld (hK25 _ _ (wp_ret ?_)))
    obtain rfl := si H
    exact rtN hE ⟨_, rfl, _, rfl, hS⟩
def qBG.j15 : Nat → List qA → Int × Bool → Bool → Option (qA × Bool)
  | 0, _, _, _ => none
  | k + 1, x0_, t6, y14 => if y14 = true then (some ((⟨0, 0, 0, 0, false, false⟩ : qA), false)) else (if 0 ≤ t6.1 ∧ t6.1 < (x0_.length : Int) then (some ((⟨(nth qA.z x0_ t6.1).f0, (nth qA.z x0_ t6.1).f1, (nth qA.z x0_ t6.1).f2, (nth qA.z x0_ t6.1).f3, (nth qA.z x0_ t6.1).f4, (nth qA.z x0_ t6.1).f5⟩ : qA), true)) else (none))
theorem qBG.j15_s (k : Nat) (x0_ : List qA) (t6 : Int × Bool) (y14 : Bool) : qBG.j15 (k + 1) x0_ t6 y14 = (if y14 = true then (some ((⟨0, 0, 0, 0, false, false⟩ : qA), false)) else (if 0 ≤ t6.1 ∧ t6.1 < (x0_.length : Int) then (some ((⟨(nth qA.z x0_ t6.1).f0, (nth qA.z x0_ t6.1).f1, (nth qA.z x0_ t6.1).f2, (nth qA.z x0_ t6.1).f3, (nth qA.z x0_ t6.1).f4, (nth qA.z x0_ t6.1).f5⟩ : qA), true)) else (none))) := by kernel_rfl
def qBG.f (k : Nat) (x0_ : List qA) (x1_ : Int) : Option (qA × Bool) := (qN.f k x0_ x1_).bind fun t6 => (if t6.2 = true then ((qAG.f k x0_).bind fun t12 => (qBG.j15 k x0_ t6 (!(t12 == 0)))) else (qBG.j15 k x0_ t6 true))
def qBG.Post (W F : World) (r : qA × Bool) (v : Value) (w' : World) : Prop := ∃ (F' : World), v = .tuple #[.agg #[.int .i64 r.1.f0, .int .i64 r.1.f1, .int .i64 r.1.f2, .int .i64 r.1.f3, .bool r.1.f4, .bool r.1.f5], .bool r.2] ∧ St W (mine W []) F w' F' []
theorem qBG.calls (k : Nat) (x0_ : List qA) (x1_ : Int) (A0_0 : Option Addr) (c0_0 : Nat) (r : qA × Bool) (W F : World) (hown : Sub F W) (g0_0 : Rd qA.k F A0_0 c0_0 x0_) (H : qBG.f k x0_ x1_ = some r) :
    Calls Tryz.prog 127 #[.slice A0_0 x0_.length c0_0, .int .i64 x1_] W fun e w' => ∃ v, e = .returned v ∧ qBG.Post W F r v w' := by
 have hS := St.start (Own.nil hown)
 unfold qBG.f at H
 refine enter (n := 26) rfl rfl rfl (Nat.le_of_ble_eq_true rfl) (fun a hE => ?_)
 refine sq fun K1 hK1 => pl0 (ple hE (.al (t := 104) hS [.int .i64 0, .int .i64 0, .int .i64 0, .int .i64 0, .bool false, .bool false]) ?_)
 rintro _ u3 a ⟨b2, rfl, hb2, hS, hg⟩ hE
 refine plc hE (.r 1 1 .nil) (fun a hE => pld (hK1 _ _ (sq fun K4 hK4 => pl0 (plc hE (.r 0 2 .nil) (fun a hE => ?_)))))
 obtain ⟨t6, h7, H⟩ := bd H
 refine ple hE (.cl en173 (qN.calls k x0_ x1_ _ _ _ _ _ hS.own.sub g0_0 h7)) ?_
 rintro _ u5 a ⟨_, rfl, hC⟩ hE
 replace hS := hS.lent hC
 refine plc hE (.r 3 5 .nil) (fun a hE => pld (hK4 _ _ (sq fun K8 hK8 => sq fun K9 hK9 => ?_)))
 have J18 : ∀ kq16, kq16 ≤ k → ∀ (G : Nat → Value) (y14 : Bool) (a : Act) (w' : World), Env 26 G a → At G [(0, .slice A0_0 x0_.length c0_0), (4, .pointer (some ⟨b2, 0, none⟩)), (6, .int .i64 t6.1), (20, .bool y14)] → St W (mine W []) F w' F [box b2 #[.int .i64 0, .int .i64 0, .int .i64 0, .int .i64 0, .bool false, .bool false] 104] → qBG.j15 kq16 x0_ t6 y14 = some r → K9 a w' := by
  intro kq16 hkq G y14 a u19 hE hA hS H
  cases kq16 with
  | zero => cases (show none = some r from H)
  | succ k17 =>
   rw [qBG.j15_s] at H
   obtain ⟨J, hE⟩ := hE.at hA
   refine hK9 _ _ ?_
   rcases sp H with ⟨c20, H⟩ | ⟨c20, H⟩
   ·
    replace hE := hE.bt 20 c20
    refine ct hE (sq fun K21 hK21 => pl0 (plc hE (.r 0 1 .nil) (fun a hE => ple hE (.sto hS [.int .i64 0, .int .i64 0, .int .i64 0, .int .i64 0, .bool false, .bool false]) ?_)))
    rintro _ u22 a ⟨rfl, hb2, hS, hz⟩ hE
    refine plc hE (.r 2 1 .nil) (fun a hE => pld (hK21 _ _ (wp_ret (qCB ?_))))
    replace hS := hS.tail
    obtain rfl := si H
    exact retN hE rfl (of_decide_eq_true rfl) (.cell (by kernel_rfl) (qCH [.int .i64 0, .int .i64 0, .int .i64 0, .int .i64 0, .bool false, .bool false] ag104 sz104 hb2 rfl) (.tmp (by kernel_rfl) .nil)) ⟨_, rfl, _, rfl, hS⟩
   ·
    replace hE := hE.bf 20 c20
    refine cf hE (wp_skip (hK8 _ _ (sq fun K23 hK23 => pl0 ?_)))
    obtain ⟨c24, H⟩ := gd H
    have hE_ := hE
    obtain ⟨ad25, rfl⟩ := g0_0.addr c24.1 c24.2
    replace hE := hE_
    obtain ⟨cs27, rfl, hc28⟩ := g0_0.el qA.z t6.1 c24.1 c24.2
    refine plc hE (.r 0 2 <| .x 2 c24 <| .cs 3 (hS.fcs hc28) <| .nil) (fun a hE => ple hE (.sto hS [.int .i64 ((nth qA.z x0_ t6.1).f0), .int .i64 ((nth qA.z x0_ t6.1).f1), .int .i64 ((nth qA.z x0_ t6.1).f2), .int .i64 ((nth qA.z x0_ t6.1).f3), .bool ((nth qA.z x0_ t6.1).f4), .bool ((nth qA.z x0_ t6.1).f5)]) ?_)
    rintro _ u29 a ⟨rfl, hb2, hS, hz⟩ hE
    refine plc hE (.r 5 1 .nil) (fun a hE => pld (hK23 _ _ (wp_ret ?_)))
    replace hS := hS.tail
    obtain rfl := si H
    exact retN hE rfl (of_decide_eq_true rfl) (.cell (by kernel_rfl) (qCH [.int .i64 ((nth qA.z x0_ t6.1).f0), .int .i64 ((nth qA.z x0_ t6.1).f1), .int .i64 ((nth qA.z x0_ t6.1).f2), .int .i64 ((nth qA.z x0_ t6.1).f3), .bool ((nth qA.z x0_ t6.1).f4), .bool ((nth qA.z x0_ t6.1).f5)] ag104 sz104 hb2 rfl) (.tmp (by kernel_rfl) .nil)) ⟨_, rfl, _, rfl, hS⟩
 refine pl0 (plc hE (.r 0 3 .nil) (fun a hE => ?_))
 rcases sp H with ⟨c10, H⟩ | ⟨c10, H⟩
 ·
  replace hE := hE.btn 16 c10
  refine plc hE (.r 3 1 .nil) (fun a hE => ?_)
  obtain ⟨t12, h13, H⟩ := bd H
  refine ple hE (.cl en80 (qAG.calls k x0_ _ _ _ _ _ hS.own.sub g0_0 h13)) ?_
  rintro _ u11 a ⟨_, rfl, hC⟩ hE
  replace hS := hS.lent hC
  refine plc hE (.r 5 2 .nil) (fun a hE => pld ?_)
  exact J18 _ (by omega) _ (!(t12 == 0)) _ _ hE .of hS H
 ·
  replace hE := hE.bfn 16 c10
  refine plc hE (.r 3 4 .nil) (fun a hE => pld ?_)
  exact J18 _ (by omega) _ true _ _ hE .of hS H
def qBZ.f (k : Nat) (x0_ : Int) (xf0_ : qJ) : Option Bool := (qBG.f k xf0_.f4 x0_).bind fun t4 => (some (!t4.1.f4))
def qBZ.Post (W F : World) (r : Bool) (v : Value) (w' : World) : Prop := ∃ (F' : World), v = .bool r ∧ St W (mine W []) F w' F' []
theorem qBZ.calls (k : Nat) (x0_ : Int) (xf0_ : qJ) (pf0_ : Nat) (Af0_4 : Option Addr) (cf0_4 : Nat) (Af0_5 : Option Addr) (cf0_5 : Nat) (Af0_6 : Option Addr) (cf0_6 : Nat) (r : Bool) (W F : World) (hown : Sub F W) (gf0_4 : Rd qA.k F Af0_4 cf0_4 xf0_.f4) (gf0_5 : Rd qK.k F Af0_5 cf0_5 xf0_.f5) (gf0_6 : Rd qC.k F Af0_6 cf0_6 xf0_.f6) (hpf0_ : F.heap[pf0_]? = some (.cells #[.int .i64 xf0_.f0, .int .i64 xf0_.f1, .int .i64 xf0_.f2, .int .i64 xf0_.f3, .slice Af0_4 xf0_.f4.length cf0_4, .slice Af0_5 xf0_.f5.length cf0_5, .slice Af0_6 xf0_.f6.length cf0_6] 26 (0, 0))) (H : qBZ.f k x0_ xf0_ = some r) :
    Calls Tryz.prog 126 #[.int .i64 x0_, .pointer (some ⟨pf0_, 0, none⟩)] W fun e w' => ∃ v, e = .returned v ∧ qBZ.Post W F r v w' := by
 have hS := St.start (Own.nil hown)
 unfold qBZ.f at H
 refine enter (n := 16) rfl rfl rfl (Nat.le_of_ble_eq_true rfl) (fun a hE => ?_)
 refine sq fun K1 hK1 => pl0 (plc hE (.r 0 1 .nil) (fun a hE => pld (hK1 _ _ (sq fun K2 hK2 => pl0 (plc hE (.r 0 1 <| .b 1 4 (hS.own.sub _ _ _ _ hpf0_) <| .r 2 1 <| .nil) (fun a hE => ?_))))))
 obtain ⟨t4, h5, H⟩ := bd H
 refine ple hE (.cl en127 (qBG.calls k xf0_.f4 x0_ _ _ _ _ _ hS.own.sub gf0_4 h5)) ?_
 rintro _ u3 a ⟨_, rfl, hC⟩ hE
 replace hS := hS.lent hC
 refine plc hE (.r 4 3 .nil) (fun a hE => ple hE (.al (t := 104) hS [.int .i64 0, .int .i64 0, .int .i64 0, .int .i64 0, .bool false, .bool false]) ?_)
 rintro _ u7 a ⟨b6, rfl, hb6, hS, hg⟩ hE
 refine ple hE (.sto hS [.int .i64 t4.1.f0, .int .i64 t4.1.f1, .int .i64 t4.1.f2, .int .i64 t4.1.f3, .bool t4.1.f4, .bool t4.1.f5]) ?_
 rintro _ u8 a ⟨rfl, hb6, hS, hz⟩ hE
 refine plc hE (.r 9 1 .nil) (fun a hE => pld (hK2 _ _ (sq fun K9 hK9 => pl0 (plc hE (.r 0 1 <| .b 1 4 hb6 <| .r 2 2 <| .nil) (fun a hE => pld (hK9 _ _ (wp_ret ?_)))))))
 replace hS := hS.tail
 obtain rfl := si H
 exact rt1 hE ⟨_, rfl, _, rfl, hS⟩
def qe.l5 : Nat → List Int → qJ → Int → Option Int
  | 0, _, _, _ => none
  | k + 1, x0_, x1c0_, x4 => if x4 < (x0_.length : Int) then (if 0 ≤ x4 ∧ x4 < (x0_.length : Int) then ((qBZ.f k (nth 0 x0_ x4) x1c0_).bind fun t21 => (if t21 = true then (some x4) else (qe.l5 k x0_ x1c0_ (w64 (x4 + 1))))) else (none)) else (some (-1))
theorem qe.l5_s (k : Nat) (x0_ : List Int) (x1c0_ : qJ) (x4 : Int) : qe.l5 (k + 1) x0_ x1c0_ x4 = (if x4 < (x0_.length : Int) then (if 0 ≤ x4 ∧ x4 < (x0_.length : Int) then ((qBZ.f k (nth 0 x0_ x4) x1c0_).bind fun t21 => (if t21 = true then (some x4) else (qe.l5 k x0_ x1c0_ (w64 (x4 + 1))))) else (none)) else (some (-1))) := by kernel_rfl
def qe.f (k : Nat) (x0_ : List Int) (x1c0_ : qJ) : Option Int := qe.l5 k x0_ x1c0_ 0
def qe.Post (W F : World) (r : Int) (v : Value) (w' : World) : Prop := ∃ (F' : World), v = .int .i64 r ∧ St W (mine W []) F w' F' []
theorem qe.calls (k : Nat) (x0_ : List Int) (x1c0_ : qJ) (A0_0 : Option Addr) (c0_0 : Nat) (p1c0_ : Nat) (A1c0_4 : Option Addr) (c1c0_4 : Nat) (A1c0_5 : Option Addr) (c1c0_5 : Nat) (A1c0_6 : Option Addr) (c1c0_6 : Nat) (r : Int) (W F : World) (hown : Sub F W) (g0_0 : Rd (Kn.int .i64) F A0_0 c0_0 x0_) (g1c0_4 : Rd qA.k F A1c0_4 c1c0_4 x1c0_.f4) (g1c0_5 : Rd qK.k F A1c0_5 c1c0_5 x1c0_.f5) (g1c0_6 : Rd qC.k F A1c0_6 c1c0_6 x1c0_.f6) (hp1c0_ : F.heap[p1c0_]? = some (.cells #[.int .i64 x1c0_.f0, .int .i64 x1c0_.f1, .int .i64 x1c0_.f2, .int .i64 x1c0_.f3, .slice A1c0_4 x1c0_.f4.length c1c0_4, .slice A1c0_5 x1c0_.f5.length c1c0_5, .slice A1c0_6 x1c0_.f6.length c1c0_6] 26 (0, 0))) (H : qe.f k x0_ x1c0_ = some r) :
    Calls Tryz.prog 157 #[.slice A0_0 x0_.length c0_0, .func (.func 126) #[] #[.pointer (some ⟨p1c0_, 0, none⟩)]] W fun e w' => ∃ v, e = .returned v ∧ qe.Post W F r v w' := by
 have hS := St.start (Own.nil hown)
 unfold qe.f at H
 refine enter (n := 19) rfl rfl rfl (Nat.le_of_ble_eq_true rfl) (fun a hE => ?_)
 refine sq fun K1 hK1 => pl0 (plc hE (.r 0 1 .nil) (fun a hE => pld (hK1 _ _ (sq fun K2 hK2 => sq fun K3 hK3 => pl0 (plc hE (.r 0 3 .nil) (fun a hE => pld (hK3 _ _ (wp_block ?_))))))))
 refine wp_loop_ghost (fun kq6 a w' => ∃ (G : Nat → Value) (x4 : Int), kq6 ≤ k ∧ Env 19 G a ∧ At G [(0, .slice A0_0 x0_.length c0_0), (1, .func (.func 126) #[] #[.pointer (some ⟨p1c0_, 0, none⟩)]), (7, .int .i64 (x0_.length : Int)), (8, .int .i64 x4)] ∧ St W (mine W []) F w' F [] ∧  qe.l5 kq6 x0_ x1c0_ x4 = some r) k ⟨_, 0, Nat.le_refl _, hE, .of, hS, H⟩ ?_
 rintro kq6 a u8 ⟨G, x4, hkq, hE, hA, hS, H⟩
 cases kq6 with
 | zero => cases (show none = some r from H)
 | succ k7 =>
  rw [qe.l5_s] at H
  obtain ⟨J, hE⟩ := hE.at hA
  refine sq fun K9 hK9 => pl0 (plc hE (.r 0 1 .nil) (fun a hE => pld (hK9 _ _ (sq fun K10 hK10 => ?_))))
  rcases sp H with ⟨c11, H⟩ | ⟨c11, H⟩
  ·
   replace hE := hE.kt 9 c11
   refine ct hE (wp_skip (hK10 _ _ (sq fun K12 hK12 => wp_block (sq fun K13 hK13 => pl0 (plc hE (.r 0 2 .nil) (fun a hE => pld (hK13 _ _ (sq fun K14 hK14 => pl0 ?_))))))))
   obtain ⟨c15, H⟩ := gd H
   have hE_ := hE
   obtain ⟨ad16, rfl⟩ := g0_0.addr c15.1 c15.2
   replace hE := hE_
   obtain ⟨cs18, rfl, hc19⟩ := g0_0.el 0 x4 c15.1 c15.2
   refine plc hE (.r 0 3 <| .x 3 c15 <| .c 4 (hS.fc hc19 0) <| .nil) (fun a hE => ?_)
   obtain ⟨t21, h22, H⟩ := bd H
   refine ple hE (.cl en126 (qBZ.calls k7 (nth 0 x0_ x4) x1c0_ _ _ _ _ _ _ _ _ _ _ hS.own.sub g1c0_4 g1c0_5 g1c0_6 hp1c0_ h22)) ?_
   rintro _ u20 a ⟨_, rfl, hC⟩ hE
   replace hS := hS.lent hC
   refine pld (hK14 _ _ ?_)
   rcases sp H with ⟨c23, H⟩ | ⟨c23, H⟩
   ·
    replace hE := hE.bt 16 c23
    refine ct hE (sq fun K24 hK24 => pl0 (plc hE (.r 0 2 .nil) (fun a hE => pld (hK24 _ _ (wp_ret (qCC (qCB (qCB (qCC (qCB ?_))))))))))
    obtain rfl := si H
    exact rt1 hE ⟨_, rfl, _, rfl, hS⟩
   ·
    replace hE := hE.bf 16 c23
    refine cf hE (wp_skip ?_)
    refine qCD ?_
    refine hK12 _ _ (pl0 (plc hE (.r 0 2 .nil) (fun a hE => pld ?_)))
    exact qCE ⟨k7, by omega, _, (w64 (x4 + 1)), by omega, hE, .of, hS, H⟩
  ·
   replace hE := hE.kf 9 c11
   refine cf hE ?_
   refine wp_exit ?_
   refine hK2 _ _ (sq fun K25 hK25 => pl0 (plc hE (.r 0 1 .nil) (fun a hE => pld (hK25 _ _ (wp_ret ?_)))))
   obtain rfl := si H
   exact rt1 hE ⟨_, rfl, _, rfl, hS⟩
def qa.l15 : Nat → List Int → qJ → List Int → Int → Int → Option (List Int)
  | 0, _, _, _, _, _ => none
  | k + 1, x0_, x1c0_, l12, x13, x14 => if x14 < (x0_.length : Int) then (if 0 ≤ x14 ∧ x14 < (x0_.length : Int) then ((qBZ.f k (nth 0 l12 x14) x1c0_).bind fun t33 => (if t33 = true then (qa.l15 k x0_ x1c0_ l12 x13 (w64 (x14 + 1))) else (if 0 ≤ x13 ∧ x13 < (x0_.length : Int) then (qa.l15 k x0_ x1c0_ (l12.set (x13).toNat (nth 0 l12 x14)) (w64 (x13 + 1)) (w64 (x14 + 1))) else (none)))) else (none)) else (if 0 ≤ x13 ∧ x13 ≤ (x0_.length : Int) then (some (cutl (l12.take (x13).toNat ++ List.replicate (x0_.length - (x13).toNat) 0) 0 x13)) else (none))
theorem qa.l15_s (k : Nat) (x0_ : List Int) (x1c0_ : qJ) (l12 : List Int) (x13 : Int) (x14 : Int) : qa.l15 (k + 1) x0_ x1c0_ l12 x13 x14 = (if x14 < (x0_.length : Int) then (if 0 ≤ x14 ∧ x14 < (x0_.length : Int) then ((qBZ.f k (nth 0 l12 x14) x1c0_).bind fun t33 => (if t33 = true then (qa.l15 k x0_ x1c0_ l12 x13 (w64 (x14 + 1))) else (if 0 ≤ x13 ∧ x13 < (x0_.length : Int) then (qa.l15 k x0_ x1c0_ (l12.set (x13).toNat (nth 0 l12 x14)) (w64 (x13 + 1)) (w64 (x14 + 1))) else (none)))) else (none)) else (if 0 ≤ x13 ∧ x13 ≤ (x0_.length : Int) then (some (cutl (l12.take (x13).toNat ++ List.replicate (x0_.length - (x13).toNat) 0) 0 x13)) else (none))) := by kernel_rfl
def qa.f (k : Nat) (x0_ : List Int) (x1c0_ : qJ) : Option (List Int) := (qe.f k x0_ x1c0_).bind fun t4 => (if t4 = (-1) then (some x0_) else (qa.l15 k x0_ x1c0_ x0_ t4 (w64 (t4 + 1))))
def qa.Post (x0_ : List Int) (x1c0_ : qJ) (A0_0 : Option Addr) (c0_0 : Nat) (p1c0_ : Nat) (A1c0_4 : Option Addr) (c1c0_4 : Nat) (A1c0_5 : Option Addr) (c1c0_5 : Nat) (A1c0_6 : Option Addr) (c1c0_6 : Nat) (W F : World) (r : List Int) (v : Value) (w' : World) : Prop := ∃ (F' : World) (RA0_0 : Option Addr) (rc0_0 : Nat), v = .slice RA0_0 r.length rc0_0 ∧ St W (mine W [row (Kn.int .i64) 3 (.slice A0_0 x0_.length c0_0) x0_]) F w' F' [row (Kn.int .i64) 3 (.slice RA0_0 r.length rc0_0) r]
theorem qa.calls (k : Nat) (x0_ : List Int) (x1c0_ : qJ) (A0_0 : Option Addr) (c0_0 : Nat) (p1c0_ : Nat) (A1c0_4 : Option Addr) (c1c0_4 : Nat) (A1c0_5 : Option Addr) (c1c0_5 : Nat) (A1c0_6 : Option Addr) (c1c0_6 : Nat) (r : List Int) (W F : World) (hown : Own W F [row (Kn.int .i64) 3 (.slice A0_0 x0_.length c0_0) x0_]) (g1c0_4 : Rd qA.k F A1c0_4 c1c0_4 x1c0_.f4) (g1c0_5 : Rd qK.k F A1c0_5 c1c0_5 x1c0_.f5) (g1c0_6 : Rd qC.k F A1c0_6 c1c0_6 x1c0_.f6) (hp1c0_ : F.heap[p1c0_]? = some (.cells #[.int .i64 x1c0_.f0, .int .i64 x1c0_.f1, .int .i64 x1c0_.f2, .int .i64 x1c0_.f3, .slice A1c0_4 x1c0_.f4.length c1c0_4, .slice A1c0_5 x1c0_.f5.length c1c0_5, .slice A1c0_6 x1c0_.f6.length c1c0_6] 26 (0, 0))) (H : qa.f k x0_ x1c0_ = some r) :
    Calls Tryz.prog 125 #[.slice A0_0 x0_.length c0_0, .func (.func 126) #[] #[.pointer (some ⟨p1c0_, 0, none⟩)]] W fun e w' => ∃ v, e = .returned v ∧ qa.Post x0_ x1c0_ A0_0 c0_0 p1c0_ A1c0_4 c1c0_4 A1c0_5 c1c0_5 A1c0_6 c1c0_6 W F r v w' := by
 have hS := St.start hown
 obtain ⟨N, hN⟩ : ∃ N, N = mine W [row (Kn.int .i64) 3 (.slice A0_0 x0_.length c0_0) x0_] := ⟨_, rfl⟩
 rw [← hN] at hS
 unfold qa.f at H
 refine enter (n := 42) rfl rfl rfl (Nat.le_of_ble_eq_true rfl) (fun a hE => ?_)
 refine sq fun K1 hK1 => pl0 (plc hE (.r 0 1 .nil) (fun a hE => pld (hK1 _ _ (sq fun K2 hK2 => pl0 (plc hE (.r 0 2 .nil) (fun a hE => ?_))))))
 obtain ⟨t4, h5, H⟩ := bd H
 refine ple hE (.cl en157 (qe.calls k x0_ x1c0_ _ _ _ _ _ _ _ _ _ _ _ _ (Sub.refl _) (hS.rd_at (i := 0) rfl) (g1c0_4.mono hS.own.sub) (g1c0_5.mono hS.own.sub) (g1c0_6.mono hS.own.sub) (hS.own.sub _ _ _ _ hp1c0_) h5)) ?_
 rintro _ u3 a ⟨_, rfl, hC⟩ hE
 replace hS := hS.lent hC
 refine plc hE (.r 3 1 .nil) (fun a hE => pld (hK2 _ _ (sq fun K6 hK6 => sq fun K7 hK7 => pl0 (plc hE (.r 0 2 .nil) (fun a hE => pld (hK7 _ _ ?_))))))
 rcases sp H with ⟨c8, H⟩ | ⟨c8, H⟩
 ·
  replace hE := hE.kt 12 c8
  refine ct hE (sq fun K9 hK9 => pl0 (plc hE (.r 0 2 .nil) (fun a hE => pld (hK9 _ _ (wp_ret (qCB ?_))))))
  rw [hN] at hS
  obtain rfl := si H
  exact rt1 hE ⟨_, rfl, _, _, _, rfl, hS⟩
 ·
  replace hE := hE.kf 12 c8
  refine cf hE (wp_skip (hK6 _ _ (sq fun K10 hK10 => sq fun K11 hK11 => pl0 (plc hE (.r 0 3 .nil) (fun a hE => pld (hK11 _ _ (wp_block ?_)))))))
  refine wp_loop_ghost (fun kq16 a w' => ∃ (G : Nat → Value) (l12 : List Int) (x13 : Int) (x14 : Int), kq16 ≤ k ∧ Env 42 G a ∧ At G [(0, .slice A0_0 x0_.length c0_0), (1, .func (.func 126) #[] #[.pointer (some ⟨p1c0_, 0, none⟩)]), (5, .int .i64 x13), (6, .int .i64 x14)] ∧ St W N F w' F [row (Kn.int .i64) 3 (.slice A0_0 x0_.length c0_0) l12] ∧  qa.l15 kq16 x0_ x1c0_ l12 x13 x14 = some r) k ⟨_, x0_, t4, (w64 (t4 + 1)), Nat.le_refl _, hE, .of, hS, H⟩ ?_
  rintro kq16 a u18 ⟨G, l12, x13, x14, hkq, hE, hA, hS, H⟩
  cases kq16 with
  | zero => cases (show none = some r from H)
  | succ k17 =>
   rw [qa.l15_s] at H
   obtain ⟨J, hE⟩ := hE.at hA
   refine sq fun K19 hK19 => sq fun K20 hK20 => pl0 (plc hE (.r 0 4 .nil) (fun a hE => pld (hK20 _ _ ?_)))
   rcases sp H with ⟨c21, H⟩ | ⟨c21, H⟩
   ·
    replace hE := hE.kt 19 c21
    refine ct hE (wp_skip (hK19 _ _ (sq fun K22 hK22 => wp_block (sq fun K23 hK23 => pl0 ?_))))
    obtain ⟨c24, H⟩ := gd H
    have hr25 := hS.row_at (i := 0) rfl
    have c26 : 0 ≤ x14 ∧ x14 < (l12.length : Int) := by rw [← (qCF hr25).1]; exact c24
    have hE_ := hE
    obtain ⟨b27, rfl⟩ := qCI hr25 c26.1 c26.2
    replace hE := hE_
    have hr_ := hS.row_at (i := 0) rfl
    obtain ⟨cs29, rfl, hc30⟩ := qCG hr_ 0 x14 c26.1 c26.2
    refine plc hE (.r 0 2 <| .x 2 c24 <| .c 3 (hc30 0 _ rfl) <| .r 4 1 <| .nil) (fun a hE => pld (hK23 _ _ (sq fun K31 hK31 => pl0 (plc hE (.r 0 2 .nil) (fun a hE => ?_)))))
    obtain ⟨t33, h34, H⟩ := bd H
    refine ple hE (.cl en126 (qBZ.calls k17 (nth 0 l12 x14) x1c0_ _ _ _ _ _ _ _ _ _ _ hS.own.sub g1c0_4 g1c0_5 g1c0_6 hp1c0_ h34)) ?_
    rintro _ u32 a ⟨_, rfl, hC⟩ hE
    replace hS := hS.lent hC
    refine plc hE (.r 3 1 .nil) (fun a hE => pld (hK31 _ _ ?_))
    rcases sp H with ⟨c35, H⟩ | ⟨c35, H⟩
    ·
     replace hE := hE.btn 29 c35
     refine cf hE (wp_skip ?_)
     refine qCD ?_
     refine hK22 _ _ (pl0 (plc hE (.r 0 3 .nil) (fun a hE => pld ?_)))
     exact qCE ⟨k17, by omega, _, l12, x13, (w64 (x14 + 1)), by omega, hE, .of, hS, H⟩
    ·
     replace hE := hE.bfn 29 c35
     refine ct hE (sq fun K36 hK36 => pl0 ?_)
     obtain ⟨c37, H⟩ := gd H
     have hr38 := hS.row_at (i := 0) rfl
     have c39 : 0 ≤ x13 ∧ x13 < (l12.length : Int) := by rw [← (qCF hr38).1]; exact c37
     have hr_ := hS.row_at (i := 0) rfl
     obtain ⟨cs41, rfl, hc42⟩ := qCG hr_ 0 x13 c39.1 c39.2
     refine plc hE (.r 0 3 <| .x 3 c37 <| .nil) (fun a hE => ?_)
     obtain ⟨cs44, rfl, hc45⟩ := qCG (hS.row_at (i := 0) rfl) 0 x13 c39.1 c39.2
     refine ple hE (.set (d := (Kn.int .i64)) (n := x0_.length) (i := x13) (nth 0 l12 x14) (0) (ea0 _ _) hS c39 [.int .i64 (nth 0 l12 x13)] hc45 [.int .i64 (nth 0 l12 x14)] rfl) ?_
     rintro _ u43 a ⟨rfl, hS, hz⟩ hE
     refine pld (hK36 _ _ (pl0 (plc hE (.r 0 3 .nil) (fun a hE => pld ?_))))
     refine qCD ?_
     refine hK22 _ _ (pl0 (plc hE (.r 0 3 .nil) (fun a hE => pld ?_)))
     exact qCE ⟨k17, by omega, _, (l12.set (x13).toNat (nth 0 l12 x14)), (w64 (x13 + 1)), (w64 (x14 + 1)), by omega, hE, .of, hS, H⟩
   ·
    replace hE := hE.kf 19 c21
    refine cf hE ?_
    refine wp_exit ?_
    refine hK10 _ _ (sq fun K46 hK46 => pl0 ?_)
    obtain ⟨c47, H⟩ := gd H
    obtain ⟨A48, c49, hA50, hv51⟩ := y_suf (P := Tryz.prog) (k := .i64) (hS.row_at (i := 0) rfl) c47
    refine plc hE (.r 0 2 <| .y 2 (hv51 (by kernel_rfl)) <| .nil) (fun a hE => ple hE (.clr (d := (Kn.int .i64)) (n := x0_.length) (c' := c49) (lo := x13) 8 0 hS c47 hA50 (by rw [zr3]; exact rfl)) ?_)
    rintro _ u52 a ⟨rfl, hS, hz⟩ hE
    refine pld (hK46 _ _ (sq fun K53 hK53 => pl0 ?_))
    have hv54 := hS.row_at (i := 0) rfl
    replace hS := hS.shrink c47
    refine plc hE (.r 0 2 <| .y 2 (y_pre (k := .i64) hv54 c47) <| .r 3 1 <| .nil) (fun a hE => pld (hK53 _ _ (wp_ret ?_)))
    rw [hN] at hS
    obtain rfl := si H
    exact rt1 hE ⟨_, rfl, _, _, _, rfl, hS⟩
def qBp.f (k : Nat) (x0_ : qJ) (x1_ : List Int) : Option (List Int) := (qa.f k x1_ x0_).bind fun t8 => (some t8)
def qBp.Post (x0_ : qJ) (x1_ : List Int) (A0_4 : Option Addr) (c0_4 : Nat) (A0_5 : Option Addr) (c0_5 : Nat) (A0_6 : Option Addr) (c0_6 : Nat) (A1_0 : Option Addr) (c1_0 : Nat) (W F : World) (r : List Int) (v : Value) (w' : World) : Prop := ∃ (F' : World) (RA0_0 : Option Addr) (rc0_0 : Nat), v = .slice RA0_0 r.length rc0_0 ∧ St W (mine W [row (Kn.int .i64) 3 (.slice A1_0 x1_.length c1_0) x1_]) F w' F' [row (Kn.int .i64) 3 (.slice RA0_0 r.length rc0_0) r]
theorem qBp.calls (k : Nat) (x0_ : qJ) (x1_ : List Int) (A0_4 : Option Addr) (c0_4 : Nat) (A0_5 : Option Addr) (c0_5 : Nat) (A0_6 : Option Addr) (c0_6 : Nat) (A1_0 : Option Addr) (c1_0 : Nat) (r : List Int) (W F : World) (hown : Own W F [row (Kn.int .i64) 3 (.slice A1_0 x1_.length c1_0) x1_]) (g0_4 : Rd qA.k F A0_4 c0_4 x0_.f4) (g0_5 : Rd qK.k F A0_5 c0_5 x0_.f5) (g0_6 : Rd qC.k F A0_6 c0_6 x0_.f6) (H : qBp.f k x0_ x1_ = some r) :
    Calls Tryz.prog 74 #[.agg #[.int .i64 x0_.f0, .int .i64 x0_.f1, .int .i64 x0_.f2, .int .i64 x0_.f3, .slice A0_4 x0_.f4.length c0_4, .slice A0_5 x0_.f5.length c0_5, .slice A0_6 x0_.f6.length c0_6], .slice A1_0 x1_.length c1_0] W fun e w' => ∃ v, e = .returned v ∧ qBp.Post x0_ x1_ A0_4 c0_4 A0_5 c0_5 A0_6 c0_6 A1_0 c1_0 W F r v w' := by
 have hS := St.start hown
 obtain ⟨N, hN⟩ : ∃ N, N = mine W [row (Kn.int .i64) 3 (.slice A1_0 x1_.length c1_0) x1_] := ⟨_, rfl⟩
 rw [← hN] at hS
 unfold qBp.f at H
 refine enter (n := 8) rfl rfl rfl (Nat.le_of_ble_eq_true rfl) (fun a hE => ?_)
 refine sq fun K1 hK1 => pl0 (ple hE (.bx (t := 26) hS [.int .i64 x0_.f0, .int .i64 x0_.f1, .int .i64 x0_.f2, .int .i64 x0_.f3, .slice A0_4 x0_.f4.length c0_4, .slice A0_5 x0_.f5.length c0_5, .slice A0_6 x0_.f6.length c0_6]) ?_)
 rintro _ u3 a ⟨b2, rfl, hb2, hS, hg⟩ hE
 refine plc hE (.r 1 1 .nil) (fun a hE => pld (hK1 _ _ (sq fun K4 hK4 => pl0 (plc hE (.r 0 2 .nil) (fun a hE => ?_)))))
 obtain ⟨F5, hs, g6, hS⟩ := hS.giveb
 replace g0_4 := g0_4.mono hs
 replace g0_5 := g0_5.mono hs
 replace g0_6 := g0_6.mono hs
 obtain ⟨t8, h9, H⟩ := bd H
 refine ple hE (.cl en125 (qa.calls k x1_ x0_ _ _ _ _ _ _ _ _ _ _ _ _ (Own.left (X := [row (Kn.int .i64) 3 (.slice A1_0 x1_.length c1_0) x1_]) hS.own) g0_4 g0_5 g0_6 g6 h9)) ?_
 rintro _ u7 a ⟨F10, A11, c12, rfl, hC⟩ hE
 have hs := hC.sub
 replace hS := hS.called (X := [row (Kn.int .i64) 3 (.slice A1_0 x1_.length c1_0) x1_]) hC
 replace g0_4 := g0_4.mono hs
 replace g0_5 := g0_5.mono hs
 replace g0_6 := g0_6.mono hs
 replace g6 := hs _ _ _ _ g6
 refine plc hE (.r 3 1 .nil) (fun a hE => pld (hK4 _ _ (wp_ret ?_)))
 rw [hN] at hS
 obtain rfl := si H
 exact rt1 hE ⟨_, rfl, _, _, _, rfl, hS⟩
def qAw.l20 : Nat → qJ → qJ → List qC → List qC → Int → Option (List qC)
  | 0, _, _, _, _, _ => none
  | k + 1, x0_, x1_, t8, l17, x18 => if x18 < (t8.length : Int) then (if 0 ≤ x18 ∧ x18 < (t8.length : Int) then ((qBg.f k x0_ x18).bind fun t44 => ((qBp.f k x0_ t44).bind fun t52 => ((qBg.f k x1_ x18).bind fun t62 => ((qBp.f k x1_ t62).bind fun t70 => ((qz.f k t52 t70).bind fun t78 => (if t78 = true then (qAw.l20 k x0_ x1_ t8 l17 (w64 (x18 + 1))) else (if (t52.length : Int) ≥ x0_.f2 then (none) else (qAw.l20 k x0_ x1_ t8 (l17.set (x18).toNat (⟨(w64 (x0_.f0 + 1)), (nth qC.z l17 x18).f1⟩ : qC)) (w64 (x18 + 1)))))))))) else (none)) else (some l17)
theorem qAw.l20_s (k : Nat) (x0_ : qJ) (x1_ : qJ) (t8 : List qC) (l17 : List qC) (x18 : Int) : qAw.l20 (k + 1) x0_ x1_ t8 l17 x18 = (if x18 < (t8.length : Int) then (if 0 ≤ x18 ∧ x18 < (t8.length : Int) then ((qBg.f k x0_ x18).bind fun t44 => ((qBp.f k x0_ t44).bind fun t52 => ((qBg.f k x1_ x18).bind fun t62 => ((qBp.f k x1_ t62).bind fun t70 => ((qz.f k t52 t70).bind fun t78 => (if t78 = true then (qAw.l20 k x0_ x1_ t8 l17 (w64 (x18 + 1))) else (if (t52.length : Int) ≥ x0_.f2 then (none) else (qAw.l20 k x0_ x1_ t8 (l17.set (x18).toNat (⟨(w64 (x0_.f0 + 1)), (nth qC.z l17 x18).f1⟩ : qC)) (w64 (x18 + 1)))))))))) else (none)) else (some l17)) := by kernel_rfl
def qAw.f (k : Nat) (x0_ : qJ) (x1_ : qJ) : Option (List qC) := (qAV.f x1_.f6).bind fun t8 => (qAw.l20 k x0_ x1_ t8 t8 0)
def qAw.Post (W F : World) (r : List qC) (v : Value) (w' : World) : Prop := ∃ (F' : World) (RA0_0 : Option Addr) (rc0_0 : Nat), v = .slice RA0_0 r.length rc0_0 ∧ St W (mine W []) F w' F' [row qC.k 49 (.slice RA0_0 r.length rc0_0) r]
theorem qAw.calls (k : Nat) (x0_ : qJ) (x1_ : qJ) (A0_4 : Option Addr) (c0_4 : Nat) (A0_5 : Option Addr) (c0_5 : Nat) (A0_6 : Option Addr) (c0_6 : Nat) (A1_4 : Option Addr) (c1_4 : Nat) (A1_5 : Option Addr) (c1_5 : Nat) (A1_6 : Option Addr) (c1_6 : Nat) (r : List qC) (W F : World) (hown : Sub F W) (g0_4 : Rd qA.k F A0_4 c0_4 x0_.f4) (g0_5 : Rd qK.k F A0_5 c0_5 x0_.f5) (g0_6 : Rd qC.k F A0_6 c0_6 x0_.f6) (g1_4 : Rd qA.k F A1_4 c1_4 x1_.f4) (g1_5 : Rd qK.k F A1_5 c1_5 x1_.f5) (g1_6 : Rd qC.k F A1_6 c1_6 x1_.f6) (H : qAw.f k x0_ x1_ = some r) :
    Calls Tryz.prog 79 #[.agg #[.int .i64 x0_.f0, .int .i64 x0_.f1, .int .i64 x0_.f2, .int .i64 x0_.f3, .slice A0_4 x0_.f4.length c0_4, .slice A0_5 x0_.f5.length c0_5, .slice A0_6 x0_.f6.length c0_6], .agg #[.int .i64 x1_.f0, .int .i64 x1_.f1, .int .i64 x1_.f2, .int .i64 x1_.f3, .slice A1_4 x1_.f4.length c1_4, .slice A1_5 x1_.f5.length c1_5, .slice A1_6 x1_.f6.length c1_6]] W fun e w' => ∃ v, e = .returned v ∧ qAw.Post W F r v w' := by
 have hS := St.start (Own.nil hown)
 unfold qAw.f at H
 refine enter (n := 65) rfl rfl rfl (Nat.le_of_ble_eq_true rfl) (fun a hE => ?_)
 refine sq fun K1 hK1 => pl0 (ple hE (.bx (t := 26) hS [.int .i64 x0_.f0, .int .i64 x0_.f1, .int .i64 x0_.f2, .int .i64 x0_.f3, .slice A0_4 x0_.f4.length c0_4, .slice A0_5 x0_.f5.length c0_5, .slice A0_6 x0_.f6.length c0_6]) ?_)
 rintro _ u3 a ⟨b2, rfl, hb2, hS, hg⟩ hE
 refine ple hE (.bx (t := 26) hS [.int .i64 x1_.f0, .int .i64 x1_.f1, .int .i64 x1_.f2, .int .i64 x1_.f3, .slice A1_4 x1_.f4.length c1_4, .slice A1_5 x1_.f5.length c1_5, .slice A1_6 x1_.f6.length c1_6]) ?_
 rintro _ u5 a ⟨b4, rfl, hb4, hS, hg⟩ hE
 refine plc hE (.r 2 1 .nil) (fun a hE => pld (hK1 _ _ (sq fun K6 hK6 => pl0 (plc hE (.r 0 1 <| .b 1 6 hb4 <| .nil) (fun a hE => ?_)))))
 obtain ⟨t8, h9, H⟩ := bd H
 refine ple hE (.cl en130 (qAV.calls x1_.f6 _ _ _ _ _ hS.own.sub g1_6 h9)) ?_
 rintro _ u7 a ⟨F10, A11, c12, rfl, hC⟩ hE
 have hs := hC.sub
 replace hS := hS.called (X := []) hC
 replace g0_4 := g0_4.mono hs
 replace g0_5 := g0_5.mono hs
 replace g0_6 := g0_6.mono hs
 replace g1_4 := g1_4.mono hs
 replace g1_5 := g1_5.mono hs
 replace g1_6 := g1_6.mono hs
 refine plc hE (.r 3 1 .nil) (fun a hE => pld (hK6 _ _ (sq fun K15 hK15 => sq fun K16 hK16 => pl0 (plc hE (.r 0 3 .nil) (fun a hE => pld (hK16 _ _ (wp_block ?_)))))))
 replace hS := hS.front 2 rfl
 replace hS := hS.front 2 rfl
 refine wp_loop_ghost (fun kq21 a w' => ∃ (G : Nat → Value) (l17 : List qC) (x18 : Int) (F19 : World), kq21 ≤ k ∧ Env 65 G a ∧ At G [(2, .pointer (some ⟨b2, 0, none⟩)), (3, .pointer (some ⟨b4, 0, none⟩)), (5, .slice A11 t8.length c12), (13, .slice A11 t8.length c12), (14, .int .i64 (t8.length : Int)), (15, .int .i64 x18)] ∧ St W (mine W []) F w' F19 [box b4 #[.int .i64 x1_.f0, .int .i64 x1_.f1, .int .i64 x1_.f2, .int .i64 x1_.f3, .slice A1_4 x1_.f4.length c1_4, .slice A1_5 x1_.f5.length c1_5, .slice A1_6 x1_.f6.length c1_6] 26, box b2 #[.int .i64 x0_.f0, .int .i64 x0_.f1, .int .i64 x0_.f2, .int .i64 x0_.f3, .slice A0_4 x0_.f4.length c0_4, .slice A0_5 x0_.f5.length c0_5, .slice A0_6 x0_.f6.length c0_6] 26, row qC.k 49 (.slice A11 t8.length c12) l17] ∧ Rd qA.k F19 A1_4 c1_4 x1_.f4 ∧ Rd qK.k F19 A1_5 c1_5 x1_.f5 ∧ Rd qC.k F19 A1_6 c1_6 x1_.f6 ∧ Rd qA.k F19 A0_4 c0_4 x0_.f4 ∧ Rd qK.k F19 A0_5 c0_5 x0_.f5 ∧ Rd qC.k F19 A0_6 c0_6 x0_.f6 ∧  qAw.l20 kq21 x0_ x1_ t8 l17 x18 = some r) k ⟨_, t8, 0, F10, Nat.le_refl _, hE, .of, hS, g1_4, g1_5, g1_6, g0_4, g0_5, g0_6, H⟩ ?_
 rintro kq21 a u23 ⟨G, l17, x18, F19, hkq, hE, hA, hS, g1_4, g1_5, g1_6, g0_4, g0_5, g0_6, H⟩
 cases kq21 with
 | zero => cases (show none = some r from H)
 | succ k22 =>
  rw [qAw.l20_s] at H
  obtain ⟨J, hE⟩ := hE.at hA
  refine sq fun K24 hK24 => pl0 (plc hE (.r 0 1 .nil) (fun a hE => pld (hK24 _ _ (sq fun K25 hK25 => ?_))))
  rcases sp H with ⟨c26, H⟩ | ⟨c26, H⟩
  ·
   replace hE := hE.kt 16 c26
   refine ct hE (wp_skip (hK25 _ _ (sq fun K27 hK27 => wp_block (sq fun K28 hK28 => pl0 ?_))))
   obtain ⟨c29, H⟩ := gd H
   have hr30 := hS.row_at (i := 2) rfl
   have c31 : 0 ≤ x18 ∧ x18 < (l17.length : Int) := by rw [← (qCF hr30).1]; exact c29
   have hE_ := hE
   obtain ⟨b32, rfl⟩ := qCI hr30 c31.1 c31.2
   replace hE := hE_
   have hr_ := hS.row_at (i := 2) rfl
   obtain ⟨cs34, ⟨A36, c37, rfl, g38⟩, hc35⟩ := qCG hr_ qC.z x18 c31.1 c31.2
   refine plc hE (.r 0 1 <| .x 1 c29 <| .cs 2 hc35 <| .nil) (fun a hE => ple hE (.al (t := 49) hS [.int .i64 0, .slice none 0 0]) ?_)
   rintro _ u40 a ⟨b39, rfl, hb39, hS, hg⟩ hE
   refine plc hE (.r 4 1 .nil) (fun a hE => ple hE (.sto hS [.int .i64 ((nth qC.z l17 x18).f0), .slice A36 (((nth qC.z l17 x18).f1).length) c37]) ?_)
   rintro _ u41 a ⟨rfl, hb39, hS, hz⟩ hE
   refine pld (hK28 _ _ (sq fun K42 hK42 => ?_))
   refine drawn 6 ⟨[4], [], fun q => False⟩ mixed rfl (by kernel_rfl) (fun hst => ?_)
   replace hS := hS.drew
   have hb2 := hS.blk_at (i := 2) rfl
   refine mny 3 hst hE (.bn 0 0 7 hb2 <| .bn 1 0 7 hb2 <| .r 2 1 <| .nil) (fun a hE => ?_)
   obtain ⟨t44, h45, H⟩ := bd H
   refine on1 3 hE (.cl en71 (qBg.calls k22 x0_ x18 _ _ _ _ _ _ _ _ _ hS.own.sub g0_4 g0_5 g0_6 h45)) ?_
   rintro _ u43 a ⟨F46, A47, c48, rfl, hC⟩ hE
   refine ⟨.of hC.agr, ?_⟩
   have hs := hC.sub
   replace hS := hS.called (X := []) hC
   replace g38 := g38.mono hs
   replace g0_4 := g0_4.mono hs
   replace g0_5 := g0_5.mono hs
   replace g0_6 := g0_6.mono hs
   replace g1_4 := g1_4.mono hs
   replace g1_5 := g1_5.mono hs
   replace g1_6 := g1_6.mono hs
   obtain ⟨t52, h53, H⟩ := bd H
   refine on1 4 hE (.cl en74 (qBp.calls k22 x0_ t44 _ _ _ _ _ _ _ _ _ _ _ (Own.left (X := [row (Kn.int .i64) 3 (.slice A47 t44.length c48) t44]) hS.own) g0_4 g0_5 g0_6 h53)) ?_
   rintro _ u51 a ⟨F54, A55, c56, rfl, hC⟩ hE
   refine ⟨.d, ?_⟩
   have hs := hC.sub
   replace hS := hS.called (X := [row (Kn.int .i64) 3 (.slice A47 t44.length c48) t44]) hC
   replace g38 := g38.mono hs
   replace g0_4 := g0_4.mono hs
   replace g0_5 := g0_5.mono hs
   replace g0_6 := g0_6.mono hs
   replace g1_4 := g1_4.mono hs
   replace g1_5 := g1_5.mono hs
   replace g1_6 := g1_6.mono hs
   refine mny 0 hst hE (.r 5 1 .nil) (fun a hE => ?_)
   refine dn ?_
   refine hK42 _ _ (sq fun K59 hK59 => sq fun K60 hK60 => ?_)
   refine drawn 7 ⟨[5], [], fun q => False⟩ mixed rfl (by kernel_rfl) (fun hst => ?_)
   replace hS := hS.drew
   have hb4 := hS.blk_at (i := 2) rfl
   refine mny 3 hst hE (.r 0 1 <| .bn 1 0 7 hb4 <| .bn 2 0 7 hb4 <| .r 3 1 <| .nil) (fun a hE => ?_)
   obtain ⟨t62, h63, H⟩ := bd H
   refine on1 4 hE (.cl en71 (qBg.calls k22 x1_ x18 _ _ _ _ _ _ _ _ _ hS.own.sub g1_4 g1_5 g1_6 h63)) ?_
   rintro _ u61 a ⟨F64, A65, c66, rfl, hC⟩ hE
   refine ⟨.of hC.agr, ?_⟩
   have hs := hC.sub
   replace hS := hS.called (X := []) hC
   replace g38 := g38.mono hs
   replace g0_4 := g0_4.mono hs
   replace g0_5 := g0_5.mono hs
   replace g0_6 := g0_6.mono hs
   replace g1_4 := g1_4.mono hs
   replace g1_5 := g1_5.mono hs
   replace g1_6 := g1_6.mono hs
   obtain ⟨t70, h71, H⟩ := bd H
   refine on1 5 hE (.cl en74 (qBp.calls k22 x1_ t62 _ _ _ _ _ _ _ _ _ _ _ (Own.left (X := [row (Kn.int .i64) 3 (.slice A65 t62.length c66) t62]) hS.own) g1_4 g1_5 g1_6 h71)) ?_
   rintro _ u69 a ⟨F72, A73, c74, rfl, hC⟩ hE
   refine ⟨.d, ?_⟩
   have hs := hC.sub
   replace hS := hS.called (X := [row (Kn.int .i64) 3 (.slice A65 t62.length c66) t62]) hC
   replace g38 := g38.mono hs
   replace g0_4 := g0_4.mono hs
   replace g0_5 := g0_5.mono hs
   replace g0_6 := g0_6.mono hs
   replace g1_4 := g1_4.mono hs
   replace g1_5 := g1_5.mono hs
   replace g1_6 := g1_6.mono hs
   obtain ⟨t78, h79, H⟩ := bd H
   refine on1 6 hE (.cl en90 (qz.calls k22 t52 t70 _ _ _ _ _ _ _ (Sub.refl _) (hS.rd_at (i := 1) rfl) (hS.rd_at (i := 0) rfl) h79)) ?_
   rintro _ u77 a ⟨_, rfl, hC⟩ hE
   refine ⟨.of hC.agr, ?_⟩
   replace hS := hS.lent hC
   refine dn ?_
   refine hK60 _ _ ?_
   rcases sp H with ⟨c80, H⟩ | ⟨c80, H⟩
   ·
    replace hE := hE.bt 31 c80
    refine ct hE ?_
    refine wp_exit ?_
    refine hK27 _ _ (pl0 (plc hE (.r 0 2 .nil) (fun a hE => pld ?_)))
    replace hS := hS.tail
    replace hS := hS.tail
    replace hS := hS.tail
    exact qCE ⟨k22, by omega, _, l17, (w64 (x18 + 1)), F72, by omega, hE, .of, hS, g1_4, g1_5, g1_6, g0_4, g0_5, g0_6, H⟩
   ·
    replace hE := hE.bf 31 c80
    refine cf hE (wp_skip (hK59 _ _ (sq fun K81 hK81 => sq fun K82 hK82 => pl0 ?_)))
    have hb2 := hS.blk_at (i := 4) rfl
    refine plc hE (.r 0 3 <| .b 3 2 hb2 <| .r 4 1 <| .nil) (fun a hE => pld (hK82 _ _ ?_))
    rcases sp H with ⟨c83, H⟩ | ⟨c83, H⟩
    ·
     replace hE := hE.kt 36 c83
     refine ct hE (sq fun K84 hK84 => ?_)
     refine drawn 8 ⟨[7], [], fun q => False⟩ mixed rfl (by kernel_rfl) (fun hst => ?_)
     replace hS := hS.drew
     have hb39 := hS.blk_at (i := 2) rfl
     refine mny 5 hst hE (.r 0 1 <| .b 1 0 hb39 <| .r 2 1 <| .nil) (fun a hE => ?_)
     cases (show none = some r from H)
    ·
     replace hE := hE.kf 36 c83
     refine cf hE (wp_skip (hK81 _ _ (sq fun K85 hK85 => pl0 (plc hE (.r 0 1 <| .b 1 0 hb2 <| .r 2 2 <| .nil) (fun a hE => ?_)))))
     replace hS := hS.front 2 rfl
     refine ple hE (.sto hS [.int .i64 (w64 (x0_.f0 + 1)), .slice A36 (((nth qC.z l17 x18).f1).length) c37]) ?_
     rintro _ u86 a ⟨rfl, hb39, hS, hz⟩ hE
     refine pld (hK85 _ _ (pl0 ?_))
     have hr87 := hS.row_at (i := 5) rfl
     have c88 : 0 ≤ x18 ∧ x18 < (l17.length : Int) := by rw [← (qCF hr87).1]; exact c29
     have hr_ := hS.row_at (i := 5) rfl
     obtain ⟨cs90, ⟨A92, c93, rfl, g94⟩, hc91⟩ := qCG hr_ qC.z x18 c88.1 c88.2
     refine plc hE (.r 0 2 <| .bn 2 0 2 hb39 <| .x 3 c29 <| .nil) (fun a hE => ?_)
     replace hS := hS.front 5 rfl
     obtain ⟨cs99, ⟨A96, c97, rfl, g98⟩, hc100⟩ := qCG (hS.row_at (i := 0) rfl) qC.z x18 c88.1 c88.2
     refine ple hE (.set (d := qC.k) (n := t8.length) (i := x18) (⟨(w64 (x0_.f0 + 1)), (nth qC.z l17 x18).f1⟩ : qC) (0) (ea0 _ _) hS c88 [.int .i64 ((nth qC.z l17 x18).f0), .slice A96 (((nth qC.z l17 x18).f1).length) c97] hc100 [.int .i64 (w64 (x0_.f0 + 1)), .slice A36 (((nth qC.z l17 x18).f1).length) c37] ⟨_, _, rfl, g38⟩) ?_
     rintro _ u95 a ⟨rfl, hS, hz⟩ hE
     refine pld ?_
     refine qCD ?_
     refine hK27 _ _ (pl0 (plc hE (.r 0 2 .nil) (fun a hE => pld ?_)))
     replace hS := hS.front 1 rfl
     replace hS := hS.tail
     replace hS := hS.front 1 rfl
     replace hS := hS.tail
     replace hS := hS.front 1 rfl
     replace hS := hS.tail
     replace hS := hS.front 2 rfl
     replace hS := hS.front 2 rfl
     exact qCE ⟨k22, by omega, _, (l17.set (x18).toNat (⟨(w64 (x0_.f0 + 1)), (nth qC.z l17 x18).f1⟩ : qC)), (w64 (x18 + 1)), F72, by omega, hE, .of, hS, g1_4, g1_5, g1_6, g0_4, g0_5, g0_6, H⟩
  ·
   replace hE := hE.kf 16 c26
   refine cf hE ?_
   refine wp_exit ?_
   refine hK15 _ _ (sq fun K101 hK101 => pl0 (plc hE (.r 0 2 .nil) (fun a hE => pld (hK101 _ _ (wp_ret ?_)))))
   have hn102 := (qCF (hS.row_at (i := 2) rfl)).1
   replace hE := hE.set (d := 4) (v := .slice A11 l17.length c12) (Eq.trans (b := .slice A11 t8.length c12) (by kernel_rfl) (by rw [← hn102]))
   replace hS : St W (mine W []) F u23 F19 [box b4 #[.int .i64 x1_.f0, .int .i64 x1_.f1, .int .i64 x1_.f2, .int .i64 x1_.f3, .slice A1_4 x1_.f4.length c1_4, .slice A1_5 x1_.f5.length c1_5, .slice A1_6 x1_.f6.length c1_6] 26, box b2 #[.int .i64 x0_.f0, .int .i64 x0_.f1, .int .i64 x0_.f2, .int .i64 x0_.f3, .slice A0_4 x0_.f4.length c0_4, .slice A0_5 x0_.f5.length c0_5, .slice A0_6 x0_.f6.length c0_6] 26, row qC.k 49 (.slice A11 l17.length c12) l17] := by rw [← hn102]; exact hS
   replace hS := hS.tail
   replace hS := hS.tail
   obtain rfl := si H
   exact rt1 hE ⟨_, rfl, _, _, _, rfl, hS⟩
end Go.Proofs.YtpohepinmjmbkaaGreat.QS
