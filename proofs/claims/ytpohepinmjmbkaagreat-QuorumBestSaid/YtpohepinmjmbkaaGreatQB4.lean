/- Functions of the program, what each computes (written by wip/s/sl.py). -/
import Derived.Test.YtpohepinmjmbkaaGreatQB3
namespace Go.Proofs.YtpohepinmjmbkaaGreat.QB
open Go Go.RowKit Go.Proofs.YtpohepinmjmbkaaGreat.Sl
set_option linter.unusedVariables false
set_option linter.unusedSimpArgs false
set_option maxHeartbeats 4000000
set_option maxRecDepth 100000
/-! ### windrose/topo.weigh: function 236 -/
mutual
def topo_weigh_of_topo_Leaves_1_topo_Leaves_2.l19 : Nat → List T_api_Node → Int → Int → List T_api_Choice → Int → Option (List T_api_Choice)
  | 0, _, _, _, _, _ => none
  | k + 1, x0_, x1c0_, x1c1_, l16, x17 => if x17 < (x0_.length : Int) then (if 0 ≤ x17 ∧ x17 < (x0_.length : Int) then ((topo_Leaves_1.f (⟨(nth T_api_Node.z x0_ x17).f0, (nth T_api_Node.z x0_ x17).f1, (nth T_api_Node.z x0_ x17).f2, (nth T_api_Node.z x0_ x17).f3, (nth T_api_Node.z x0_ x17).f4, (nth T_api_Node.z x0_ x17).f5⟩ : T_api_Node) x1c0_ x1c1_).bind fun t39 => (if t39 = true then ((topo_Leaves_2.f (⟨(nth T_api_Node.z x0_ x17).f0, (nth T_api_Node.z x0_ x17).f1, (nth T_api_Node.z x0_ x17).f2, (nth T_api_Node.z x0_ x17).f3, (nth T_api_Node.z x0_ x17).f4, (nth T_api_Node.z x0_ x17).f5⟩ : T_api_Node)).bind fun t44 => ((slices_BinarySearchFunc__api_Choice_api_Choice_int_of_topo_weigh_1.f k l16 t44).bind fun t47 => (if t47.2 = true then (topo_weigh_of_topo_Leaves_1_topo_Leaves_2.j72 k x0_ x1c0_ x1c1_ x17 t47 l16) else ((topo_Leaves_2.f (⟨(nth T_api_Node.z x0_ x17).f0, (nth T_api_Node.z x0_ x17).f1, (nth T_api_Node.z x0_ x17).f2, (nth T_api_Node.z x0_ x17).f3, (nth T_api_Node.z x0_ x17).f4, (nth T_api_Node.z x0_ x17).f5⟩ : T_api_Node)).bind fun t53 => ((slices_Insert__api_Choice_api_Choice.f l16 t47.1 [(⟨t53, 0⟩ : T_api_Choice)]).bind fun t60 => (topo_weigh_of_topo_Leaves_1_topo_Leaves_2.j72 k x0_ x1c0_ x1c1_ x17 t47 t60)))))) else (topo_weigh_of_topo_Leaves_1_topo_Leaves_2.l19 k x0_ x1c0_ x1c1_ l16 (w64 (x17 + 1))))) else (none)) else (some l16)
def topo_weigh_of_topo_Leaves_1_topo_Leaves_2.j72 : Nat → List T_api_Node → Int → Int → Int → Int × Bool → List T_api_Choice → Option (List T_api_Choice)
  | 0, _, _, _, _, _, _ => none
  | k + 1, x0_, x1c0_, x1c1_, x17, t47, l70 => if ((nth T_api_Node.z x0_ x17).f5) = true then (if 0 ≤ t47.1 ∧ t47.1 < (l70.length : Int) then (topo_weigh_of_topo_Leaves_1_topo_Leaves_2.l19 k x0_ x1c0_ x1c1_ (l70.set (t47.1).toNat (⟨(nth T_api_Choice.z l70 t47.1).f0, (if (w64 ((nth T_api_Choice.z l70 t47.1).f1 + (nth T_api_Node.z x0_ x17).f3)) < 65536 then (w64 ((nth T_api_Choice.z l70 t47.1).f1 + (nth T_api_Node.z x0_ x17).f3)) else 65536)⟩ : T_api_Choice)) (w64 (x17 + 1))) else (none)) else (topo_weigh_of_topo_Leaves_1_topo_Leaves_2.l19 k x0_ x1c0_ x1c1_ l70 (w64 (x17 + 1)))
end
theorem topo_weigh_of_topo_Leaves_1_topo_Leaves_2.l19_s (k : Nat) (x0_ : List T_api_Node) (x1c0_ : Int) (x1c1_ : Int) (l16 : List T_api_Choice) (x17 : Int) : topo_weigh_of_topo_Leaves_1_topo_Leaves_2.l19 (k + 1) x0_ x1c0_ x1c1_ l16 x17 = (if x17 < (x0_.length : Int) then (if 0 ≤ x17 ∧ x17 < (x0_.length : Int) then ((topo_Leaves_1.f (⟨(nth T_api_Node.z x0_ x17).f0, (nth T_api_Node.z x0_ x17).f1, (nth T_api_Node.z x0_ x17).f2, (nth T_api_Node.z x0_ x17).f3, (nth T_api_Node.z x0_ x17).f4, (nth T_api_Node.z x0_ x17).f5⟩ : T_api_Node) x1c0_ x1c1_).bind fun t39 => (if t39 = true then ((topo_Leaves_2.f (⟨(nth T_api_Node.z x0_ x17).f0, (nth T_api_Node.z x0_ x17).f1, (nth T_api_Node.z x0_ x17).f2, (nth T_api_Node.z x0_ x17).f3, (nth T_api_Node.z x0_ x17).f4, (nth T_api_Node.z x0_ x17).f5⟩ : T_api_Node)).bind fun t44 => ((slices_BinarySearchFunc__api_Choice_api_Choice_int_of_topo_weigh_1.f k l16 t44).bind fun t47 => (if t47.2 = true then (topo_weigh_of_topo_Leaves_1_topo_Leaves_2.j72 k x0_ x1c0_ x1c1_ x17 t47 l16) else ((topo_Leaves_2.f (⟨(nth T_api_Node.z x0_ x17).f0, (nth T_api_Node.z x0_ x17).f1, (nth T_api_Node.z x0_ x17).f2, (nth T_api_Node.z x0_ x17).f3, (nth T_api_Node.z x0_ x17).f4, (nth T_api_Node.z x0_ x17).f5⟩ : T_api_Node)).bind fun t53 => ((slices_Insert__api_Choice_api_Choice.f l16 t47.1 [(⟨t53, 0⟩ : T_api_Choice)]).bind fun t60 => (topo_weigh_of_topo_Leaves_1_topo_Leaves_2.j72 k x0_ x1c0_ x1c1_ x17 t47 t60)))))) else (topo_weigh_of_topo_Leaves_1_topo_Leaves_2.l19 k x0_ x1c0_ x1c1_ l16 (w64 (x17 + 1))))) else (none)) else (some l16)) := by kernel_rfl
theorem topo_weigh_of_topo_Leaves_1_topo_Leaves_2.j72_s (k : Nat) (x0_ : List T_api_Node) (x1c0_ : Int) (x1c1_ : Int) (x17 : Int) (t47 : Int × Bool) (l70 : List T_api_Choice) : topo_weigh_of_topo_Leaves_1_topo_Leaves_2.j72 (k + 1) x0_ x1c0_ x1c1_ x17 t47 l70 = (if ((nth T_api_Node.z x0_ x17).f5) = true then (if 0 ≤ t47.1 ∧ t47.1 < (l70.length : Int) then (topo_weigh_of_topo_Leaves_1_topo_Leaves_2.l19 k x0_ x1c0_ x1c1_ (l70.set (t47.1).toNat (⟨(nth T_api_Choice.z l70 t47.1).f0, (if (w64 ((nth T_api_Choice.z l70 t47.1).f1 + (nth T_api_Node.z x0_ x17).f3)) < 65536 then (w64 ((nth T_api_Choice.z l70 t47.1).f1 + (nth T_api_Node.z x0_ x17).f3)) else 65536)⟩ : T_api_Choice)) (w64 (x17 + 1))) else (none)) else (topo_weigh_of_topo_Leaves_1_topo_Leaves_2.l19 k x0_ x1c0_ x1c1_ l70 (w64 (x17 + 1)))) := by kernel_rfl
def topo_weigh_of_topo_Leaves_1_topo_Leaves_2.f (k : Nat) (x0_ : List T_api_Node) (x1c0_ : Int) (x1c1_ : Int) : Option (List T_api_Choice) := (topo_Check.f k x0_).bind fun t6 => (if t6 = 0 then (topo_weigh_of_topo_Leaves_1_topo_Leaves_2.l19 k x0_ x1c0_ x1c1_ [] 0) else (some []))
def topo_weigh_of_topo_Leaves_1_topo_Leaves_2.Post (W F : World) (r : List T_api_Choice) (v : Value) (w' : World) : Prop := ∃ (F' : World) (RA0_0 : Option Addr) (rc0_0 : Nat), v = .slice RA0_0 r.length rc0_0 ∧ St W (mine W []) F w' F' [row T_api_Choice.k 216 (.slice RA0_0 r.length rc0_0) r]
theorem topo_weigh_of_topo_Leaves_1_topo_Leaves_2.calls (k : Nat) (x0_ : List T_api_Node) (x1c0_ : Int) (x1c1_ : Int) (A0_0 : Option Addr) (c0_0 : Nat) (p1c0_ : Nat) (p1c1_ : Nat) (r : List T_api_Choice) (W F : World) (hown : Sub F W) (g0_0 : Rd T_api_Node.k F A0_0 c0_0 x0_) (hp1c0_ : F.heap[p1c0_]? = some (.cells #[.int .i64 x1c0_] 3 (0, 0))) (hp1c1_ : F.heap[p1c1_]? = some (.cells #[.int .i64 x1c1_] 3 (0, 0))) (H : topo_weigh_of_topo_Leaves_1_topo_Leaves_2.f k x0_ x1c0_ x1c1_ = some r) :
    Calls Tryz.prog 236 #[.slice A0_0 x0_.length c0_0, .func (.func 241) #[] #[.pointer (some ⟨p1c0_, 0, none⟩), .pointer (some ⟨p1c1_, 0, none⟩)], .func (.func 242) #[] #[]] W fun e w' => ∃ v, e = .returned v ∧ topo_weigh_of_topo_Leaves_1_topo_Leaves_2.Post W F r v w' := by
 have hS := St.start (Own.nil hown)
 unfold topo_weigh_of_topo_Leaves_1_topo_Leaves_2.f at H
 refine enter (n := 60) rfl rfl rfl (Nat.le_of_ble_eq_true rfl) (fun a hE => ?_)
 refine wp_seq_k fun K1 hK1 => pl0 (plc hE (.r 0 1 .nil) (fun a hE => pld (hK1 _ _ (wp_seq_k fun K2 hK2 => pl0 (plc hE (.r 0 1 .nil) (fun a hE => pld (hK2 _ _ (wp_seq_k fun K3 hK3 => wp_seq_k fun K4 hK4 => pl0 (plc hE (.r 0 1 .nil) (fun a hE => ?_))))))))))
 obtain ⟨t6, h7, H⟩ := bd H
 refine ple hE (.cl en80 (topo_Check.calls k x0_ _ _ _ _ _ hS.own.sub g0_0 h7)) ?_
 rintro _ u5 a ⟨_, rfl, hC⟩ hE
 replace hS := hS.lent hC
 refine plc hE (.r 2 1 .nil) (fun a hE => pld (hK4 _ _ ?_))
 rcases sp H with ⟨c8, H⟩ | ⟨c8, H⟩
 ·
  replace hE := hE.ktn 14 c8
  refine cf hE (wp_skip (hK3 _ _ (wp_seq_k fun K11 hK11 => wp_seq_k fun K12 hK12 => pl0 (plc hE (.r 0 3 .nil) (fun a hE => pld (hK12 _ _ (wp_block ?_)))))))
  replace hS := hS.nilrow T_api_Choice.k 216
  refine wp_loop_ghost (fun kq20 a w' => ∃ (G : Nat → Value) (A14 : Option Addr) (c15 : Nat) (l16 : List T_api_Choice) (x17 : Int) (F18 : World), kq20 ≤ k ∧ Env 60 G a ∧ At G [(1, .func (.func 241) #[] #[.pointer (some ⟨p1c0_, 0, none⟩), .pointer (some ⟨p1c1_, 0, none⟩)]), (2, .func (.func 242) #[] #[]), (7, .slice A14 l16.length c15), (15, .slice A0_0 x0_.length c0_0), (16, .int .i64 (x0_.length : Int)), (17, .int .i64 x17)] ∧ St W (mine W []) F w' F18 [row T_api_Choice.k 216 (.slice A14 l16.length c15) l16] ∧ Rd T_api_Node.k F18 A0_0 c0_0 x0_ ∧ F18.heap[p1c0_]? = some (.cells #[.int .i64 x1c0_] 3 (0, 0)) ∧ F18.heap[p1c1_]? = some (.cells #[.int .i64 x1c1_] 3 (0, 0)) ∧  topo_weigh_of_topo_Leaves_1_topo_Leaves_2.l19 kq20 x0_ x1c0_ x1c1_ l16 x17 = some r) k ⟨_, none, 0, [], 0, F, Nat.le_refl _, hE, .of, hS, g0_0, hp1c0_, hp1c1_, H⟩ ?_
  rintro kq20 a u22 ⟨G, A14, c15, l16, x17, F18, hkq, hE, hA, hS, g0_0, hp1c0_, hp1c1_, H⟩
  cases kq20 with
  | zero => cases (show none = some r from H)
  | succ k21 =>
   rw [topo_weigh_of_topo_Leaves_1_topo_Leaves_2.l19_s] at H
   obtain ⟨J, hE⟩ := hE.at hA
   refine wp_seq_k fun K23 hK23 => pl0 (plc hE (.r 0 1 .nil) (fun a hE => pld (hK23 _ _ (wp_seq_k fun K24 hK24 => ?_))))
   rcases sp H with ⟨c25, H⟩ | ⟨c25, H⟩
   ·
    replace hE := hE.kt 18 c25
    refine ct hE (wp_skip (hK24 _ _ (wp_seq_k fun K26 hK26 => wp_block (wp_seq_k fun K27 hK27 => pl0 ?_))))
    obtain ⟨c28, H⟩ := gd H
    have hE_ := hE
    obtain ⟨ad29, rfl⟩ := g0_0.addr c28.1 c28.2
    replace hE := hE_
    obtain ⟨cs31, rfl, hc32⟩ := g0_0.el T_api_Node.z x17 c28.1 c28.2
    refine plc hE (.x 0 c28 <| .cs 1 (hS.fcs hc32) <| .nil) (fun a hE => ple hE (.al (t := 104) hS [.int .i64 0, .int .i64 0, .int .i64 0, .int .i64 0, .bool false, .bool false]) ?_)
    rintro _ u34 a ⟨b33, rfl, hb33, hS, hg⟩ hE
    refine ple hE (.sto hS [.int .i64 ((nth T_api_Node.z x0_ x17).f0), .int .i64 ((nth T_api_Node.z x0_ x17).f1), .int .i64 ((nth T_api_Node.z x0_ x17).f2), .int .i64 ((nth T_api_Node.z x0_ x17).f3), .bool ((nth T_api_Node.z x0_ x17).f4), .bool ((nth T_api_Node.z x0_ x17).f5)]) ?_
    rintro _ u35 a ⟨rfl, hb33, hS, hz⟩ hE
    refine pld (hK27 _ _ (wp_seq_k fun K36 hK36 => wp_seq_k fun K37 hK37 => pl0 (plc hE (.r 0 1 <| .bn 1 0 6 hb33 <| .nil) (fun a hE => ?_))))
    obtain ⟨t39, h40, H⟩ := bd H
    refine ple hE (.cl en241 (topo_Leaves_1.calls (⟨(nth T_api_Node.z x0_ x17).f0, (nth T_api_Node.z x0_ x17).f1, (nth T_api_Node.z x0_ x17).f2, (nth T_api_Node.z x0_ x17).f3, (nth T_api_Node.z x0_ x17).f4, (nth T_api_Node.z x0_ x17).f5⟩ : T_api_Node) x1c0_ x1c1_ _ _ _ _ _ hS.own.sub hp1c0_ hp1c1_ h40)) ?_
    rintro _ u38 a ⟨_, rfl, hC⟩ hE
    replace hS := hS.lent hC
    refine plc hE (.r 3 1 .nil) (fun a hE => pld (hK37 _ _ ?_))
    rcases sp H with ⟨c41, H⟩ | ⟨c41, H⟩
    ·
     replace hE := hE.btn 24 c41
     refine cf hE (wp_skip (hK36 _ _ (wp_seq_k fun K42 hK42 => pl0 ?_)))
     have hb33 := hS.blk_at (i := 0) rfl
     refine plc hE (.r 0 2 <| .bn 2 0 6 hb33 <| .nil) (fun a hE => ?_)
     obtain ⟨t44, h45, H⟩ := bd H
     refine ple hE (.cl en242 (topo_Leaves_2.calls (⟨(nth T_api_Node.z x0_ x17).f0, (nth T_api_Node.z x0_ x17).f1, (nth T_api_Node.z x0_ x17).f2, (nth T_api_Node.z x0_ x17).f3, (nth T_api_Node.z x0_ x17).f4, (nth T_api_Node.z x0_ x17).f5⟩ : T_api_Node) _ _ _ hS.own.sub h45)) ?_
     rintro _ u43 a ⟨_, rfl, hC⟩ hE
     replace hS := hS.lent hC
     obtain ⟨t47, h48, H⟩ := bd H
     refine ple hE (.cl en254 (slices_BinarySearchFunc__api_Choice_api_Choice_int_of_topo_weigh_1.calls k21 l16 t44 _ _ _ _ _ (Sub.refl _) (hS.rd_at (i := 1) rfl) h48)) ?_
     rintro _ u46 a ⟨_, rfl, hC⟩ hE
     replace hS := hS.lent hC
     refine plc hE (.r 5 5 .nil) (fun a hE => pld (hK42 _ _ (wp_seq_k fun K49 hK49 => ?_)))
     have J75 : ∀ kq73, kq73 ≤ k21 → ∀ (G : Nat → Value) (A68 : Option Addr) (c69 : Nat) (l70 : List T_api_Choice) (F71 : World) (a : Act) (w' : World), Env 60 G a → At G [(1, .func (.func 241) #[] #[.pointer (some ⟨p1c0_, 0, none⟩), .pointer (some ⟨p1c1_, 0, none⟩)]), (2, .func (.func 242) #[] #[]), (7, .slice A68 l70.length c69), (9, .pointer (some ⟨b33, 0, none⟩)), (10, .int .i64 t47.1), (15, .slice (some ad29) x0_.length c0_0), (16, .int .i64 (x0_.length : Int)), (17, .int .i64 x17)] → St W (mine W []) F w' F71 [box b33 #[.int .i64 ((nth T_api_Node.z x0_ x17).f0), .int .i64 ((nth T_api_Node.z x0_ x17).f1), .int .i64 ((nth T_api_Node.z x0_ x17).f2), .int .i64 ((nth T_api_Node.z x0_ x17).f3), .bool ((nth T_api_Node.z x0_ x17).f4), .bool ((nth T_api_Node.z x0_ x17).f5)] 104, row T_api_Choice.k 216 (.slice A68 l70.length c69) l70] → Rd T_api_Node.k F71 (some ad29) c0_0 x0_ → F71.heap[p1c0_]? = some (.cells #[.int .i64 x1c0_] 3 (0, 0)) → F71.heap[p1c1_]? = some (.cells #[.int .i64 x1c1_] 3 (0, 0)) → topo_weigh_of_topo_Leaves_1_topo_Leaves_2.j72 kq73 x0_ x1c0_ x1c1_ x17 t47 l70 = some r → K49 a w' := by
      intro kq73 hkq G A68 c69 l70 F71 a u76 hE hA hS g0_0 hp1c0_ hp1c1_ H
      cases kq73 with
      | zero => cases (show none = some r from H)
      | succ k74 =>
       rw [topo_weigh_of_topo_Leaves_1_topo_Leaves_2.j72_s] at H
       obtain ⟨J, hE⟩ := hE.at hA
       refine hK49 _ _ (wp_seq_k fun K77 hK77 => pl0 ?_)
       have hb33 := hS.blk_at (i := 0) rfl
       refine plc hE (.r 0 1 <| .b 1 5 hb33 <| .nil) (fun a hE => pld (hK77 _ _ ?_))
       rcases sp H with ⟨c78, H⟩ | ⟨c78, H⟩
       ·
        replace hE := hE.bt 44 c78
        refine ct hE ?_
        refine drawn 14 ⟨[13], [], fun q => False⟩ mixed rfl (by kernel_rfl) (fun hst => ?_)
        replace hS := hS.drew
        obtain ⟨c79, H⟩ := gd H
        have hr80 := hS.row_at (i := 1) rfl
        have hE_ := hE
        obtain ⟨b81, rfl⟩ := row_addr hr80 c79.1 c79.2
        replace hE := hE_
        have hr_ := hS.row_at (i := 1) rfl
        obtain ⟨cs83, rfl, hc84⟩ := row_el hr_ T_api_Choice.z t47.1 c79.1 c79.2
        have hb33 := hS.blk_at (i := 0) rfl
        have hr85 := hS.row_at (i := 1) rfl
        refine mny 1 hst hE (.r 0 4 <| .x 4 c79 <| .r 5 1 <| .c 6 (hc84 1 _ rfl) <| .r 7 1 <| .b 8 3 hb33 <| .r 9 2 <| .x 11 c79 <| .r 12 1 <| .nil) (fun a hE => ?_)
        replace hS := hS.front 1 rfl
        obtain ⟨cs90, rfl, hc91⟩ := row_el (hS.row_at (i := 0) rfl) T_api_Choice.z t47.1 c79.1 c79.2
        refine on1 13 hE (.set (d := T_api_Choice.k) (n := l70.length) (i := t47.1) (⟨(nth T_api_Choice.z l70 t47.1).f0, (if (w64 ((nth T_api_Choice.z l70 t47.1).f1 + (nth T_api_Node.z x0_ x17).f3)) < 65536 then (w64 ((nth T_api_Choice.z l70 t47.1).f1 + (nth T_api_Node.z x0_ x17).f3)) else 65536)⟩ : T_api_Choice) 1 (ea1 _ _ _) hS c79 [.int .i64 ((nth T_api_Choice.z l70 t47.1).f0), .int .i64 ((nth T_api_Choice.z l70 t47.1).f1)] hc91 [.int .i64 ((nth T_api_Choice.z l70 t47.1).f0), .int .i64 (if (w64 ((nth T_api_Choice.z l70 t47.1).f1 + (nth T_api_Node.z x0_ x17).f3)) < 65536 then (w64 ((nth T_api_Choice.z l70 t47.1).f1 + (nth T_api_Node.z x0_ x17).f3)) else 65536)] rfl) ?_
        rintro _ u89 a ⟨rfl, hS, hz⟩ hE
        refine ⟨.d, ?_⟩
        refine dn ?_
        refine block_n ?_
        refine hK26 _ _ (pl0 (plc hE (.r 0 2 .nil) (fun a hE => pld ?_)))
        have hn92 := (row_form (hS.row_at (i := 0) rfl)).1
        replace hE := hE.set (d := 7) (v := .slice (some ⟨b81, 0, none⟩) ((l70.set (t47.1).toNat (⟨(nth T_api_Choice.z l70 t47.1).f0, (if (w64 ((nth T_api_Choice.z l70 t47.1).f1 + (nth T_api_Node.z x0_ x17).f3)) < 65536 then (w64 ((nth T_api_Choice.z l70 t47.1).f1 + (nth T_api_Node.z x0_ x17).f3)) else 65536)⟩ : T_api_Choice)).length) c69) (Eq.trans (b := .slice (some ⟨b81, 0, none⟩) l70.length c69) (by kernel_rfl) (by rw [← hn92]))
        replace hS : St W (mine W []) F u89 F71 [row T_api_Choice.k 216 (.slice (some ⟨b81, 0, none⟩) ((l70.set (t47.1).toNat (⟨(nth T_api_Choice.z l70 t47.1).f0, (if (w64 ((nth T_api_Choice.z l70 t47.1).f1 + (nth T_api_Node.z x0_ x17).f3)) < 65536 then (w64 ((nth T_api_Choice.z l70 t47.1).f1 + (nth T_api_Node.z x0_ x17).f3)) else 65536)⟩ : T_api_Choice)).length) c69) (l70.set (t47.1).toNat (⟨(nth T_api_Choice.z l70 t47.1).f0, (if (w64 ((nth T_api_Choice.z l70 t47.1).f1 + (nth T_api_Node.z x0_ x17).f3)) < 65536 then (w64 ((nth T_api_Choice.z l70 t47.1).f1 + (nth T_api_Node.z x0_ x17).f3)) else 65536)⟩ : T_api_Choice)), box b33 #[.int .i64 ((nth T_api_Node.z x0_ x17).f0), .int .i64 ((nth T_api_Node.z x0_ x17).f1), .int .i64 ((nth T_api_Node.z x0_ x17).f2), .int .i64 ((nth T_api_Node.z x0_ x17).f3), .bool ((nth T_api_Node.z x0_ x17).f4), .bool ((nth T_api_Node.z x0_ x17).f5)] 104] := by rw [← hn92]; exact hS
        replace hS := hS.front 1 rfl
        replace hS := hS.tail
        exact then_n ⟨k74, by omega, _, (some ⟨b81, 0, none⟩), c69, (l70.set (t47.1).toNat (⟨(nth T_api_Choice.z l70 t47.1).f0, (if (w64 ((nth T_api_Choice.z l70 t47.1).f1 + (nth T_api_Node.z x0_ x17).f3)) < 65536 then (w64 ((nth T_api_Choice.z l70 t47.1).f1 + (nth T_api_Node.z x0_ x17).f3)) else 65536)⟩ : T_api_Choice)), (w64 (x17 + 1)), F71, by omega, hE, .of, hS, g0_0, hp1c0_, hp1c1_, H⟩
       ·
        replace hE := hE.bf 44 c78
        refine cf hE (wp_skip ?_)
        refine block_n ?_
        refine hK26 _ _ (pl0 (plc hE (.r 0 2 .nil) (fun a hE => pld ?_)))
        replace hS := hS.tail
        exact then_n ⟨k74, by omega, _, A68, c69, l70, (w64 (x17 + 1)), F71, by omega, hE, .of, hS, g0_0, hp1c0_, hp1c1_, H⟩
     refine wp_seq_k fun K50 hK50 => pl0 (plc hE (.r 0 2 .nil) (fun a hE => pld (hK50 _ _ ?_)))
     rcases sp H with ⟨c51, H⟩ | ⟨c51, H⟩
     ·
      replace hE := hE.btn 34 c51
      refine cf hE (wp_skip ?_)
      exact J75 _ (by omega) _ A14 c15 l16 F18 _ _ hE .of hS g0_0 hp1c0_ hp1c1_ H
     ·
      replace hE := hE.bfn 34 c51
      refine ct hE (pl0 ?_)
      have hb33 := hS.blk_at (i := 0) rfl
      refine plc hE (.r 0 3 <| .bn 3 0 6 hb33 <| .nil) (fun a hE => ?_)
      obtain ⟨t53, h54, H⟩ := bd H
      refine ple hE (.cl en242 (topo_Leaves_2.calls (⟨(nth T_api_Node.z x0_ x17).f0, (nth T_api_Node.z x0_ x17).f1, (nth T_api_Node.z x0_ x17).f2, (nth T_api_Node.z x0_ x17).f3, (nth T_api_Node.z x0_ x17).f4, (nth T_api_Node.z x0_ x17).f5⟩ : T_api_Node) _ _ _ hS.own.sub h54)) ?_
      rintro _ u52 a ⟨_, rfl, hC⟩ hE
      replace hS := hS.lent hC
      refine plc hE (.r 5 1 .nil) (fun a hE => ple hE (.lit (d := T_api_Choice.k) (e := 216) hS [(⟨t53, 0⟩ : T_api_Choice)] (.cons rfl .nil)) ?_)
      rintro _ u55 a ⟨A56, c57, rfl, hS, hg⟩ hE
      replace hS := hS.front 2 rfl
      obtain ⟨t60, h61, H⟩ := bd H
      refine ple hE (.cl en256 (slices_Insert__api_Choice_api_Choice.calls l16 t47.1 [(⟨t53, 0⟩ : T_api_Choice)] _ _ _ _ _ _ _ (Own.left (X := [row T_api_Choice.k 216 (.slice A14 l16.length c15) l16, row T_api_Choice.k 216 (.slice A56 ([(⟨t53, 0⟩ : T_api_Choice)].length) c57) [(⟨t53, 0⟩ : T_api_Choice)]]) hS.own) h61)) ?_
      rintro _ u59 a ⟨F62, A63, c64, rfl, hC⟩ hE
      have hs := hC.sub
      replace hS := hS.called (X := [row T_api_Choice.k 216 (.slice A14 l16.length c15) l16, row T_api_Choice.k 216 (.slice A56 ([(⟨t53, 0⟩ : T_api_Choice)].length) c57) [(⟨t53, 0⟩ : T_api_Choice)]]) hC
      replace g0_0 := g0_0.mono hs
      replace hp1c0_ := hs _ _ _ _ hp1c0_
      replace hp1c1_ := hs _ _ _ _ hp1c1_
      refine plc hE (.r 8 1 .nil) (fun a hE => pld ?_)
      replace hS := hS.front 1 rfl
      exact J75 _ (by omega) _ A63 c64 t60 F62 _ _ hE .of hS g0_0 hp1c0_ hp1c1_ H
    ·
     replace hE := hE.bfn 24 c41
     refine ct hE ?_
     refine wp_exit ?_
     refine hK26 _ _ (pl0 (plc hE (.r 0 2 .nil) (fun a hE => pld ?_)))
     replace hS := hS.tail
     exact then_n ⟨k21, by omega, _, A14, c15, l16, (w64 (x17 + 1)), F18, by omega, hE, .of, hS, g0_0, hp1c0_, hp1c1_, H⟩
   ·
    replace hE := hE.kf 18 c25
    refine cf hE ?_
    refine wp_exit ?_
    refine hK11 _ _ (wp_seq_k fun K94 hK94 => pl0 (plc hE (.r 0 2 .nil) (fun a hE => pld (hK94 _ _ (wp_ret ?_)))))
    obtain rfl := si H
    exact rt1 hE ⟨_, rfl, _, _, _, rfl, hS⟩
 ·
  replace hE := hE.kfn 14 c8
  refine ct hE (wp_seq_k fun K9 hK9 => pl0 (plc hE (.r 0 1 .nil) (fun a hE => pld (hK9 _ _ (wp_ret (then_ret ?_))))))
  replace hS := hS.nilrow T_api_Choice.k 216
  obtain rfl := si H
  exact rt1 hE ⟨_, rfl, _, _, _, rfl, hS⟩

/-! ### windrose/topo.Leaves: function 227 -/
def topo_Leaves.f (k : Nat) (x0_ : List T_api_Node) (x1_ : Int) (x2_ : Int) : Option (List T_api_Choice) := (topo_weigh_of_topo_Leaves_1_topo_Leaves_2.f k x0_ x1_ x2_).bind fun t12 => (some t12)
def topo_Leaves.Post (W F : World) (r : List T_api_Choice) (v : Value) (w' : World) : Prop := ∃ (F' : World) (RA0_0 : Option Addr) (rc0_0 : Nat), v = .slice RA0_0 r.length rc0_0 ∧ St W (mine W []) F w' F' [row T_api_Choice.k 216 (.slice RA0_0 r.length rc0_0) r]
theorem topo_Leaves.calls (k : Nat) (x0_ : List T_api_Node) (x1_ : Int) (x2_ : Int) (A0_0 : Option Addr) (c0_0 : Nat) (r : List T_api_Choice) (W F : World) (hown : Sub F W) (g0_0 : Rd T_api_Node.k F A0_0 c0_0 x0_) (H : topo_Leaves.f k x0_ x1_ x2_ = some r) :
    Calls Tryz.prog 227 #[.slice A0_0 x0_.length c0_0, .int .i64 x1_, .int .i64 x2_] W fun e w' => ∃ v, e = .returned v ∧ topo_Leaves.Post W F r v w' := by
 have hS := St.start (Own.nil hown)
 unfold topo_Leaves.f at H
 refine enter (n := 10) rfl rfl rfl (Nat.le_of_ble_eq_true rfl) (fun a hE => ?_)
 refine wp_seq_k fun K1 hK1 => pl0 (ple hE (.bx (t := 3) hS [.int .i64 x1_]) ?_)
 rintro _ u3 a ⟨b2, rfl, hb2, hS, hg⟩ hE
 refine ple hE (.bx (t := 3) hS [.int .i64 x2_]) ?_
 rintro _ u5 a ⟨b4, rfl, hb4, hS, hg⟩ hE
 refine plc hE (.r 2 1 .nil) (fun a hE => pld (hK1 _ _ (wp_seq_k fun K6 hK6 => pl0 (plc hE (.r 0 2 .nil) (fun a hE => ?_)))))
 replace hS := hS.front 1 rfl
 obtain ⟨F7, hs, g8, hS⟩ := hS.giveb
 replace g0_0 := g0_0.mono hs
 obtain ⟨F9, hs, g10, hS⟩ := hS.giveb
 replace g0_0 := g0_0.mono hs
 replace g8 := hs _ _ _ _ g8
 obtain ⟨t12, h13, H⟩ := bd H
 refine ple hE (.cl en236 (topo_weigh_of_topo_Leaves_1_topo_Leaves_2.calls k x0_ x1_ x2_ _ _ _ _ _ _ _ hS.own.sub g0_0 g8 g10 h13)) ?_
 rintro _ u11 a ⟨F14, A15, c16, rfl, hC⟩ hE
 have hs := hC.sub
 replace hS := hS.called (X := []) hC
 replace g0_0 := g0_0.mono hs
 replace g8 := hs _ _ _ _ g8
 replace g10 := hs _ _ _ _ g10
 refine plc hE (.r 3 1 .nil) (fun a hE => pld (hK6 _ _ (wp_ret ?_)))
 obtain rfl := si H
 exact rt1 hE ⟨_, rfl, _, _, _, rfl, hS⟩

/-! ### windrose/mix.Mix: function 250 -/
def mix_Mix.l6 : Nat → Int → Int → Option Int
  | 0, _, _ => none
  | k + 1, x4, x5 => if x5 < 2 then (mix_Mix.l6 k (IntKind.u64.wrap ((IntKind.u64.wrap (((BitVec.ofInt 64 x4 ^^^ BitVec.ofInt 64 (x4.fdiv 4294967296)).toNat : Int))) * 15485907386658061715)) (w64 (x5 + 1))) else (some (IntKind.u64.wrap (((BitVec.ofInt 64 x4 ^^^ BitVec.ofInt 64 (x4.fdiv 4294967296)).toNat : Int))))
theorem mix_Mix.l6_s (k : Nat) (x4 : Int) (x5 : Int) : mix_Mix.l6 (k + 1) x4 x5 = (if x5 < 2 then (mix_Mix.l6 k (IntKind.u64.wrap ((IntKind.u64.wrap (((BitVec.ofInt 64 x4 ^^^ BitVec.ofInt 64 (x4.fdiv 4294967296)).toNat : Int))) * 15485907386658061715)) (w64 (x5 + 1))) else (some (IntKind.u64.wrap (((BitVec.ofInt 64 x4 ^^^ BitVec.ofInt 64 (x4.fdiv 4294967296)).toNat : Int))))) := by kernel_rfl
def mix_Mix.f (k : Nat) (x0_ : Int) : Option Int := mix_Mix.l6 k x0_ 0
def mix_Mix.Post (W F : World) (r : Int) (v : Value) (w' : World) : Prop := ∃ (F' : World), v = .int .u64 r ∧ St W (mine W []) F w' F' []
theorem mix_Mix.calls (k : Nat) (x0_ : Int) (r : Int) (W F : World) (hown : Sub F W) (H : mix_Mix.f k x0_ = some r) :
    Calls Tryz.prog 250 #[.int .u64 x0_] W fun e w' => ∃ v, e = .returned v ∧ mix_Mix.Post W F r v w' := by
 have hS := St.start (Own.nil hown)
 unfold mix_Mix.f at H
 refine enter (n := 16) rfl rfl rfl (Nat.le_of_ble_eq_true rfl) (fun a hE => ?_)
 refine wp_seq_k fun K1 hK1 => pl0 (plc hE (.r 0 1 .nil) (fun a hE => pld (hK1 _ _ (wp_seq_k fun K2 hK2 => wp_seq_k fun K3 hK3 => pl0 (plc hE (.r 0 1 .nil) (fun a hE => pld (hK3 _ _ (wp_block ?_))))))))
 refine wp_loop_ghost (fun kq7 a w' => ∃ (G : Nat → Value) (x4 : Int) (x5 : Int), kq7 ≤ k ∧ Env 16 G a ∧ At G [(0, .int .u64 x4), (3, .int .i64 x5)] ∧ St W (mine W []) F w' F [] ∧  mix_Mix.l6 kq7 x4 x5 = some r) k ⟨_, x0_, 0, Nat.le_refl _, hE, .of, hS, H⟩ ?_
 rintro kq7 a u9 ⟨G, x4, x5, hkq, hE, hA, hS, H⟩
 cases kq7 with
 | zero => cases (show none = some r from H)
 | succ k8 =>
  rw [mix_Mix.l6_s] at H
  obtain ⟨J, hE⟩ := hE.at hA
  refine wp_seq_k fun K10 hK10 => pl0 (plc hE (.r 0 1 .nil) (fun a hE => pld (hK10 _ _ (wp_seq_k fun K11 hK11 => ?_))))
  rcases sp H with ⟨c12, H⟩ | ⟨c12, H⟩
  ·
   replace hE := hE.kt 4 c12
   refine ct hE (wp_skip (hK11 _ _ (wp_seq_k fun K13 hK13 => wp_block (wp_seq_k fun K14 hK14 => pl0 (plc hE (.r 0 5 .nil) (fun a hE => pld (hK14 _ _ (pl0 (plc hE (.r 0 3 .nil) (fun a hE => pld ?_))))))))))
   refine block_n ?_
   refine hK13 _ _ (pl0 (plc hE (.r 0 2 .nil) (fun a hE => pld ?_)))
   exact then_n ⟨k8, by omega, _, (IntKind.u64.wrap ((IntKind.u64.wrap (((BitVec.ofInt 64 x4 ^^^ BitVec.ofInt 64 (x4.fdiv 4294967296)).toNat : Int))) * 15485907386658061715)), (w64 (x5 + 1)), by omega, hE, .of, hS, H⟩
  ·
   replace hE := hE.kf 4 c12
   refine cf hE ?_
   refine wp_exit ?_
   refine hK2 _ _ (wp_seq_k fun K15 hK15 => pl0 (plc hE (.r 0 5 .nil) (fun a hE => pld (hK15 _ _ (wp_ret ?_)))))
   obtain rfl := si H
   exact rt1 hE ⟨_, rfl, _, rfl, hS⟩

/-! ### windrose/mix.Fold: function 229 -/
def mix_Fold.l10 : Nat → List Int → Int → Int → Option Int
  | 0, _, _, _ => none
  | k + 1, x1_, x8, x9 => if x9 < (x1_.length : Int) then (if 0 ≤ x9 ∧ x9 < (x1_.length : Int) then ((mix_Mix.f k (IntKind.u64.wrap ((IntKind.u64.wrap (((BitVec.ofInt 64 x8 ^^^ BitVec.ofInt 64 (nth 0 x1_ x9)).toNat : Int))) + 11400714819323198485))).bind fun t25 => (mix_Fold.l10 k x1_ t25 (w64 (x9 + 1)))) else (none)) else (some x8)
theorem mix_Fold.l10_s (k : Nat) (x1_ : List Int) (x8 : Int) (x9 : Int) : mix_Fold.l10 (k + 1) x1_ x8 x9 = (if x9 < (x1_.length : Int) then (if 0 ≤ x9 ∧ x9 < (x1_.length : Int) then ((mix_Mix.f k (IntKind.u64.wrap ((IntKind.u64.wrap (((BitVec.ofInt 64 x8 ^^^ BitVec.ofInt 64 (nth 0 x1_ x9)).toNat : Int))) + 11400714819323198485))).bind fun t25 => (mix_Fold.l10 k x1_ t25 (w64 (x9 + 1)))) else (none)) else (some x8)) := by kernel_rfl
def mix_Fold.f (k : Nat) (x0_ : Int) (x1_ : List Int) : Option Int := (mix_Mix.f k x0_).bind fun t4 => (mix_Fold.l10 k x1_ t4 0)
def mix_Fold.Post (W F : World) (r : Int) (v : Value) (w' : World) : Prop := ∃ (F' : World), v = .int .u64 r ∧ St W (mine W []) F w' F' []
theorem mix_Fold.calls (k : Nat) (x0_ : Int) (x1_ : List Int) (A1_0 : Option Addr) (c1_0 : Nat) (r : Int) (W F : World) (hown : Sub F W) (g1_0 : Rd (Kn.int .u64) F A1_0 c1_0 x1_) (H : mix_Fold.f k x0_ x1_ = some r) :
    Calls Tryz.prog 229 #[.int .u64 x0_, .slice A1_0 x1_.length c1_0] W fun e w' => ∃ v, e = .returned v ∧ mix_Fold.Post W F r v w' := by
 have hS := St.start (Own.nil hown)
 unfold mix_Fold.f at H
 refine enter (n := 23) rfl rfl rfl (Nat.le_of_ble_eq_true rfl) (fun a hE => ?_)
 refine wp_seq_k fun K1 hK1 => pl0 (plc hE (.r 0 1 .nil) (fun a hE => pld (hK1 _ _ (wp_seq_k fun K2 hK2 => pl0 (plc hE (.r 0 1 .nil) (fun a hE => ?_))))))
 obtain ⟨t4, h5, H⟩ := bd H
 refine ple hE (.cl en250 (mix_Mix.calls k x0_ _ _ _ hS.own.sub h5)) ?_
 rintro _ u3 a ⟨_, rfl, hC⟩ hE
 replace hS := hS.lent hC
 refine plc hE (.r 2 1 .nil) (fun a hE => pld (hK2 _ _ (wp_seq_k fun K6 hK6 => wp_seq_k fun K7 hK7 => pl0 (plc hE (.r 0 3 .nil) (fun a hE => pld (hK7 _ _ (wp_block ?_)))))))
 refine wp_loop_ghost (fun kq11 a w' => ∃ (G : Nat → Value) (x8 : Int) (x9 : Int), kq11 ≤ k ∧ Env 23 G a ∧ At G [(5, .int .u64 x8), (10, .slice A1_0 x1_.length c1_0), (11, .int .i64 (x1_.length : Int)), (12, .int .i64 x9)] ∧ St W (mine W []) F w' F [] ∧  mix_Fold.l10 kq11 x1_ x8 x9 = some r) k ⟨_, t4, 0, Nat.le_refl _, hE, .of, hS, H⟩ ?_
 rintro kq11 a u13 ⟨G, x8, x9, hkq, hE, hA, hS, H⟩
 cases kq11 with
 | zero => cases (show none = some r from H)
 | succ k12 =>
  rw [mix_Fold.l10_s] at H
  obtain ⟨J, hE⟩ := hE.at hA
  refine wp_seq_k fun K14 hK14 => pl0 (plc hE (.r 0 1 .nil) (fun a hE => pld (hK14 _ _ (wp_seq_k fun K15 hK15 => ?_))))
  rcases sp H with ⟨c16, H⟩ | ⟨c16, H⟩
  ·
   replace hE := hE.kt 13 c16
   refine ct hE (wp_skip (hK15 _ _ (wp_seq_k fun K17 hK17 => wp_block (wp_seq_k fun K18 hK18 => pl0 ?_))))
   obtain ⟨c19, H⟩ := gd H
   have hE_ := hE
   obtain ⟨ad20, rfl⟩ := g1_0.addr c19.1 c19.2
   replace hE := hE_
   obtain ⟨cs22, rfl, hc23⟩ := g1_0.el 0 x9 c19.1 c19.2
   refine plc hE (.x 0 c19 <| .c 1 (hS.fc hc23 0) <| .r 2 1 <| .nil) (fun a hE => pld (hK18 _ _ (pl0 (plc hE (.r 0 4 .nil) (fun a hE => ?_)))))
   obtain ⟨t25, h26, H⟩ := bd H
   refine ple hE (.cl en250 (mix_Mix.calls k12 (IntKind.u64.wrap ((IntKind.u64.wrap (((BitVec.ofInt 64 x8 ^^^ BitVec.ofInt 64 (nth 0 x1_ x9)).toNat : Int))) + 11400714819323198485)) _ _ _ hS.own.sub h26)) ?_
   rintro _ u24 a ⟨_, rfl, hC⟩ hE
   replace hS := hS.lent hC
   refine plc hE (.r 5 1 .nil) (fun a hE => pld ?_)
   refine block_n ?_
   refine hK17 _ _ (pl0 (plc hE (.r 0 2 .nil) (fun a hE => pld ?_)))
   exact then_n ⟨k12, by omega, _, t25, (w64 (x9 + 1)), by omega, hE, .of, hS, H⟩
  ·
   replace hE := hE.kf 13 c16
   refine cf hE ?_
   refine wp_exit ?_
   refine hK6 _ _ (wp_seq_k fun K27 hK27 => pl0 (plc hE (.r 0 2 .nil) (fun a hE => pld (hK27 _ _ (wp_ret ?_)))))
   obtain rfl := si H
   exact rt1 hE ⟨_, rfl, _, rfl, hS⟩

/-! ### windrose/draw.Check: function 243 -/
mutual
def draw_Check.l9 : Nat → List T_api_Choice → Int → Option Int
  | 0, _, _ => none
  | k + 1, x0_, x8 => if x8 < (x0_.length : Int) then (if 0 ≤ x8 ∧ x8 < (x0_.length : Int) then (if (nth T_api_Choice.z x0_ x8).f0 < 0 then (draw_Check.j37 k x0_ x8 true) else (if (nth T_api_Choice.z x0_ x8).f0 > 2147483647 then (draw_Check.j37 k x0_ x8 true) else (if (nth T_api_Choice.z x0_ x8).f1 < 0 then (draw_Check.j37 k x0_ x8 true) else (if (nth T_api_Choice.z x0_ x8).f1 > 65536 then (draw_Check.j37 k x0_ x8 true) else (if x8 > 0 then (if 0 ≤ (w64 (x8 - 1)) ∧ (w64 (x8 - 1)) < (x0_.length : Int) then (draw_Check.j37 k x0_ x8 (decide ((nth T_api_Choice.z x0_ x8).f0 ≤ (nth T_api_Choice.z x0_ (w64 (x8 - 1))).f0))) else (none)) else (draw_Check.j37 k x0_ x8 false)))))) else (none)) else (some 0)
def draw_Check.j37 : Nat → List T_api_Choice → Int → Bool → Option Int
  | 0, _, _, _ => none
  | k + 1, x0_, x8, y36 => if y36 = true then (some 1) else (draw_Check.l9 k x0_ (w64 (x8 + 1)))
end
theorem draw_Check.l9_s (k : Nat) (x0_ : List T_api_Choice) (x8 : Int) : draw_Check.l9 (k + 1) x0_ x8 = (if x8 < (x0_.length : Int) then (if 0 ≤ x8 ∧ x8 < (x0_.length : Int) then (if (nth T_api_Choice.z x0_ x8).f0 < 0 then (draw_Check.j37 k x0_ x8 true) else (if (nth T_api_Choice.z x0_ x8).f0 > 2147483647 then (draw_Check.j37 k x0_ x8 true) else (if (nth T_api_Choice.z x0_ x8).f1 < 0 then (draw_Check.j37 k x0_ x8 true) else (if (nth T_api_Choice.z x0_ x8).f1 > 65536 then (draw_Check.j37 k x0_ x8 true) else (if x8 > 0 then (if 0 ≤ (w64 (x8 - 1)) ∧ (w64 (x8 - 1)) < (x0_.length : Int) then (draw_Check.j37 k x0_ x8 (decide ((nth T_api_Choice.z x0_ x8).f0 ≤ (nth T_api_Choice.z x0_ (w64 (x8 - 1))).f0))) else (none)) else (draw_Check.j37 k x0_ x8 false)))))) else (none)) else (some 0)) := by kernel_rfl
theorem draw_Check.j37_s (k : Nat) (x0_ : List T_api_Choice) (x8 : Int) (y36 : Bool) : draw_Check.j37 (k + 1) x0_ x8 y36 = (if y36 = true then (some 1) else (draw_Check.l9 k x0_ (w64 (x8 + 1)))) := by kernel_rfl
def draw_Check.f (k : Nat) (x0_ : List T_api_Choice) : Option Int := if (x0_.length : Int) > 64 then (some 1) else (draw_Check.l9 k x0_ 0)
def draw_Check.Post (W F : World) (r : Int) (v : Value) (w' : World) : Prop := ∃ (F' : World), v = .int .i64 r ∧ St W (mine W []) F w' F' []
theorem draw_Check.calls (k : Nat) (x0_ : List T_api_Choice) (A0_0 : Option Addr) (c0_0 : Nat) (r : Int) (W F : World) (hown : Sub F W) (g0_0 : Rd T_api_Choice.k F A0_0 c0_0 x0_) (H : draw_Check.f k x0_ = some r) :
    Calls Tryz.prog 243 #[.slice A0_0 x0_.length c0_0] W fun e w' => ∃ v, e = .returned v ∧ draw_Check.Post W F r v w' := by
 have hS := St.start (Own.nil hown)
 unfold draw_Check.f at H
 refine enter (n := 49) rfl rfl rfl (Nat.le_of_ble_eq_true rfl) (fun a hE => ?_)
 refine wp_seq_k fun K1 hK1 => pl0 (plc hE (.r 0 1 .nil) (fun a hE => pld (hK1 _ _ (wp_seq_k fun K2 hK2 => wp_seq_k fun K3 hK3 => pl0 (plc hE (.r 0 3 .nil) (fun a hE => pld (hK3 _ _ ?_)))))))
 rcases sp H with ⟨c4, H⟩ | ⟨c4, H⟩
 ·
  replace hE := hE.kt 7 c4
  refine ct hE (wp_seq_k fun K5 hK5 => pl0 (plc hE (.r 0 1 .nil) (fun a hE => pld (hK5 _ _ (wp_ret (then_ret ?_))))))
  obtain rfl := si H
  exact rt1 hE ⟨_, rfl, _, rfl, hS⟩
 ·
  replace hE := hE.kf 7 c4
  refine cf hE (wp_skip (hK2 _ _ (wp_seq_k fun K6 hK6 => wp_seq_k fun K7 hK7 => pl0 (plc hE (.r 0 3 .nil) (fun a hE => pld (hK7 _ _ (wp_block ?_)))))))
  refine wp_loop_ghost (fun kq10 a w' => ∃ (G : Nat → Value) (x8 : Int), kq10 ≤ k ∧ Env 49 G a ∧ At G [(0, .slice A0_0 x0_.length c0_0), (8, .slice A0_0 x0_.length c0_0), (9, .int .i64 (x0_.length : Int)), (10, .int .i64 x8)] ∧ St W (mine W []) F w' F [] ∧  draw_Check.l9 kq10 x0_ x8 = some r) k ⟨_, 0, Nat.le_refl _, hE, .of, hS, H⟩ ?_
  rintro kq10 a u12 ⟨G, x8, hkq, hE, hA, hS, H⟩
  cases kq10 with
  | zero => cases (show none = some r from H)
  | succ k11 =>
   rw [draw_Check.l9_s] at H
   obtain ⟨J, hE⟩ := hE.at hA
   refine wp_seq_k fun K13 hK13 => pl0 (plc hE (.r 0 1 .nil) (fun a hE => pld (hK13 _ _ (wp_seq_k fun K14 hK14 => ?_))))
   rcases sp H with ⟨c15, H⟩ | ⟨c15, H⟩
   ·
    replace hE := hE.kt 11 c15
    refine ct hE (wp_skip (hK14 _ _ (wp_seq_k fun K16 hK16 => wp_block (wp_seq_k fun K17 hK17 => pl0 ?_))))
    obtain ⟨c18, H⟩ := gd H
    have hE_ := hE
    obtain ⟨ad19, rfl⟩ := g0_0.addr c18.1 c18.2
    replace hE := hE_
    obtain ⟨cs21, rfl, hc22⟩ := g0_0.el T_api_Choice.z x8 c18.1 c18.2
    refine plc hE (.r 0 1 <| .x 1 c18 <| .cs 2 (hS.fcs hc22) <| .nil) (fun a hE => ple hE (.al (t := 216) hS [.int .i64 0, .int .i64 0]) ?_)
    rintro _ u24 a ⟨b23, rfl, hb23, hS, hg⟩ hE
    refine plc hE (.r 4 1 .nil) (fun a hE => ple hE (.sto hS [.int .i64 ((nth T_api_Choice.z x0_ x8).f0), .int .i64 ((nth T_api_Choice.z x0_ x8).f1)]) ?_)
    rintro _ u25 a ⟨rfl, hb23, hS, hz⟩ hE
    refine pld (hK17 _ _ (wp_seq_k fun K26 hK26 => ?_))
    have J40 : ∀ kq38, kq38 ≤ k11 → ∀ (G : Nat → Value) (y36 : Bool) (a : Act) (w' : World), Env 49 G a → At G [(0, .slice (some ad19) x0_.length c0_0), (8, .slice (some ad19) x0_.length c0_0), (9, .int .i64 (x0_.length : Int)), (10, .int .i64 x8), (47, .bool y36)] → St W (mine W []) F w' F [box b23 #[.int .i64 ((nth T_api_Choice.z x0_ x8).f0), .int .i64 ((nth T_api_Choice.z x0_ x8).f1)] 216] → draw_Check.j37 kq38 x0_ x8 y36 = some r → K26 a w' := by
     intro kq38 hkq G y36 a u41 hE hA hS H
     cases kq38 with
     | zero => cases (show none = some r from H)
     | succ k39 =>
      rw [draw_Check.j37_s] at H
      obtain ⟨J, hE⟩ := hE.at hA
      refine hK26 _ _ ?_
      rcases sp H with ⟨c42, H⟩ | ⟨c42, H⟩
      ·
       replace hE := hE.bt 47 c42
       refine ct hE (wp_seq_k fun K43 hK43 => pl0 (plc hE (.r 0 1 .nil) (fun a hE => pld (hK43 _ _ (wp_ret (block_ret (then_ret (then_ret (block_ret (then_ret ?_))))))))))
       replace hS := hS.tail
       obtain rfl := si H
       exact rt1 hE ⟨_, rfl, _, rfl, hS⟩
      ·
       replace hE := hE.bf 47 c42
       refine cf hE (wp_skip ?_)
       refine block_n ?_
       refine hK16 _ _ (pl0 (plc hE (.r 0 2 .nil) (fun a hE => pld ?_)))
       replace hS := hS.tail
       exact then_n ⟨k39, by omega, _, (w64 (x8 + 1)), by omega, hE, .of, hS, H⟩
    refine drawn 33 ⟨[], [], fun q => False⟩ mixed rfl (by kernel_rfl) (fun hst => ?_)
    replace hS := hS.drew
    have hb23 := hS.blk_at (i := 0) rfl
    refine mny 29 hst hE (.r 0 1 <| .b 1 0 hb23 <| .r 2 2 <| .nil) (fun a hE => ?_)
    rcases sp H with ⟨c27, H⟩ | ⟨c27, H⟩
    ·
     replace hE := hE.kt 18 c27
     refine mny 0 hst hE (.r 4 29 .nil) (fun a hE => ?_)
     refine dn ?_
     exact J40 _ (by omega) _ true _ _ hE .of hS H
    ·
     replace hE := hE.kf 18 c27
     refine mny 24 hst hE (.r 4 1 <| .b 5 0 hb23 <| .r 6 3 <| .nil) (fun a hE => ?_)
     rcases sp H with ⟨c28, H⟩ | ⟨c28, H⟩
     ·
      replace hE := hE.kt 23 c28
      refine mny 0 hst hE (.r 9 24 .nil) (fun a hE => ?_)
      refine dn ?_
      exact J40 _ (by omega) _ true _ _ hE .of hS H
     ·
      replace hE := hE.kf 23 c28
      refine mny 19 hst hE (.r 9 1 <| .b 10 1 hb23 <| .r 11 3 <| .nil) (fun a hE => ?_)
      rcases sp H with ⟨c29, H⟩ | ⟨c29, H⟩
      ·
       replace hE := hE.kt 28 c29
       refine mny 0 hst hE (.r 14 19 .nil) (fun a hE => ?_)
       refine dn ?_
       exact J40 _ (by omega) _ true _ _ hE .of hS H
      ·
       replace hE := hE.kf 28 c29
       refine mny 14 hst hE (.r 14 1 <| .b 15 1 hb23 <| .r 16 3 <| .nil) (fun a hE => ?_)
       rcases sp H with ⟨c30, H⟩ | ⟨c30, H⟩
       ·
        replace hE := hE.kt 33 c30
        refine mny 0 hst hE (.r 19 14 .nil) (fun a hE => ?_)
        refine dn ?_
        exact J40 _ (by omega) _ true _ _ hE .of hS H
       ·
        replace hE := hE.kf 33 c30
        refine mny 11 hst hE (.r 19 3 .nil) (fun a hE => ?_)
        rcases sp H with ⟨c31, H⟩ | ⟨c31, H⟩
        ·
         replace hE := hE.kt 36 c31
         obtain ⟨c32, H⟩ := gd H
         obtain ⟨cs34, rfl, hc35⟩ := g0_0.el T_api_Choice.z (w64 (x8 - 1)) c32.1 c32.2
         refine mny 0 hst hE (.r 22 1 <| .b 23 0 hb23 <| .r 24 3 <| .x 27 c32 <| .r 28 1 <| .c 29 (hS.fc hc35 0) <| .r 30 3 <| .nil) (fun a hE => ?_)
         refine dn ?_
         exact J40 _ (by omega) _ (decide ((nth T_api_Choice.z x0_ x8).f0 ≤ (nth T_api_Choice.z x0_ (w64 (x8 - 1))).f0)) _ _ hE .of hS H
        ·
         replace hE := hE.kf 36 c31
         refine mny 0 hst hE (.r 22 11 .nil) (fun a hE => ?_)
         refine dn ?_
         exact J40 _ (by omega) _ false _ _ hE .of hS H
   ·
    replace hE := hE.kf 11 c15
    refine cf hE ?_
    refine wp_exit ?_
    refine hK6 _ _ (wp_seq_k fun K44 hK44 => pl0 (plc hE (.r 0 1 .nil) (fun a hE => pld (hK44 _ _ (wp_ret ?_)))))
    obtain rfl := si H
    exact rt1 hE ⟨_, rfl, _, rfl, hS⟩

/-! ### slices.Clone[[]windrose/api.Choice,windrose/api.Choice]: function 245 -/
def slices_Clone__api_Choice_api_Choice.f (x0_ : List T_api_Choice) : Option (List T_api_Choice) := if ((([] : List T_api_Choice).length : Int) + (x0_.length : Int)) * 16 ≤ 140737488355328 then (some (([] : List T_api_Choice) ++ x0_)) else (none)
def slices_Clone__api_Choice_api_Choice.Post (W F : World) (r : List T_api_Choice) (v : Value) (w' : World) : Prop := ∃ (F' : World) (RA0_0 : Option Addr) (rc0_0 : Nat), v = .slice RA0_0 r.length rc0_0 ∧ St W (mine W []) F w' F' [row T_api_Choice.k 216 (.slice RA0_0 r.length rc0_0) r]
theorem slices_Clone__api_Choice_api_Choice.calls (x0_ : List T_api_Choice) (A0_0 : Option Addr) (c0_0 : Nat) (r : List T_api_Choice) (W F : World) (hown : Sub F W) (g0_0 : Rd T_api_Choice.k F A0_0 c0_0 x0_) (H : slices_Clone__api_Choice_api_Choice.f x0_ = some r) :
    Calls Tryz.prog 245 #[.slice A0_0 x0_.length c0_0] W fun e w' => ∃ v, e = .returned v ∧ slices_Clone__api_Choice_api_Choice.Post W F r v w' := by
 have hS := St.start (Own.nil hown)
 unfold slices_Clone__api_Choice_api_Choice.f at H
 refine enter (n := 8) rfl rfl rfl (Nat.le_of_ble_eq_true rfl) (fun a hE => ?_)
 rcases A0_0 with _ | ad1
 ·
  have hnil := g0_0.none_nil
  replace H : (some []) = some r := by simpa [hnil] using H
  refine wp_seq_k fun K2 hK2 => pl0 (plc hE (.r 0 1 .nil) (fun a hE => pld (hK2 _ _ (wp_seq_k fun K3 hK3 => wp_seq_k fun K4 hK4 => pl0 (plc hE (.r 0 2 .nil) (fun a hE => pld (hK4 _ _ (ct hE (wp_seq_k fun K5 hK5 => pl0 (plc hE (.r 0 1 .nil) (fun a hE => pld (hK5 _ _ (wp_ret (then_ret ?_))))))))))))))
  replace hS := hS.nilrow T_api_Choice.k 216
  obtain rfl := si H
  exact rt1 hE ⟨_, rfl, _, _, _, rfl, hS⟩
 ·
  refine wp_seq_k fun K7 hK7 => pl0 (plc hE (.r 0 1 .nil) (fun a hE => pld (hK7 _ _ (wp_seq_k fun K8 hK8 => wp_seq_k fun K9 hK9 => pl0 (plc hE (.r 0 2 .nil) (fun a hE => pld (hK9 _ _ (cf hE (wp_skip (hK8 _ _ (wp_seq_k fun K10 hK10 => pl0 (ple hE (.lit (d := T_api_Choice.k) (e := 216) hS ([] : List T_api_Choice) (.nil)) ?_))))))))))))
  rintro _ u11 a ⟨A12, c13, rfl, hS, hg⟩ hE
  refine plc hE (.r 1 1 .nil) (fun a hE => ?_)
  obtain ⟨c15, H⟩ := gd H
  refine ple hE (.ap (d := T_api_Choice.k) 16 hS (g0_0.src hS.own.sub) c15 c0_0) ?_
  rintro _ u18 a ⟨A16, c17, rfl, hS, hz⟩ hE
  refine plc hE (.r 3 1 .nil) (fun a hE => pld (hK10 _ _ (wp_ret ?_)))
  obtain rfl := si H
  exact rt1 hE ⟨_, rfl, _, _, _, rfl, hS⟩

/-! ### windrose/draw.Order$1: function 246 -/
def draw_Order_1.f (x0_ : T_api_Choice) : Option Bool := some (x0_.f1 == 0)
def draw_Order_1.Post (W F : World) (r : Bool) (v : Value) (w' : World) : Prop := ∃ (F' : World), v = .bool r ∧ St W (mine W []) F w' F' []
theorem draw_Order_1.calls (x0_ : T_api_Choice) (r : Bool) (W F : World) (hown : Sub F W) (H : draw_Order_1.f x0_ = some r) :
    Calls Tryz.prog 246 #[.agg #[.int .i64 x0_.f0, .int .i64 x0_.f1]] W fun e w' => ∃ v, e = .returned v ∧ draw_Order_1.Post W F r v w' := by
 have hS := St.start (Own.nil hown)
 unfold draw_Order_1.f at H
 refine enter (n := 6) rfl rfl rfl (Nat.le_of_ble_eq_true rfl) (fun a hE => ?_)
 refine wp_seq_k fun K1 hK1 => pl0 (ple hE (.bx (t := 216) hS [.int .i64 x0_.f0, .int .i64 x0_.f1]) ?_)
 rintro _ u3 a ⟨b2, rfl, hb2, hS, hg⟩ hE
 refine plc hE (.r 1 1 .nil) (fun a hE => pld (hK1 _ _ (wp_seq_k fun K4 hK4 => pl0 (plc hE (.r 0 1 <| .b 1 1 hb2 <| .r 2 2 <| .nil) (fun a hE => pld (hK4 _ _ (wp_ret ?_)))))))
 replace hS := hS.tail
 obtain rfl := si H
 exact rt1 hE ⟨_, rfl, _, rfl, hS⟩

/-! ### slices.IndexFunc[[]windrose/api.Choice,windrose/api.Choice]: function 257 -/
def slices_IndexFunc__api_Choice_api_Choice_of_draw_Order_1.l5 : Nat → List T_api_Choice → Int → Option Int
  | 0, _, _ => none
  | k + 1, x0_, x4 => if x4 < (x0_.length : Int) then (if 0 ≤ x4 ∧ x4 < (x0_.length : Int) then ((draw_Order_1.f (⟨(nth T_api_Choice.z x0_ x4).f0, (nth T_api_Choice.z x0_ x4).f1⟩ : T_api_Choice)).bind fun t21 => (if t21 = true then (some x4) else (slices_IndexFunc__api_Choice_api_Choice_of_draw_Order_1.l5 k x0_ (w64 (x4 + 1))))) else (none)) else (some (-1))
theorem slices_IndexFunc__api_Choice_api_Choice_of_draw_Order_1.l5_s (k : Nat) (x0_ : List T_api_Choice) (x4 : Int) : slices_IndexFunc__api_Choice_api_Choice_of_draw_Order_1.l5 (k + 1) x0_ x4 = (if x4 < (x0_.length : Int) then (if 0 ≤ x4 ∧ x4 < (x0_.length : Int) then ((draw_Order_1.f (⟨(nth T_api_Choice.z x0_ x4).f0, (nth T_api_Choice.z x0_ x4).f1⟩ : T_api_Choice)).bind fun t21 => (if t21 = true then (some x4) else (slices_IndexFunc__api_Choice_api_Choice_of_draw_Order_1.l5 k x0_ (w64 (x4 + 1))))) else (none)) else (some (-1))) := by kernel_rfl
def slices_IndexFunc__api_Choice_api_Choice_of_draw_Order_1.f (k : Nat) (x0_ : List T_api_Choice) : Option Int := slices_IndexFunc__api_Choice_api_Choice_of_draw_Order_1.l5 k x0_ 0
def slices_IndexFunc__api_Choice_api_Choice_of_draw_Order_1.Post (W F : World) (r : Int) (v : Value) (w' : World) : Prop := ∃ (F' : World), v = .int .i64 r ∧ St W (mine W []) F w' F' []
theorem slices_IndexFunc__api_Choice_api_Choice_of_draw_Order_1.calls (k : Nat) (x0_ : List T_api_Choice) (A0_0 : Option Addr) (c0_0 : Nat) (r : Int) (W F : World) (hown : Sub F W) (g0_0 : Rd T_api_Choice.k F A0_0 c0_0 x0_) (H : slices_IndexFunc__api_Choice_api_Choice_of_draw_Order_1.f k x0_ = some r) :
    Calls Tryz.prog 257 #[.slice A0_0 x0_.length c0_0, .func (.func 246) #[] #[]] W fun e w' => ∃ v, e = .returned v ∧ slices_IndexFunc__api_Choice_api_Choice_of_draw_Order_1.Post W F r v w' := by
 have hS := St.start (Own.nil hown)
 unfold slices_IndexFunc__api_Choice_api_Choice_of_draw_Order_1.f at H
 refine enter (n := 19) rfl rfl rfl (Nat.le_of_ble_eq_true rfl) (fun a hE => ?_)
 refine wp_seq_k fun K1 hK1 => pl0 (plc hE (.r 0 1 .nil) (fun a hE => pld (hK1 _ _ (wp_seq_k fun K2 hK2 => wp_seq_k fun K3 hK3 => pl0 (plc hE (.r 0 3 .nil) (fun a hE => pld (hK3 _ _ (wp_block ?_))))))))
 refine wp_loop_ghost (fun kq6 a w' => ∃ (G : Nat → Value) (x4 : Int), kq6 ≤ k ∧ Env 19 G a ∧ At G [(0, .slice A0_0 x0_.length c0_0), (1, .func (.func 246) #[] #[]), (7, .int .i64 (x0_.length : Int)), (8, .int .i64 x4)] ∧ St W (mine W []) F w' F [] ∧  slices_IndexFunc__api_Choice_api_Choice_of_draw_Order_1.l5 kq6 x0_ x4 = some r) k ⟨_, 0, Nat.le_refl _, hE, .of, hS, H⟩ ?_
 rintro kq6 a u8 ⟨G, x4, hkq, hE, hA, hS, H⟩
 cases kq6 with
 | zero => cases (show none = some r from H)
 | succ k7 =>
  rw [slices_IndexFunc__api_Choice_api_Choice_of_draw_Order_1.l5_s] at H
  obtain ⟨J, hE⟩ := hE.at hA
  refine wp_seq_k fun K9 hK9 => pl0 (plc hE (.r 0 1 .nil) (fun a hE => pld (hK9 _ _ (wp_seq_k fun K10 hK10 => ?_))))
  rcases sp H with ⟨c11, H⟩ | ⟨c11, H⟩
  ·
   replace hE := hE.kt 9 c11
   refine ct hE (wp_skip (hK10 _ _ (wp_seq_k fun K12 hK12 => wp_block (wp_seq_k fun K13 hK13 => pl0 (plc hE (.r 0 2 .nil) (fun a hE => pld (hK13 _ _ (wp_seq_k fun K14 hK14 => pl0 ?_))))))))
   obtain ⟨c15, H⟩ := gd H
   have hE_ := hE
   obtain ⟨ad16, rfl⟩ := g0_0.addr c15.1 c15.2
   replace hE := hE_
   obtain ⟨cs18, rfl, hc19⟩ := g0_0.el T_api_Choice.z x4 c15.1 c15.2
   refine plc hE (.r 0 3 <| .x 3 c15 <| .cs 4 (hS.fcs hc19) <| .nil) (fun a hE => ?_)
   obtain ⟨t21, h22, H⟩ := bd H
   refine ple hE (.cl en246 (draw_Order_1.calls (⟨(nth T_api_Choice.z x0_ x4).f0, (nth T_api_Choice.z x0_ x4).f1⟩ : T_api_Choice) _ _ _ hS.own.sub h22)) ?_
   rintro _ u20 a ⟨_, rfl, hC⟩ hE
   replace hS := hS.lent hC
   refine pld (hK14 _ _ ?_)
   rcases sp H with ⟨c23, H⟩ | ⟨c23, H⟩
   ·
    replace hE := hE.bt 16 c23
    refine ct hE (wp_seq_k fun K24 hK24 => pl0 (plc hE (.r 0 2 .nil) (fun a hE => pld (hK24 _ _ (wp_ret (block_ret (then_ret (then_ret (block_ret (then_ret ?_))))))))))
    obtain rfl := si H
    exact rt1 hE ⟨_, rfl, _, rfl, hS⟩
   ·
    replace hE := hE.bf 16 c23
    refine cf hE (wp_skip ?_)
    refine block_n ?_
    refine hK12 _ _ (pl0 (plc hE (.r 0 2 .nil) (fun a hE => pld ?_)))
    exact then_n ⟨k7, by omega, _, (w64 (x4 + 1)), by omega, hE, .of, hS, H⟩
  ·
   replace hE := hE.kf 9 c11
   refine cf hE ?_
   refine wp_exit ?_
   refine hK2 _ _ (wp_seq_k fun K25 hK25 => pl0 (plc hE (.r 0 1 .nil) (fun a hE => pld (hK25 _ _ (wp_ret ?_)))))
   obtain rfl := si H
   exact rt1 hE ⟨_, rfl, _, rfl, hS⟩

/-! ### slices.DeleteFunc[[]windrose/api.Choice,windrose/api.Choice]: function 244 -/
def slices_DeleteFunc__api_Choice_api_Choice_of_draw_Order_1.l15 : Nat → List T_api_Choice → List T_api_Choice → Int → Int → Option (List T_api_Choice)
  | 0, _, _, _, _ => none
  | k + 1, x0_, l12, x13, x14 => if x14 < (x0_.length : Int) then (if 0 ≤ x14 ∧ x14 < (x0_.length : Int) then ((draw_Order_1.f (⟨(nth T_api_Choice.z l12 x14).f0, (nth T_api_Choice.z l12 x14).f1⟩ : T_api_Choice)).bind fun t36 => (if t36 = true then (slices_DeleteFunc__api_Choice_api_Choice_of_draw_Order_1.l15 k x0_ l12 x13 (w64 (x14 + 1))) else (if 0 ≤ x13 ∧ x13 < (x0_.length : Int) then (slices_DeleteFunc__api_Choice_api_Choice_of_draw_Order_1.l15 k x0_ (l12.set (x13).toNat (⟨(nth T_api_Choice.z l12 x14).f0, (nth T_api_Choice.z l12 x14).f1⟩ : T_api_Choice)) (w64 (x13 + 1)) (w64 (x14 + 1))) else (none)))) else (none)) else (if 0 ≤ x13 ∧ x13 ≤ (x0_.length : Int) then (some (cutl (l12.take (x13).toNat ++ List.replicate (x0_.length - (x13).toNat) T_api_Choice.z) 0 x13)) else (none))
theorem slices_DeleteFunc__api_Choice_api_Choice_of_draw_Order_1.l15_s (k : Nat) (x0_ : List T_api_Choice) (l12 : List T_api_Choice) (x13 : Int) (x14 : Int) : slices_DeleteFunc__api_Choice_api_Choice_of_draw_Order_1.l15 (k + 1) x0_ l12 x13 x14 = (if x14 < (x0_.length : Int) then (if 0 ≤ x14 ∧ x14 < (x0_.length : Int) then ((draw_Order_1.f (⟨(nth T_api_Choice.z l12 x14).f0, (nth T_api_Choice.z l12 x14).f1⟩ : T_api_Choice)).bind fun t36 => (if t36 = true then (slices_DeleteFunc__api_Choice_api_Choice_of_draw_Order_1.l15 k x0_ l12 x13 (w64 (x14 + 1))) else (if 0 ≤ x13 ∧ x13 < (x0_.length : Int) then (slices_DeleteFunc__api_Choice_api_Choice_of_draw_Order_1.l15 k x0_ (l12.set (x13).toNat (⟨(nth T_api_Choice.z l12 x14).f0, (nth T_api_Choice.z l12 x14).f1⟩ : T_api_Choice)) (w64 (x13 + 1)) (w64 (x14 + 1))) else (none)))) else (none)) else (if 0 ≤ x13 ∧ x13 ≤ (x0_.length : Int) then (some (cutl (l12.take (x13).toNat ++ List.replicate (x0_.length - (x13).toNat) T_api_Choice.z) 0 x13)) else (none))) := by kernel_rfl
def slices_DeleteFunc__api_Choice_api_Choice_of_draw_Order_1.f (k : Nat) (x0_ : List T_api_Choice) : Option (List T_api_Choice) := (slices_IndexFunc__api_Choice_api_Choice_of_draw_Order_1.f k x0_).bind fun t4 => (if t4 = (-1) then (some x0_) else (slices_DeleteFunc__api_Choice_api_Choice_of_draw_Order_1.l15 k x0_ x0_ t4 (w64 (t4 + 1))))
def slices_DeleteFunc__api_Choice_api_Choice_of_draw_Order_1.Post (x0_ : List T_api_Choice) (A0_0 : Option Addr) (c0_0 : Nat) (W F : World) (r : List T_api_Choice) (v : Value) (w' : World) : Prop := ∃ (F' : World) (RA0_0 : Option Addr) (rc0_0 : Nat), v = .slice RA0_0 r.length rc0_0 ∧ St W (mine W [row T_api_Choice.k 216 (.slice A0_0 x0_.length c0_0) x0_]) F w' F' [row T_api_Choice.k 216 (.slice RA0_0 r.length rc0_0) r]
theorem slices_DeleteFunc__api_Choice_api_Choice_of_draw_Order_1.calls (k : Nat) (x0_ : List T_api_Choice) (A0_0 : Option Addr) (c0_0 : Nat) (r : List T_api_Choice) (W F : World) (hown : Own W F [row T_api_Choice.k 216 (.slice A0_0 x0_.length c0_0) x0_]) (H : slices_DeleteFunc__api_Choice_api_Choice_of_draw_Order_1.f k x0_ = some r) :
    Calls Tryz.prog 244 #[.slice A0_0 x0_.length c0_0, .func (.func 246) #[] #[]] W fun e w' => ∃ v, e = .returned v ∧ slices_DeleteFunc__api_Choice_api_Choice_of_draw_Order_1.Post x0_ A0_0 c0_0 W F r v w' := by
 have hS := St.start hown
 obtain ⟨N, hN⟩ : ∃ N, N = mine W [row T_api_Choice.k 216 (.slice A0_0 x0_.length c0_0) x0_] := ⟨_, rfl⟩
 rw [← hN] at hS
 unfold slices_DeleteFunc__api_Choice_api_Choice_of_draw_Order_1.f at H
 refine enter (n := 42) rfl rfl rfl (Nat.le_of_ble_eq_true rfl) (fun a hE => ?_)
 refine wp_seq_k fun K1 hK1 => pl0 (plc hE (.r 0 1 .nil) (fun a hE => pld (hK1 _ _ (wp_seq_k fun K2 hK2 => pl0 (plc hE (.r 0 2 .nil) (fun a hE => ?_))))))
 obtain ⟨t4, h5, H⟩ := bd H
 refine ple hE (.cl en257 (slices_IndexFunc__api_Choice_api_Choice_of_draw_Order_1.calls k x0_ _ _ _ _ _ (Sub.refl _) (hS.rd_at (i := 0) rfl) h5)) ?_
 rintro _ u3 a ⟨_, rfl, hC⟩ hE
 replace hS := hS.lent hC
 refine plc hE (.r 3 1 .nil) (fun a hE => pld (hK2 _ _ (wp_seq_k fun K6 hK6 => wp_seq_k fun K7 hK7 => pl0 (plc hE (.r 0 2 .nil) (fun a hE => pld (hK7 _ _ ?_))))))
 rcases sp H with ⟨c8, H⟩ | ⟨c8, H⟩
 ·
  replace hE := hE.kt 12 c8
  refine ct hE (wp_seq_k fun K9 hK9 => pl0 (plc hE (.r 0 2 .nil) (fun a hE => pld (hK9 _ _ (wp_ret (then_ret ?_))))))
  rw [hN] at hS
  obtain rfl := si H
  exact rt1 hE ⟨_, rfl, _, _, _, rfl, hS⟩
 ·
  replace hE := hE.kf 12 c8
  refine cf hE (wp_skip (hK6 _ _ (wp_seq_k fun K10 hK10 => wp_seq_k fun K11 hK11 => pl0 (plc hE (.r 0 3 .nil) (fun a hE => pld (hK11 _ _ (wp_block ?_)))))))
  refine wp_loop_ghost (fun kq16 a w' => ∃ (G : Nat → Value) (l12 : List T_api_Choice) (x13 : Int) (x14 : Int), kq16 ≤ k ∧ Env 42 G a ∧ At G [(0, .slice A0_0 x0_.length c0_0), (1, .func (.func 246) #[] #[]), (5, .int .i64 x13), (6, .int .i64 x14)] ∧ St W N F w' F [row T_api_Choice.k 216 (.slice A0_0 x0_.length c0_0) l12] ∧  slices_DeleteFunc__api_Choice_api_Choice_of_draw_Order_1.l15 kq16 x0_ l12 x13 x14 = some r) k ⟨_, x0_, t4, (w64 (t4 + 1)), Nat.le_refl _, hE, .of, hS, H⟩ ?_
  rintro kq16 a u18 ⟨G, l12, x13, x14, hkq, hE, hA, hS, H⟩
  cases kq16 with
  | zero => cases (show none = some r from H)
  | succ k17 =>
   rw [slices_DeleteFunc__api_Choice_api_Choice_of_draw_Order_1.l15_s] at H
   obtain ⟨J, hE⟩ := hE.at hA
   refine wp_seq_k fun K19 hK19 => wp_seq_k fun K20 hK20 => pl0 (plc hE (.r 0 4 .nil) (fun a hE => pld (hK20 _ _ ?_)))
   rcases sp H with ⟨c21, H⟩ | ⟨c21, H⟩
   ·
    replace hE := hE.kt 19 c21
    refine ct hE (wp_skip (hK19 _ _ (wp_seq_k fun K22 hK22 => wp_block (wp_seq_k fun K23 hK23 => pl0 ?_))))
    obtain ⟨c24, H⟩ := gd H
    have hr25 := hS.row_at (i := 0) rfl
    have c26 : 0 ≤ x14 ∧ x14 < (l12.length : Int) := by rw [← (row_form hr25).1]; exact c24
    have hE_ := hE
    obtain ⟨b27, rfl⟩ := row_addr hr25 c26.1 c26.2
    replace hE := hE_
    have hr_ := hS.row_at (i := 0) rfl
    obtain ⟨cs29, rfl, hc30⟩ := row_el hr_ T_api_Choice.z x14 c26.1 c26.2
    refine plc hE (.r 0 2 <| .x 2 c24 <| .cs 3 hc30 <| .nil) (fun a hE => ple hE (.al (t := 216) hS [.int .i64 0, .int .i64 0]) ?_)
    rintro _ u32 a ⟨b31, rfl, hb31, hS, hg⟩ hE
    refine ple hE (.sto hS [.int .i64 ((nth T_api_Choice.z l12 x14).f0), .int .i64 ((nth T_api_Choice.z l12 x14).f1)]) ?_
    rintro _ u33 a ⟨rfl, hb31, hS, hz⟩ hE
    refine pld (hK23 _ _ (wp_seq_k fun K34 hK34 => pl0 (plc hE (.r 0 1 <| .bn 1 0 2 hb31 <| .nil) (fun a hE => ?_))))
    obtain ⟨t36, h37, H⟩ := bd H
    refine ple hE (.cl en246 (draw_Order_1.calls (⟨(nth T_api_Choice.z l12 x14).f0, (nth T_api_Choice.z l12 x14).f1⟩ : T_api_Choice) _ _ _ hS.own.sub h37)) ?_
    rintro _ u35 a ⟨_, rfl, hC⟩ hE
    replace hS := hS.lent hC
    refine plc hE (.r 3 1 .nil) (fun a hE => pld (hK34 _ _ ?_))
    rcases sp H with ⟨c38, H⟩ | ⟨c38, H⟩
    ·
     replace hE := hE.btn 29 c38
     refine cf hE (wp_skip ?_)
     refine block_n ?_
     refine hK22 _ _ (pl0 (plc hE (.r 0 3 .nil) (fun a hE => pld ?_)))
     replace hS := hS.tail
     exact then_n ⟨k17, by omega, _, l12, x13, (w64 (x14 + 1)), by omega, hE, .of, hS, H⟩
    ·
     replace hE := hE.bfn 29 c38
     refine ct hE (wp_seq_k fun K39 hK39 => pl0 ?_)
     have hb31 := hS.blk_at (i := 0) rfl
     obtain ⟨c40, H⟩ := gd H
     have hr41 := hS.row_at (i := 1) rfl
     have c42 : 0 ≤ x13 ∧ x13 < (l12.length : Int) := by rw [← (row_form hr41).1]; exact c40
     have hr_ := hS.row_at (i := 1) rfl
     obtain ⟨cs44, rfl, hc45⟩ := row_el hr_ T_api_Choice.z x13 c42.1 c42.2
     refine plc hE (.r 0 2 <| .bn 2 0 2 hb31 <| .x 3 c40 <| .nil) (fun a hE => ?_)
     replace hS := hS.front 1 rfl
     obtain ⟨cs47, rfl, hc48⟩ := row_el (hS.row_at (i := 0) rfl) T_api_Choice.z x13 c42.1 c42.2
     refine ple hE (.set (d := T_api_Choice.k) (n := x0_.length) (i := x13) (⟨(nth T_api_Choice.z l12 x14).f0, (nth T_api_Choice.z l12 x14).f1⟩ : T_api_Choice) (0) (ea0 _ _) hS c42 [.int .i64 ((nth T_api_Choice.z l12 x13).f0), .int .i64 ((nth T_api_Choice.z l12 x13).f1)] hc48 [.int .i64 ((nth T_api_Choice.z l12 x14).f0), .int .i64 ((nth T_api_Choice.z l12 x14).f1)] rfl) ?_
     rintro _ u46 a ⟨rfl, hS, hz⟩ hE
     refine pld (hK39 _ _ (pl0 (plc hE (.r 0 3 .nil) (fun a hE => pld ?_))))
     refine block_n ?_
     refine hK22 _ _ (pl0 (plc hE (.r 0 3 .nil) (fun a hE => pld ?_)))
     replace hS := hS.front 1 rfl
     replace hS := hS.tail
     exact then_n ⟨k17, by omega, _, (l12.set (x13).toNat (⟨(nth T_api_Choice.z l12 x14).f0, (nth T_api_Choice.z l12 x14).f1⟩ : T_api_Choice)), (w64 (x13 + 1)), (w64 (x14 + 1)), by omega, hE, .of, hS, H⟩
   ·
    replace hE := hE.kf 19 c21
    refine cf hE ?_
    refine wp_exit ?_
    refine hK10 _ _ (wp_seq_k fun K49 hK49 => pl0 ?_)
    obtain ⟨c50, H⟩ := gd H
    obtain ⟨A51, c52, hA53, hv54⟩ := y_suf (P := Tryz.prog) (k := .i64) (hS.row_at (i := 0) rfl) c50
    refine plc hE (.r 0 2 <| .y 2 (hv54 (by kernel_rfl)) <| .nil) (fun a hE => ple hE (.clr (d := T_api_Choice.k) (n := x0_.length) (c' := c52) (lo := x13) 16 T_api_Choice.z hS c50 hA53 (by rw [zr216]; exact rfl)) ?_)
    rintro _ u55 a ⟨rfl, hS, hz⟩ hE
    refine pld (hK49 _ _ (wp_seq_k fun K56 hK56 => pl0 ?_))
    have hv57 := hS.row_at (i := 0) rfl
    replace hS := hS.shrink c50
    refine plc hE (.r 0 2 <| .y 2 (y_pre (k := .i64) hv57 c50) <| .r 3 1 <| .nil) (fun a hE => pld (hK56 _ _ (wp_ret ?_)))
    rw [hN] at hS
    obtain rfl := si H
    exact rt1 hE ⟨_, rfl, _, _, _, rfl, hS⟩

/-! ### windrose/neglog.Cost: function 271 -/
mutual
def neglog_Cost.j6 : Nat → Int → Bool → Option Int
  | 0, _, _ => none
  | k + 1, x0_, y5 => if y5 = true then (some 0) else (neglog_Cost.l17 k x0_ 0)
def neglog_Cost.l17 : Nat → Int → Int → Option Int
  | 0, _, _ => none
  | k + 1, x15, x16 => if x15 ≤ 32768 then (neglog_Cost.l17 k (w64 (x15 * 2)) (w64 (x16 + 1))) else (neglog_Cost.l31 k x16 (IntKind.u64.wrap ((IntKind.u64.wrap x15) * 32768)) 0 0)
def neglog_Cost.l31 : Nat → Int → Int → Int → Int → Option Int
  | 0, _, _, _, _ => none
  | k + 1, x16, x28, x29, x30 => if x30 < 16 then (if (IntKind.u64.wrap ((IntKind.u64.wrap (x28 * x28)).tdiv 2147483648)) ≤ 1073741824 then (neglog_Cost.l31 k x16 (IntKind.u64.wrap ((IntKind.u64.wrap ((IntKind.u64.wrap (x28 * x28)).tdiv 2147483648)) * 2)) (w64 ((w64 (x29 * 2)) + 1)) (w64 (x30 + 1))) else (neglog_Cost.l31 k x16 (IntKind.u64.wrap ((IntKind.u64.wrap (x28 * x28)).tdiv 2147483648)) (w64 (x29 * 2)) (w64 (x30 + 1)))) else (some (w64 ((w64 (x16 * 65536)) + x29)))
end
theorem neglog_Cost.j6_s (k : Nat) (x0_ : Int) (y5 : Bool) : neglog_Cost.j6 (k + 1) x0_ y5 = (if y5 = true then (some 0) else (neglog_Cost.l17 k x0_ 0)) := by kernel_rfl
theorem neglog_Cost.l17_s (k : Nat) (x15 : Int) (x16 : Int) : neglog_Cost.l17 (k + 1) x15 x16 = (if x15 ≤ 32768 then (neglog_Cost.l17 k (w64 (x15 * 2)) (w64 (x16 + 1))) else (neglog_Cost.l31 k x16 (IntKind.u64.wrap ((IntKind.u64.wrap x15) * 32768)) 0 0)) := by kernel_rfl
theorem neglog_Cost.l31_s (k : Nat) (x16 : Int) (x28 : Int) (x29 : Int) (x30 : Int) : neglog_Cost.l31 (k + 1) x16 x28 x29 x30 = (if x30 < 16 then (if (IntKind.u64.wrap ((IntKind.u64.wrap (x28 * x28)).tdiv 2147483648)) ≤ 1073741824 then (neglog_Cost.l31 k x16 (IntKind.u64.wrap ((IntKind.u64.wrap ((IntKind.u64.wrap (x28 * x28)).tdiv 2147483648)) * 2)) (w64 ((w64 (x29 * 2)) + 1)) (w64 (x30 + 1))) else (neglog_Cost.l31 k x16 (IntKind.u64.wrap ((IntKind.u64.wrap (x28 * x28)).tdiv 2147483648)) (w64 (x29 * 2)) (w64 (x30 + 1)))) else (some (w64 ((w64 (x16 * 65536)) + x29)))) := by kernel_rfl
def neglog_Cost.f (k : Nat) (x0_ : Int) : Option Int := if x0_ < 1 then (neglog_Cost.j6 k x0_ true) else (neglog_Cost.j6 k x0_ (decide (x0_ > 65536)))
def neglog_Cost.Post (W F : World) (r : Int) (v : Value) (w' : World) : Prop := ∃ (F' : World), v = .int .i64 r ∧ St W (mine W []) F w' F' []
theorem neglog_Cost.calls (k : Nat) (x0_ : Int) (r : Int) (W F : World) (hown : Sub F W) (H : neglog_Cost.f k x0_ = some r) :
    Calls Tryz.prog 271 #[.int .i64 x0_] W fun e w' => ∃ v, e = .returned v ∧ neglog_Cost.Post W F r v w' := by
 have hS := St.start (Own.nil hown)
 unfold neglog_Cost.f at H
 refine enter (n := 40) rfl rfl rfl (Nat.le_of_ble_eq_true rfl) (fun a hE => ?_)
 refine wp_seq_k fun K1 hK1 => pl0 (plc hE (.r 0 1 .nil) (fun a hE => pld (hK1 _ _ (wp_seq_k fun K2 hK2 => wp_seq_k fun K3 hK3 => ?_))))
 have J9 : ∀ kq7, kq7 ≤ k → ∀ (G : Nat → Value) (y5 : Bool) (a : Act) (w' : World), Env 40 G a → At G [(0, .int .i64 x0_), (11, .bool y5)] → St W (mine W []) F w' F [] → neglog_Cost.j6 kq7 x0_ y5 = some r → K3 a w' := by
  intro kq7 hkq G y5 a u10 hE hA hS H
  cases kq7 with
  | zero => cases (show none = some r from H)
  | succ k8 =>
   rw [neglog_Cost.j6_s] at H
   obtain ⟨J, hE⟩ := hE.at hA
   refine hK3 _ _ ?_
   rcases sp H with ⟨c11, H⟩ | ⟨c11, H⟩
   ·
    replace hE := hE.bt 11 c11
    refine ct hE (wp_seq_k fun K12 hK12 => pl0 (plc hE (.r 0 1 .nil) (fun a hE => pld (hK12 _ _ (wp_ret (then_ret ?_))))))
    obtain rfl := si H
    exact rt1 hE ⟨_, rfl, _, rfl, hS⟩
   ·
    replace hE := hE.bf 11 c11
    refine cf hE (wp_skip (hK2 _ _ (wp_seq_k fun K13 hK13 => pl0 (plc hE (.r 0 1 .nil) (fun a hE => pld (hK13 _ _ (wp_seq_k fun K14 hK14 => wp_block ?_)))))))
    refine wp_loop_ghost (fun kq18 a w' => ∃ (G : Nat → Value) (x15 : Int) (x16 : Int), kq18 ≤ k8 ∧ Env 40 G a ∧ At G [(0, .int .i64 x15), (3, .int .i64 x16)] ∧ St W (mine W []) F w' F [] ∧  neglog_Cost.l17 kq18 x15 x16 = some r) k8 ⟨_, x0_, 0, Nat.le_refl _, hE, .of, hS, H⟩ ?_
    rintro kq18 a u20 ⟨G, x15, x16, hkq, hE, hA, hS, H⟩
    cases kq18 with
    | zero => cases (show none = some r from H)
    | succ k19 =>
     rw [neglog_Cost.l17_s] at H
     obtain ⟨J, hE⟩ := hE.at hA
     refine wp_seq_k fun K21 hK21 => wp_seq_k fun K22 hK22 => pl0 (plc hE (.r 0 2 .nil) (fun a hE => pld (hK22 _ _ ?_)))
     rcases sp H with ⟨c23, H⟩ | ⟨c23, H⟩
     ·
      replace hE := hE.kt 13 c23
      refine ct hE (wp_skip (hK21 _ _ (wp_seq_k fun K24 hK24 => wp_block (pl0 (plc hE (.r 0 3 .nil) (fun a hE => pld ?_))))))
      refine block_n ?_
      refine hK24 _ _ (pl0 (plc hE (.r 0 3 .nil) (fun a hE => pld ?_)))
      exact then_n ⟨k19, by omega, _, (w64 (x15 * 2)), (w64 (x16 + 1)), by omega, hE, .of, hS, H⟩
     ·
      replace hE := hE.kf 13 c23
      refine cf hE ?_
      refine wp_exit ?_
      refine hK14 _ _ (wp_seq_k fun K25 hK25 => pl0 (plc hE (.r 0 5 .nil) (fun a hE => pld (hK25 _ _ (wp_seq_k fun K26 hK26 => wp_seq_k fun K27 hK27 => pl0 (plc hE (.r 0 1 .nil) (fun a hE => pld (hK27 _ _ (wp_block ?_)))))))))
      refine wp_loop_ghost (fun kq32 a w' => ∃ (G : Nat → Value) (x28 : Int) (x29 : Int) (x30 : Int), kq32 ≤ k19 ∧ Env 40 G a ∧ At G [(3, .int .i64 x16), (4, .int .u64 x28), (5, .int .i64 x29), (21, .int .i64 x30)] ∧ St W (mine W []) F w' F [] ∧  neglog_Cost.l31 kq32 x16 x28 x29 x30 = some r) k19 ⟨_, (IntKind.u64.wrap ((IntKind.u64.wrap x15) * 32768)), 0, 0, Nat.le_refl _, hE, .of, hS, H⟩ ?_
      rintro kq32 a u34 ⟨G, x28, x29, x30, hkq, hE, hA, hS, H⟩
      cases kq32 with
      | zero => cases (show none = some r from H)
      | succ k33 =>
       rw [neglog_Cost.l31_s] at H
       obtain ⟨J, hE⟩ := hE.at hA
       refine wp_seq_k fun K35 hK35 => pl0 (plc hE (.r 0 1 .nil) (fun a hE => pld (hK35 _ _ (wp_seq_k fun K36 hK36 => ?_))))
       rcases sp H with ⟨c37, H⟩ | ⟨c37, H⟩
       ·
        replace hE := hE.kt 22 c37
        refine ct hE (wp_skip (hK36 _ _ (wp_seq_k fun K38 hK38 => wp_block (wp_seq_k fun K39 hK39 => pl0 (plc hE (.r 0 3 .nil) (fun a hE => pld (hK39 _ _ (wp_seq_k fun K40 hK40 => pl0 (plc hE (.r 0 5 .nil) (fun a hE => pld (hK40 _ _ (wp_seq_k fun K41 hK41 => pl0 (plc hE (.r 0 2 .nil) (fun a hE => pld (hK41 _ _ ?_)))))))))))))))
        rcases sp H with ⟨c42, H⟩ | ⟨c42, H⟩
        ·
         replace hE := hE.kt 30 c42
         refine ct hE (wp_seq_k fun K43 hK43 => pl0 (plc hE (.r 0 3 .nil) (fun a hE => pld (hK43 _ _ (pl0 (plc hE (.r 0 3 .nil) (fun a hE => pld ?_)))))))
         refine block_n ?_
         refine hK38 _ _ (pl0 (plc hE (.r 0 2 .nil) (fun a hE => pld ?_)))
         exact then_n ⟨k33, by omega, _, (IntKind.u64.wrap ((IntKind.u64.wrap ((IntKind.u64.wrap (x28 * x28)).tdiv 2147483648)) * 2)), (w64 ((w64 (x29 * 2)) + 1)), (w64 (x30 + 1)), by omega, hE, .of, hS, H⟩
        ·
         replace hE := hE.kf 30 c42
         refine cf hE (wp_skip ?_)
         refine block_n ?_
         refine hK38 _ _ (pl0 (plc hE (.r 0 2 .nil) (fun a hE => pld ?_)))
         exact then_n ⟨k33, by omega, _, (IntKind.u64.wrap ((IntKind.u64.wrap (x28 * x28)).tdiv 2147483648)), (w64 (x29 * 2)), (w64 (x30 + 1)), by omega, hE, .of, hS, H⟩
       ·
        replace hE := hE.kf 22 c37
        refine cf hE ?_
        refine wp_exit ?_
        refine hK26 _ _ (wp_seq_k fun K44 hK44 => pl0 (plc hE (.r 0 5 .nil) (fun a hE => pld (hK44 _ _ (wp_ret ?_)))))
        obtain rfl := si H
        exact rt1 hE ⟨_, rfl, _, rfl, hS⟩
 refine pl0 (plc hE (.r 0 3 .nil) (fun a hE => ?_))
 rcases sp H with ⟨c4, H⟩ | ⟨c4, H⟩
 ·
  replace hE := hE.kt 8 c4
  refine plc hE (.r 3 3 .nil) (fun a hE => pld ?_)
  exact J9 _ (by omega) _ true _ _ hE .of hS H
 ·
  replace hE := hE.kf 8 c4
  refine plc hE (.r 3 3 .nil) (fun a hE => pld ?_)
  exact J9 _ (by omega) _ (decide (x0_ > 65536)) _ _ hE .of hS H

/-! ### windrose/draw.Cost: function 259 -/
def draw_Cost.f (k : Nat) (x0_ : Int) (x1_ : Int) : Option Int := (mix_Fold.f k x0_ [(IntKind.u64.wrap x1_)]).bind fun t8 => ((neglog_Cost.f k (w64 (1 + (w64 (t8.fdiv 281474976710656))))).bind fun t11 => (some t11))
def draw_Cost.Post (W F : World) (r : Int) (v : Value) (w' : World) : Prop := ∃ (F' : World), v = .int .i64 r ∧ St W (mine W []) F w' F' []
theorem draw_Cost.calls (k : Nat) (x0_ : Int) (x1_ : Int) (r : Int) (W F : World) (hown : Sub F W) (H : draw_Cost.f k x0_ x1_ = some r) :
    Calls Tryz.prog 259 #[.int .u64 x0_, .int .i64 x1_] W fun e w' => ∃ v, e = .returned v ∧ draw_Cost.Post W F r v w' := by
 have hS := St.start (Own.nil hown)
 unfold draw_Cost.f at H
 refine enter (n := 14) rfl rfl rfl (Nat.le_of_ble_eq_true rfl) (fun a hE => ?_)
 refine wp_seq_k fun K1 hK1 => pl0 (plc hE (.r 0 1 .nil) (fun a hE => pld (hK1 _ _ (wp_seq_k fun K2 hK2 => pl0 (plc hE (.r 0 3 .nil) (fun a hE => ple hE (.lit (d := (Kn.int .u64)) (e := 182) hS [(IntKind.u64.wrap x1_)] (.cons rfl .nil)) ?_))))))
 rintro _ u3 a ⟨A4, c5, rfl, hS, hg⟩ hE
 obtain ⟨t8, h9, H⟩ := bd H
 refine ple hE (.cl en229 (mix_Fold.calls k x0_ [(IntKind.u64.wrap x1_)] _ _ _ _ _ (Sub.refl _) (hS.rd_at (i := 0) rfl) h9)) ?_
 rintro _ u7 a ⟨_, rfl, hC⟩ hE
 replace hS := hS.lent hC
 refine plc hE (.r 5 3 .nil) (fun a hE => ?_)
 obtain ⟨t11, h12, H⟩ := bd H
 refine ple hE (.cl en271 (neglog_Cost.calls k (w64 (1 + (w64 (t8.fdiv 281474976710656)))) _ _ _ hS.own.sub h12)) ?_
 rintro _ u10 a ⟨_, rfl, hC⟩ hE
 replace hS := hS.lent hC
 refine plc hE (.r 9 1 .nil) (fun a hE => pld (hK2 _ _ (wp_ret ?_)))
 replace hS := hS.tail
 obtain rfl := si H
 exact rt1 hE ⟨_, rfl, _, rfl, hS⟩

/-! ### windrose/neglog.in: function 272 -/
def neglog_in.f (x0_ : Int) : Option Bool := if x0_ ≥ 0 then (some (decide (x0_ ≤ 2147483647))) else (some false)
def neglog_in.Post (W F : World) (r : Bool) (v : Value) (w' : World) : Prop := ∃ (F' : World), v = .bool r ∧ St W (mine W []) F w' F' []
theorem neglog_in.calls (x0_ : Int) (r : Bool) (W F : World) (hown : Sub F W) (H : neglog_in.f x0_ = some r) :
    Calls Tryz.prog 272 #[.int .i64 x0_] W fun e w' => ∃ v, e = .returned v ∧ neglog_in.Post W F r v w' := by
 have hS := St.start (Own.nil hown)
 unfold neglog_in.f at H
 refine enter (n := 9) rfl rfl rfl (Nat.le_of_ble_eq_true rfl) (fun a hE => ?_)
 refine wp_seq_k fun K1 hK1 => pl0 (plc hE (.r 0 1 .nil) (fun a hE => pld (hK1 _ _ (wp_seq_k fun K2 hK2 => pl0 (plc hE (.r 0 3 .nil) (fun a hE => ?_))))))
 rcases sp H with ⟨c3, H⟩ | ⟨c3, H⟩
 ·
  replace hE := hE.kt 5 c3
  refine plc hE (.r 3 4 .nil) (fun a hE => pld (hK2 _ _ (wp_ret ?_)))
  obtain rfl := si H
  exact rt1 hE ⟨_, rfl, _, rfl, hS⟩
 ·
  replace hE := hE.kf 5 c3
  refine plc hE (.r 3 4 .nil) (fun a hE => pld (hK2 _ _ (wp_ret ?_)))
  obtain rfl := si H
  exact rt1 hE ⟨_, rfl, _, rfl, hS⟩

/-! ### windrose/neglog.Better: function 260 -/
def neglog_Better.f (x0_ : Int) (x1_ : Int) (x2_ : Int) (x3_ : Int) : Option Bool := (neglog_in.f x0_).bind fun t4 => (if t4 = true then ((neglog_in.f x1_).bind fun t8 => (if t8 = true then ((neglog_in.f x2_).bind fun t12 => (if t12 = true then ((neglog_in.f x3_).bind fun t16 => (if t16 = true then (if x1_ > 0 then (if x3_ > 0 then (some (decide ((w64 (x0_ * x3_)) < (w64 (x2_ * x1_))))) else (some false)) else (some false)) else (some false))) else (some false))) else (some false))) else (some false))
def neglog_Better.Post (W F : World) (r : Bool) (v : Value) (w' : World) : Prop := ∃ (F' : World), v = .bool r ∧ St W (mine W []) F w' F' []
theorem neglog_Better.calls (x0_ : Int) (x1_ : Int) (x2_ : Int) (x3_ : Int) (r : Bool) (W F : World) (hown : Sub F W) (H : neglog_Better.f x0_ x1_ x2_ x3_ = some r) :
    Calls Tryz.prog 260 #[.int .i64 x0_, .int .i64 x1_, .int .i64 x2_, .int .i64 x3_] W fun e w' => ∃ v, e = .returned v ∧ neglog_Better.Post W F r v w' := by
 have hS := St.start (Own.nil hown)
 unfold neglog_Better.f at H
 refine enter (n := 40) rfl rfl rfl (Nat.le_of_ble_eq_true rfl) (fun a hE => ?_)
 refine wp_seq_k fun K1 hK1 => pl0 (plc hE (.r 0 1 .nil) (fun a hE => pld (hK1 _ _ (wp_seq_k fun K2 hK2 => pl0 (plc hE (.r 0 1 .nil) (fun a hE => ?_))))))
 obtain ⟨t4, h5, H⟩ := bd H
 refine ple hE (.cl en272 (neglog_in.calls x0_ _ _ _ hS.own.sub h5)) ?_
 rintro _ u3 a ⟨_, rfl, hC⟩ hE
 replace hS := hS.lent hC
 refine plc hE (.r 2 1 .nil) (fun a hE => ?_)
 rcases sp H with ⟨c6, H⟩ | ⟨c6, H⟩
 ·
  replace hE := hE.bt 11 c6
  refine plc hE (.r 3 1 .nil) (fun a hE => ?_)
  obtain ⟨t8, h9, H⟩ := bd H
  refine ple hE (.cl en272 (neglog_in.calls x1_ _ _ _ hS.own.sub h9)) ?_
  rintro _ u7 a ⟨_, rfl, hC⟩ hE
  replace hS := hS.lent hC
  refine plc hE (.r 5 2 .nil) (fun a hE => ?_)
  rcases sp H with ⟨c10, H⟩ | ⟨c10, H⟩
  ·
   replace hE := hE.bt 15 c10
   refine plc hE (.r 7 1 .nil) (fun a hE => ?_)
   obtain ⟨t12, h13, H⟩ := bd H
   refine ple hE (.cl en272 (neglog_in.calls x2_ _ _ _ hS.own.sub h13)) ?_
   rintro _ u11 a ⟨_, rfl, hC⟩ hE
   replace hS := hS.lent hC
   refine plc hE (.r 9 2 .nil) (fun a hE => ?_)
   rcases sp H with ⟨c14, H⟩ | ⟨c14, H⟩
   ·
    replace hE := hE.bt 19 c14
    refine plc hE (.r 11 1 .nil) (fun a hE => ?_)
    obtain ⟨t16, h17, H⟩ := bd H
    refine ple hE (.cl en272 (neglog_in.calls x3_ _ _ _ hS.own.sub h17)) ?_
    rintro _ u15 a ⟨_, rfl, hC⟩ hE
    replace hS := hS.lent hC
    refine plc hE (.r 13 2 .nil) (fun a hE => ?_)
    rcases sp H with ⟨c18, H⟩ | ⟨c18, H⟩
    ·
     replace hE := hE.bt 23 c18
     refine plc hE (.r 15 4 .nil) (fun a hE => ?_)
     rcases sp H with ⟨c19, H⟩ | ⟨c19, H⟩
     ·
      replace hE := hE.kt 27 c19
      refine plc hE (.r 19 4 .nil) (fun a hE => ?_)
      rcases sp H with ⟨c20, H⟩ | ⟨c20, H⟩
      ·
       replace hE := hE.kt 31 c20
       refine plc hE (.r 23 9 .nil) (fun a hE => pld (hK2 _ _ (wp_ret ?_)))
       obtain rfl := si H
       exact rt1 hE ⟨_, rfl, _, rfl, hS⟩
      ·
       replace hE := hE.kf 31 c20
       refine plc hE (.r 23 9 .nil) (fun a hE => pld (hK2 _ _ (wp_ret ?_)))
       obtain rfl := si H
       exact rt1 hE ⟨_, rfl, _, rfl, hS⟩
     ·
      replace hE := hE.kf 27 c19
      refine plc hE (.r 19 13 .nil) (fun a hE => pld (hK2 _ _ (wp_ret ?_)))
      obtain rfl := si H
      exact rt1 hE ⟨_, rfl, _, rfl, hS⟩
    ·
     replace hE := hE.bf 23 c18
     refine plc hE (.r 15 17 .nil) (fun a hE => pld (hK2 _ _ (wp_ret ?_)))
     obtain rfl := si H
     exact rt1 hE ⟨_, rfl, _, rfl, hS⟩
   ·
    replace hE := hE.bf 19 c14
    refine plc hE (.r 11 21 .nil) (fun a hE => pld (hK2 _ _ (wp_ret ?_)))
    obtain rfl := si H
    exact rt1 hE ⟨_, rfl, _, rfl, hS⟩
  ·
   replace hE := hE.bf 15 c10
   refine plc hE (.r 7 25 .nil) (fun a hE => pld (hK2 _ _ (wp_ret ?_)))
   obtain rfl := si H
   exact rt1 hE ⟨_, rfl, _, rfl, hS⟩
 ·
  replace hE := hE.bf 11 c6
  refine plc hE (.r 3 29 .nil) (fun a hE => pld (hK2 _ _ (wp_ret ?_)))
  obtain rfl := si H
  exact rt1 hE ⟨_, rfl, _, rfl, hS⟩

/-! ### windrose/draw.compare: function 249 -/
def draw_compare.f (k : Nat) (x0_ : Int) (x1_ : T_api_Choice) (x2_ : T_api_Choice) : Option Int := (draw_Cost.f k x0_ x1_.f0).bind fun t8 => ((draw_Cost.f k x0_ x2_.f0).bind fun t11 => ((neglog_Better.f t8 x1_.f1 t11 x2_.f1).bind fun t16 => (if t16 = true then (some (-1)) else ((neglog_Better.f t11 x2_.f1 t8 x1_.f1).bind fun t22 => (if t22 = true then (some 1) else (some (w64 (x1_.f0 - x2_.f0))))))))
def draw_compare.Post (W F : World) (r : Int) (v : Value) (w' : World) : Prop := ∃ (F' : World), v = .int .i64 r ∧ St W (mine W []) F w' F' []
theorem draw_compare.calls (k : Nat) (x0_ : Int) (x1_ : T_api_Choice) (x2_ : T_api_Choice) (r : Int) (W F : World) (hown : Sub F W) (H : draw_compare.f k x0_ x1_ x2_ = some r) :
    Calls Tryz.prog 249 #[.int .u64 x0_, .agg #[.int .i64 x1_.f0, .int .i64 x1_.f1], .agg #[.int .i64 x2_.f0, .int .i64 x2_.f1]] W fun e w' => ∃ v, e = .returned v ∧ draw_compare.Post W F r v w' := by
 have hS := St.start (Own.nil hown)
 unfold draw_compare.f at H
 refine enter (n := 38) rfl rfl rfl (Nat.le_of_ble_eq_true rfl) (fun a hE => ?_)
 refine wp_seq_k fun K1 hK1 => pl0 (ple hE (.bx (t := 216) hS [.int .i64 x1_.f0, .int .i64 x1_.f1]) ?_)
 rintro _ u3 a ⟨b2, rfl, hb2, hS, hg⟩ hE
 refine ple hE (.bx (t := 216) hS [.int .i64 x2_.f0, .int .i64 x2_.f1]) ?_
 rintro _ u5 a ⟨b4, rfl, hb4, hS, hg⟩ hE
 refine plc hE (.r 2 1 .nil) (fun a hE => pld (hK1 _ _ (wp_seq_k fun K6 hK6 => ?_)))
 refine drawn 10 ⟨[], [], fun q => False⟩ mixed rfl (by kernel_rfl) (fun hst => ?_)
 replace hS := hS.drew
 have hb2 := hS.blk_at (i := 1) rfl
 have hb4 := hS.blk_at (i := 0) rfl
 refine mny 4 hst hE (.r 0 2 <| .b 2 0 hb2 <| .r 4 2 <| .b 6 0 hb4 <| .nil) (fun a hE => ?_)
 obtain ⟨t8, h9, H⟩ := bd H
 refine on1 3 hE (.cl en259 (draw_Cost.calls k x0_ x1_.f0 _ _ _ hS.own.sub h9)) ?_
 rintro _ u7 a ⟨_, rfl, hC⟩ hE
 refine ⟨.of hC.agr, ?_⟩
 replace hS := hS.lent hC
 obtain ⟨t11, h12, H⟩ := bd H
 refine on1 7 hE (.cl en259 (draw_Cost.calls k x0_ x2_.f0 _ _ _ hS.own.sub h12)) ?_
 rintro _ u10 a ⟨_, rfl, hC⟩ hE
 refine ⟨.of hC.agr, ?_⟩
 replace hS := hS.lent hC
 refine mny 0 hst hE (.r 8 2 .nil) (fun a hE => ?_)
 refine dn ?_
 refine hK6 _ _ (wp_seq_k fun K13 hK13 => wp_block (wp_seq_k fun K14 hK14 => pl0 ?_))
 have hb2 := hS.blk_at (i := 1) rfl
 have hb4 := hS.blk_at (i := 0) rfl
 refine plc hE (.r 0 2 <| .b 2 1 hb2 <| .r 3 2 <| .b 5 1 hb4 <| .nil) (fun a hE => ?_)
 obtain ⟨t16, h17, H⟩ := bd H
 refine ple hE (.cl en260 (neglog_Better.calls t8 x1_.f1 t11 x2_.f1 _ _ _ hS.own.sub h17)) ?_
 rintro _ u15 a ⟨_, rfl, hC⟩ hE
 replace hS := hS.lent hC
 refine plc hE (.r 7 1 .nil) (fun a hE => pld (hK14 _ _ ?_))
 rcases sp H with ⟨c18, H⟩ | ⟨c18, H⟩
 ·
  replace hE := hE.bt 17 c18
  refine ct hE (wp_seq_k fun K19 hK19 => pl0 (plc hE (.r 0 1 .nil) (fun a hE => pld (hK19 _ _ (wp_ret (block_ret (then_ret ?_)))))))
  replace hS := hS.tail
  replace hS := hS.tail
  obtain rfl := si H
  exact rt1 hE ⟨_, rfl, _, rfl, hS⟩
 ·
  replace hE := hE.bf 17 c18
  refine cf hE (wp_seq_k fun K20 hK20 => pl0 ?_)
  have hb4 := hS.blk_at (i := 0) rfl
  have hb2 := hS.blk_at (i := 1) rfl
  refine plc hE (.r 0 2 <| .b 2 1 hb4 <| .r 3 2 <| .b 5 1 hb2 <| .nil) (fun a hE => ?_)
  obtain ⟨t22, h23, H⟩ := bd H
  refine ple hE (.cl en260 (neglog_Better.calls t11 x2_.f1 t8 x1_.f1 _ _ _ hS.own.sub h23)) ?_
  rintro _ u21 a ⟨_, rfl, hC⟩ hE
  replace hS := hS.lent hC
  refine plc hE (.r 7 1 .nil) (fun a hE => pld (hK20 _ _ ?_))
  rcases sp H with ⟨c24, H⟩ | ⟨c24, H⟩
  ·
   replace hE := hE.bt 25 c24
   refine ct hE (wp_seq_k fun K25 hK25 => pl0 (plc hE (.r 0 1 .nil) (fun a hE => pld (hK25 _ _ (wp_ret (block_ret (then_ret ?_)))))))
   replace hS := hS.tail
   replace hS := hS.tail
   obtain rfl := si H
   exact rt1 hE ⟨_, rfl, _, rfl, hS⟩
  ·
   replace hE := hE.bf 25 c24
   refine cf hE (wp_skip ?_)
   refine block_n ?_
   refine hK13 _ _ (wp_seq_k fun K26 hK26 => pl0 ?_)
   have hb2 := hS.blk_at (i := 1) rfl
   have hb4 := hS.blk_at (i := 0) rfl
   refine plc hE (.r 0 1 <| .b 1 0 hb2 <| .r 2 1 <| .b 3 0 hb4 <| .r 4 2 <| .nil) (fun a hE => pld (hK26 _ _ (wp_ret ?_)))
   replace hS := hS.tail
   replace hS := hS.tail
   obtain rfl := si H
   exact rt1 hE ⟨_, rfl, _, rfl, hS⟩

/-! ### windrose/draw.Order$2: function 248 -/
def draw_Order_2.f (k : Nat) (x0_ : T_api_Choice) (x1_ : T_api_Choice) (xf0_ : Int) : Option Int := (draw_compare.f k xf0_ x0_ x1_).bind fun t8 => (some t8)
def draw_Order_2.Post (W F : World) (r : Int) (v : Value) (w' : World) : Prop := ∃ (F' : World), v = .int .i64 r ∧ St W (mine W []) F w' F' []
theorem draw_Order_2.calls (k : Nat) (x0_ : T_api_Choice) (x1_ : T_api_Choice) (xf0_ : Int) (pf0_ : Nat) (r : Int) (W F : World) (hown : Sub F W) (hpf0_ : F.heap[pf0_]? = some (.cells #[.int .u64 xf0_] 182 (0, 0))) (H : draw_Order_2.f k x0_ x1_ xf0_ = some r) :
    Calls Tryz.prog 248 #[.agg #[.int .i64 x0_.f0, .int .i64 x0_.f1], .agg #[.int .i64 x1_.f0, .int .i64 x1_.f1], .pointer (some ⟨pf0_, 0, none⟩)] W fun e w' => ∃ v, e = .returned v ∧ draw_Order_2.Post W F r v w' := by
 have hS := St.start (Own.nil hown)
 unfold draw_Order_2.f at H
 refine enter (n := 10) rfl rfl rfl (Nat.le_of_ble_eq_true rfl) (fun a hE => ?_)
 refine wp_seq_k fun K1 hK1 => pl0 (ple hE (.bx (t := 216) hS [.int .i64 x0_.f0, .int .i64 x0_.f1]) ?_)
 rintro _ u3 a ⟨b2, rfl, hb2, hS, hg⟩ hE
 refine ple hE (.bx (t := 216) hS [.int .i64 x1_.f0, .int .i64 x1_.f1]) ?_
 rintro _ u5 a ⟨b4, rfl, hb4, hS, hg⟩ hE
 refine plc hE (.r 2 1 .nil) (fun a hE => pld (hK1 _ _ (wp_seq_k fun K6 hK6 => pl0 ?_)))
 have hb2 := hS.blk_at (i := 1) rfl
 refine plc hE (.b 0 0 (hS.own.sub _ _ _ _ hpf0_) <| .bn 1 0 2 hb2 <| .bn 2 0 2 hb4 <| .nil) (fun a hE => ?_)
 obtain ⟨t8, h9, H⟩ := bd H
 refine ple hE (.cl en249 (draw_compare.calls k xf0_ x0_ x1_ _ _ _ hS.own.sub h9)) ?_
 rintro _ u7 a ⟨_, rfl, hC⟩ hE
 replace hS := hS.lent hC
 refine plc hE (.r 4 1 .nil) (fun a hE => pld (hK6 _ _ (wp_ret ?_)))
 replace hS := hS.tail
 replace hS := hS.tail
 obtain rfl := si H
 exact rt1 hE ⟨_, rfl, _, rfl, hS⟩

/-! ### slices.SortFunc[[]windrose/api.Choice,windrose/api.Choice]: function 247, by the shelf's contract -/
def T_api_Choice.enc (x : T_api_Choice) : List Value := [.int .i64 x.f0, .int .i64 x.f1]
instance : Inhabited T_api_Choice := ⟨T_api_Choice.z⟩
def slices_SortFunc__api_Choice_api_Choice_of_draw_Order_2.cmp (k : Nat) (x1c0_ : Int) (a b : T_api_Choice) : Option Int := draw_Order_2.f k a b x1c0_
def slices_SortFunc__api_Choice_api_Choice_of_draw_Order_2.f (k : Nat) (x0_ : List T_api_Choice) (x1c0_ : Int) : Option (List T_api_Choice) := sortO (slices_SortFunc__api_Choice_api_Choice_of_draw_Order_2.cmp k x1c0_) x0_
def slices_SortFunc__api_Choice_api_Choice_of_draw_Order_2.Post (x0_ : List T_api_Choice) (x1c0_ : Int) (A0_0 : Option Addr) (c0_0 : Nat) (p1c0_ : Nat) (W F : World) (r : List T_api_Choice) (v : Value) (w' : World) : Prop := ∃ (F' : World), v = .tuple #[] ∧ St W (mine W [row T_api_Choice.k 216 (.slice A0_0 x0_.length c0_0) x0_]) F w' F' [row T_api_Choice.k 216 (.slice A0_0 x0_.length c0_0) r]
set_option maxRecDepth 100000 in
theorem slices_SortFunc__api_Choice_api_Choice_of_draw_Order_2.calls (k : Nat) (x0_ : List T_api_Choice) (x1c0_ : Int) (A0_0 : Option Addr) (c0_0 : Nat) (p1c0_ : Nat) (r : List T_api_Choice) (W F : World) (hown : Own W F [row T_api_Choice.k 216 (.slice A0_0 x0_.length c0_0) x0_]) (hp1c0_ : F.heap[p1c0_]? = some (.cells #[.int .u64 x1c0_] 182 (0, 0))) (H : slices_SortFunc__api_Choice_api_Choice_of_draw_Order_2.f k x0_ x1c0_ = some r) :
    Calls Tryz.prog 247 #[.slice A0_0 x0_.length c0_0, .func (.func 248) #[] #[.pointer (some ⟨p1c0_, 0, none⟩)]] W fun e w' => ∃ v, e = .returned v ∧ slices_SortFunc__api_Choice_api_Choice_of_draw_Order_2.Post x0_ x1c0_ A0_0 c0_0 p1c0_ W F r v w' :=
  sort_calls Tryz.sort247 2 rfl (fun w => run_isAgg ag216 w) (fun w => run_sizeOf' sz216 w) T_api_Choice.enc (fun x => rfl) (fun x v hv => by simp only [T_api_Choice.enc, List.mem_cons, List.not_mem_nil, or_false] at hv; rcases hv with rfl | rfl <;> rfl) (fun F x cs => Iff.rfl) (slices_SortFunc__api_Choice_api_Choice_of_draw_Order_2.cmp k x1c0_) 248 #[.pointer (some ⟨p1c0_, 0, none⟩)] en248 hown (fun x y v W' hs hc => (draw_Order_2.calls k x y x1c0_ _ v W' F hs hp1c0_ hc).mono fun en w' ⟨u, h1, F', h2, h3⟩ => ⟨u, h1, F', h2, h3⟩) H

/-! ### windrose/draw.Order: function 228 -/
def draw_Order.l44 : Nat → List T_api_Choice → List T_api_Choice → List Int → Int → Option (List Int)
  | 0, _, _, _, _ => none
  | k + 1, t22, t33, l42, x43 => if x43 < (t22.length : Int) then (if 0 ≤ x43 ∧ x43 < (t22.length : Int) then (if ((l42.length : Int) + ((1 : Nat) : Int)) * 8 ≤ 140737488355328 then (draw_Order.l44 k t22 t33 (l42 ++ [(nth T_api_Choice.z t33 x43).f0]) (w64 (x43 + 1))) else (none)) else (none)) else (some l42)
theorem draw_Order.l44_s (k : Nat) (t22 : List T_api_Choice) (t33 : List T_api_Choice) (l42 : List Int) (x43 : Int) : draw_Order.l44 (k + 1) t22 t33 l42 x43 = (if x43 < (t22.length : Int) then (if 0 ≤ x43 ∧ x43 < (t22.length : Int) then (if ((l42.length : Int) + ((1 : Nat) : Int)) * 8 ≤ 140737488355328 then (draw_Order.l44 k t22 t33 (l42 ++ [(nth T_api_Choice.z t33 x43).f0]) (w64 (x43 + 1))) else (none)) else (none)) else (some l42)) := by kernel_rfl
def draw_Order.f (k : Nat) (x0_ : Int) (x1_ : List T_api_Choice) : Option (List Int) := (draw_Check.f k x1_).bind fun t7 => (if t7 = 0 then ((slices_Clone__api_Choice_api_Choice.f x1_).bind fun t14 => ((slices_DeleteFunc__api_Choice_api_Choice_of_draw_Order_1.f k t14).bind fun t22 => ((slices_SortFunc__api_Choice_api_Choice_of_draw_Order_2.f k t22 x0_).bind fun t33 => (draw_Order.l44 k t22 t33 [] 0)))) else (some []))
def draw_Order.Post (W F : World) (r : List Int) (v : Value) (w' : World) : Prop := ∃ (F' : World) (RA0_0 : Option Addr) (rc0_0 : Nat), v = .slice RA0_0 r.length rc0_0 ∧ St W (mine W []) F w' F' [row (Kn.int .i64) 3 (.slice RA0_0 r.length rc0_0) r]
theorem draw_Order.calls (k : Nat) (x0_ : Int) (x1_ : List T_api_Choice) (A1_0 : Option Addr) (c1_0 : Nat) (r : List Int) (W F : World) (hown : Sub F W) (g1_0 : Rd T_api_Choice.k F A1_0 c1_0 x1_) (H : draw_Order.f k x0_ x1_ = some r) :
    Calls Tryz.prog 228 #[.int .u64 x0_, .slice A1_0 x1_.length c1_0] W fun e w' => ∃ v, e = .returned v ∧ draw_Order.Post W F r v w' := by
 have hS := St.start (Own.nil hown)
 unfold draw_Order.f at H
 refine enter (n := 30) rfl rfl rfl (Nat.le_of_ble_eq_true rfl) (fun a hE => ?_)
 refine wp_seq_k fun K1 hK1 => pl0 (ple hE (.bx (t := 182) hS [.int .u64 x0_]) ?_)
 rintro _ u3 a ⟨b2, rfl, hb2, hS, hg⟩ hE
 refine plc hE (.r 1 1 .nil) (fun a hE => pld (hK1 _ _ (wp_seq_k fun K4 hK4 => wp_seq_k fun K5 hK5 => pl0 (plc hE (.r 0 1 .nil) (fun a hE => ?_)))))
 obtain ⟨t7, h8, H⟩ := bd H
 refine ple hE (.cl en243 (draw_Check.calls k x1_ _ _ _ _ _ hS.own.sub g1_0 h8)) ?_
 rintro _ u6 a ⟨_, rfl, hC⟩ hE
 replace hS := hS.lent hC
 refine plc hE (.r 2 1 .nil) (fun a hE => pld (hK5 _ _ ?_))
 rcases sp H with ⟨c9, H⟩ | ⟨c9, H⟩
 ·
  replace hE := hE.ktn 10 c9
  refine cf hE (wp_skip (hK4 _ _ (wp_seq_k fun K12 hK12 => pl0 (plc hE (.r 0 1 .nil) (fun a hE => ?_)))))
  obtain ⟨t14, h15, H⟩ := bd H
  refine ple hE (.cl en245 (slices_Clone__api_Choice_api_Choice.calls x1_ _ _ _ _ _ hS.own.sub g1_0 h15)) ?_
  rintro _ u13 a ⟨F16, A17, c18, rfl, hC⟩ hE
  have hs := hC.sub
  replace hS := hS.called (X := []) hC
  replace g1_0 := g1_0.mono hs
  obtain ⟨t22, h23, H⟩ := bd H
  refine ple hE (.cl en244 (slices_DeleteFunc__api_Choice_api_Choice_of_draw_Order_1.calls k t14 _ _ _ _ _ (Own.left (X := [row T_api_Choice.k 216 (.slice A17 t14.length c18) t14]) hS.own) h23)) ?_
  rintro _ u21 a ⟨F24, A25, c26, rfl, hC⟩ hE
  have hs := hC.sub
  replace hS := hS.called (X := [row T_api_Choice.k 216 (.slice A17 t14.length c18) t14]) hC
  replace g1_0 := g1_0.mono hs
  refine plc hE (.r 3 1 .nil) (fun a hE => pld (hK12 _ _ (wp_seq_k fun K29 hK29 => pl0 (plc hE (.r 0 2 .nil) (fun a hE => ?_)))))
  replace hS := hS.front 1 rfl
  obtain ⟨F30, hs, g31, hS⟩ := hS.giveb
  replace g1_0 := g1_0.mono hs
  obtain ⟨t33, h34, H⟩ := bd H
  refine ple hE (.cl en247 (slices_SortFunc__api_Choice_api_Choice_of_draw_Order_2.calls k t22 x0_ _ _ _ _ _ _ (Own.left (X := [row T_api_Choice.k 216 (.slice A25 t22.length c26) t22]) hS.own) g31 h34)) ?_
  rintro _ u32 a ⟨F35, rfl, hC⟩ hE
  have hs := hC.sub
  replace hS := hS.called (X := [row T_api_Choice.k 216 (.slice A25 t22.length c26) t22]) hC
  replace g1_0 := g1_0.mono hs
  replace g31 := hs _ _ _ _ g31
  refine pld (hK29 _ _ (wp_seq_k fun K36 hK36 => pl0 (plc hE (.r 0 1 .nil) (fun a hE => pld (hK36 _ _ (wp_seq_k fun K37 hK37 => wp_seq_k fun K38 hK38 => pl0 (plc hE (.r 0 3 .nil) (fun a hE => pld (hK38 _ _ (wp_block ?_))))))))))
  replace hS := hS.nilrow (Kn.int .i64) 3
  replace hS := hS.front 1 rfl
  refine wp_loop_ghost (fun kq45 a w' => ∃ (G : Nat → Value) (A40 : Option Addr) (c41 : Nat) (l42 : List Int) (x43 : Int), kq45 ≤ k ∧ Env 30 G a ∧ At G [(5, .slice A40 l42.length c41), (17, .slice A25 t22.length c26), (18, .int .i64 (t22.length : Int)), (19, .int .i64 x43)] ∧ St W (mine W []) F w' F35 [row T_api_Choice.k 216 (.slice A25 t22.length c26) t33, row (Kn.int .i64) 3 (.slice A40 l42.length c41) l42] ∧  draw_Order.l44 kq45 t22 t33 l42 x43 = some r) k ⟨_, none, 0, [], 0, Nat.le_refl _, hE, .of, hS, H⟩ ?_
  rintro kq45 a u47 ⟨G, A40, c41, l42, x43, hkq, hE, hA, hS, H⟩
  cases kq45 with
  | zero => cases (show none = some r from H)
  | succ k46 =>
   rw [draw_Order.l44_s] at H
   obtain ⟨J, hE⟩ := hE.at hA
   refine wp_seq_k fun K48 hK48 => pl0 (plc hE (.r 0 1 .nil) (fun a hE => pld (hK48 _ _ (wp_seq_k fun K49 hK49 => ?_))))
   rcases sp H with ⟨c50, H⟩ | ⟨c50, H⟩
   ·
    replace hE := hE.kt 20 c50
    refine ct hE (wp_skip (hK49 _ _ (wp_seq_k fun K51 hK51 => wp_block (wp_seq_k fun K52 hK52 => pl0 ?_))))
    obtain ⟨c53, H⟩ := gd H
    have hr54 := hS.row_at (i := 0) rfl
    have c55 : 0 ≤ x43 ∧ x43 < (t33.length : Int) := by rw [← (row_form hr54).1]; exact c53
    have hE_ := hE
    obtain ⟨b56, rfl⟩ := row_addr hr54 c55.1 c55.2
    replace hE := hE_
    have hr_ := hS.row_at (i := 0) rfl
    obtain ⟨cs58, rfl, hc59⟩ := row_el hr_ T_api_Choice.z x43 c55.1 c55.2
    refine plc hE (.x 0 c53 <| .cs 1 hc59 <| .nil) (fun a hE => ple hE (.al (t := 216) hS [.int .i64 0, .int .i64 0]) ?_)
    rintro _ u61 a ⟨b60, rfl, hb60, hS, hg⟩ hE
    refine ple hE (.sto hS [.int .i64 ((nth T_api_Choice.z t33 x43).f0), .int .i64 ((nth T_api_Choice.z t33 x43).f1)]) ?_
    rintro _ u62 a ⟨rfl, hb60, hS, hz⟩ hE
    refine pld (hK52 _ _ (pl0 (plc hE (.r 0 2 <| .b 2 0 hb60 <| .nil) (fun a hE => ple hE (.lit (d := (Kn.int .i64)) (e := 3) hS [(nth T_api_Choice.z t33 x43).f0] (.cons rfl .nil)) ?_))))
    rintro _ u63 a ⟨A64, c65, rfl, hS, hg⟩ hE
    obtain ⟨c67, H⟩ := gd H
    replace hS := hS.front 3 rfl
    refine ple hE (.ap (d := (Kn.int .i64)) 8 hS (row_src (hS.row_at (i := 1) rfl)) c67 c65) ?_
    rintro _ u70 a ⟨A68, c69, rfl, hS, hz⟩ hE
    refine plc hE (.r 5 1 .nil) (fun a hE => pld ?_)
    refine block_n ?_
    refine hK51 _ _ (pl0 (plc hE (.r 0 2 .nil) (fun a hE => pld ?_)))
    replace hS := hS.front 1 rfl
    replace hS := hS.tail
    replace hS := hS.front 1 rfl
    replace hS := hS.tail
    replace hS := hS.front 1 rfl
    exact then_n ⟨k46, by omega, _, A68, c69, (l42 ++ [(nth T_api_Choice.z t33 x43).f0]), (w64 (x43 + 1)), by omega, hE, .of, hS, H⟩
   ·
    replace hE := hE.kf 20 c50
    refine cf hE ?_
    refine wp_exit ?_
    refine hK37 _ _ (wp_seq_k fun K72 hK72 => pl0 (plc hE (.r 0 2 .nil) (fun a hE => pld (hK72 _ _ (wp_ret ?_)))))
    have hn73 := (row_form (hS.row_at (i := 0) rfl)).1
    replace hS : St W (mine W []) F u47 F35 [row T_api_Choice.k 216 (.slice A25 t33.length c26) t33, row (Kn.int .i64) 3 (.slice A40 l42.length c41) l42] := by rw [← hn73]; exact hS
    replace hS := hS.tail
    obtain rfl := si H
    exact rt1 hE ⟨_, rfl, _, _, _, rfl, hS⟩
 ·
  replace hE := hE.kfn 10 c9
  refine ct hE (wp_seq_k fun K10 hK10 => pl0 (plc hE (.r 0 1 .nil) (fun a hE => pld (hK10 _ _ (wp_ret (then_ret ?_))))))
  replace hS := hS.nilrow (Kn.int .i64) 3
  replace hS := hS.front 1 rfl
  replace hS := hS.tail
  obtain rfl := si H
  exact rt1 hE ⟨_, rfl, _, _, _, rfl, hS⟩

/-! ### windrose/place.choose: function 204 -/
mutual
def place_choose.j42 : Nat → T_place_item → T_api_Step → Int → List T_api_Choice → Option (List T_place_item)
  | 0, _, _, _, _ => none
  | k + 1, x1_, x2_, x3_, l40 => (mix_Fold.f k (IntKind.u64.wrap x3_) [(IntKind.u64.wrap x2_.f1), (IntKind.u64.wrap x1_.f0), (IntKind.u64.wrap x1_.f1)]).bind fun t53 => ((draw_Order.f k t53 l40).bind fun t58 => (if 0 ≤ (if (t58.length : Int) < x2_.f2 then (t58.length : Int) else x2_.f2) ∧ (if (t58.length : Int) < x2_.f2 then (t58.length : Int) else x2_.f2) ≤ (t58.length : Int) then (place_choose.l80 k x1_ x2_ t58 [] 0) else (none)))
def place_choose.l80 : Nat → T_place_item → T_api_Step → List Int → List T_place_item → Int → Option (List T_place_item)
  | 0, _, _, _, _, _ => none
  | k + 1, x1_, x2_, t58, l78, x79 => if x79 < ((cutl t58 0 (if (t58.length : Int) < x2_.f2 then (t58.length : Int) else x2_.f2)).length : Int) then (if 0 ≤ x79 ∧ x79 < ((cutl t58 0 (if (t58.length : Int) < x2_.f2 then (t58.length : Int) else x2_.f2)).length : Int) then (if x2_.f1 = 1 then (place_choose.j110 k x1_ x2_ t58 l78 x79 (nth 0 (cutl t58 0 (if (t58.length : Int) < x2_.f2 then (t58.length : Int) else x2_.f2)) x79) x1_.f1 x1_.f2) else (if x2_.f1 = 2 then (place_choose.j110 k x1_ x2_ t58 l78 x79 x1_.f0 (nth 0 (cutl t58 0 (if (t58.length : Int) < x2_.f2 then (t58.length : Int) else x2_.f2)) x79) x1_.f2) else (place_choose.j110 k x1_ x2_ t58 l78 x79 x1_.f0 x1_.f1 (nth 0 (cutl t58 0 (if (t58.length : Int) < x2_.f2 then (t58.length : Int) else x2_.f2)) x79)))) else (none)) else (some l78)
def place_choose.j110 : Nat → T_place_item → T_api_Step → List Int → List T_place_item → Int → Int → Int → Int → Option (List T_place_item)
  | 0, _, _, _, _, _, _, _, _ => none
  | k + 1, x1_, x2_, t58, l78, x79, x107, x108, x109 => if ((l78.length : Int) + ((1 : Nat) : Int)) * 24 ≤ 140737488355328 then (place_choose.l80 k x1_ x2_ t58 (l78 ++ [(⟨x107, x108, x109⟩ : T_place_item)]) (w64 (x79 + 1))) else (none)
end
theorem place_choose.j42_s (k : Nat) (x1_ : T_place_item) (x2_ : T_api_Step) (x3_ : Int) (l40 : List T_api_Choice) : place_choose.j42 (k + 1) x1_ x2_ x3_ l40 = ((mix_Fold.f k (IntKind.u64.wrap x3_) [(IntKind.u64.wrap x2_.f1), (IntKind.u64.wrap x1_.f0), (IntKind.u64.wrap x1_.f1)]).bind fun t53 => ((draw_Order.f k t53 l40).bind fun t58 => (if 0 ≤ (if (t58.length : Int) < x2_.f2 then (t58.length : Int) else x2_.f2) ∧ (if (t58.length : Int) < x2_.f2 then (t58.length : Int) else x2_.f2) ≤ (t58.length : Int) then (place_choose.l80 k x1_ x2_ t58 [] 0) else (none)))) := by kernel_rfl
theorem place_choose.l80_s (k : Nat) (x1_ : T_place_item) (x2_ : T_api_Step) (t58 : List Int) (l78 : List T_place_item) (x79 : Int) : place_choose.l80 (k + 1) x1_ x2_ t58 l78 x79 = (if x79 < ((cutl t58 0 (if (t58.length : Int) < x2_.f2 then (t58.length : Int) else x2_.f2)).length : Int) then (if 0 ≤ x79 ∧ x79 < ((cutl t58 0 (if (t58.length : Int) < x2_.f2 then (t58.length : Int) else x2_.f2)).length : Int) then (if x2_.f1 = 1 then (place_choose.j110 k x1_ x2_ t58 l78 x79 (nth 0 (cutl t58 0 (if (t58.length : Int) < x2_.f2 then (t58.length : Int) else x2_.f2)) x79) x1_.f1 x1_.f2) else (if x2_.f1 = 2 then (place_choose.j110 k x1_ x2_ t58 l78 x79 x1_.f0 (nth 0 (cutl t58 0 (if (t58.length : Int) < x2_.f2 then (t58.length : Int) else x2_.f2)) x79) x1_.f2) else (place_choose.j110 k x1_ x2_ t58 l78 x79 x1_.f0 x1_.f1 (nth 0 (cutl t58 0 (if (t58.length : Int) < x2_.f2 then (t58.length : Int) else x2_.f2)) x79)))) else (none)) else (some l78)) := by kernel_rfl
theorem place_choose.j110_s (k : Nat) (x1_ : T_place_item) (x2_ : T_api_Step) (t58 : List Int) (l78 : List T_place_item) (x79 : Int) (x107 : Int) (x108 : Int) (x109 : Int) : place_choose.j110 (k + 1) x1_ x2_ t58 l78 x79 x107 x108 x109 = (if ((l78.length : Int) + ((1 : Nat) : Int)) * 24 ≤ 140737488355328 then (place_choose.l80 k x1_ x2_ t58 (l78 ++ [(⟨x107, x108, x109⟩ : T_place_item)]) (w64 (x79 + 1))) else (none)) := by kernel_rfl
def place_choose.f (k : Nat) (x0_ : List T_api_Node) (x1_ : T_place_item) (x2_ : T_api_Step) (x3_ : Int) : Option (List T_place_item) := if x2_.f1 = 1 then ((topo_Zones.f k x0_).bind fun t12 => (place_choose.j42 k x1_ x2_ x3_ t12)) else (if x2_.f1 = 2 then ((topo_Racks.f k x0_ x1_.f0).bind fun t22 => (place_choose.j42 k x1_ x2_ x3_ t22)) else ((topo_Leaves.f k x0_ x1_.f0 x1_.f1).bind fun t30 => (place_choose.j42 k x1_ x2_ x3_ t30)))
def place_choose.Post (W F : World) (r : List T_place_item) (v : Value) (w' : World) : Prop := ∃ (F' : World) (RA0_0 : Option Addr) (rc0_0 : Nat), v = .slice RA0_0 r.length rc0_0 ∧ St W (mine W []) F w' F' [row T_place_item.k 212 (.slice RA0_0 r.length rc0_0) r]
theorem place_choose.calls (k : Nat) (x0_ : List T_api_Node) (x1_ : T_place_item) (x2_ : T_api_Step) (x3_ : Int) (A0_0 : Option Addr) (c0_0 : Nat) (r : List T_place_item) (W F : World) (hown : Sub F W) (g0_0 : Rd T_api_Node.k F A0_0 c0_0 x0_) (H : place_choose.f k x0_ x1_ x2_ x3_ = some r) :
    Calls Tryz.prog 204 #[.slice A0_0 x0_.length c0_0, .agg #[.int .i64 x1_.f0, .int .i64 x1_.f1, .int .i64 x1_.f2], .agg #[.int .i64 x2_.f0, .int .i64 x2_.f1, .int .i64 x2_.f2], .int .i64 x3_] W fun e w' => ∃ v, e = .returned v ∧ place_choose.Post W F r v w' := by
 have hS := St.start (Own.nil hown)
 unfold place_choose.f at H
 refine enter (n := 79) rfl rfl rfl (Nat.le_of_ble_eq_true rfl) (fun a hE => ?_)
 refine wp_seq_k fun K1 hK1 => pl0 (ple hE (.bx (t := 212) hS [.int .i64 x1_.f0, .int .i64 x1_.f1, .int .i64 x1_.f2]) ?_)
 rintro _ u3 a ⟨b2, rfl, hb2, hS, hg⟩ hE
 refine ple hE (.bx (t := 175) hS [.int .i64 x2_.f0, .int .i64 x2_.f1, .int .i64 x2_.f2]) ?_
 rintro _ u5 a ⟨b4, rfl, hb4, hS, hg⟩ hE
 refine plc hE (.r 2 1 .nil) (fun a hE => pld (hK1 _ _ (wp_seq_k fun K6 hK6 => pl0 (plc hE (.r 0 1 .nil) (fun a hE => pld (hK6 _ _ (wp_seq_k fun K7 hK7 => ?_)))))))
 have J45 : ∀ kq43, kq43 ≤ k → ∀ (G : Nat → Value) (A38 : Option Addr) (c39 : Nat) (l40 : List T_api_Choice) (F41 : World) (a : Act) (w' : World), Env 79 G a → At G [(3, .int .i64 x3_), (5, .pointer (some ⟨b2, 0, none⟩)), (6, .pointer (some ⟨b4, 0, none⟩)), (9, .slice A38 l40.length c39)] → St W (mine W []) F w' F41 [box b4 #[.int .i64 x2_.f0, .int .i64 x2_.f1, .int .i64 x2_.f2] 175, box b2 #[.int .i64 x1_.f0, .int .i64 x1_.f1, .int .i64 x1_.f2] 212, row T_api_Choice.k 216 (.slice A38 l40.length c39) l40] → place_choose.j42 kq43 x1_ x2_ x3_ l40 = some r → K7 a w' := by
  intro kq43 hkq G A38 c39 l40 F41 a u46 hE hA hS H
  cases kq43 with
  | zero => cases (show none = some r from H)
  | succ k44 =>
   rw [place_choose.j42_s] at H
   obtain ⟨J, hE⟩ := hE.at hA
   refine hK7 _ _ (wp_seq_k fun K47 hK47 => pl0 ?_)
   have hb4 := hS.blk_at (i := 0) rfl
   have hb2 := hS.blk_at (i := 1) rfl
   refine plc hE (.r 0 3 <| .b 3 1 hb4 <| .r 4 2 <| .b 6 0 hb2 <| .r 7 2 <| .b 9 1 hb2 <| .r 10 1 <| .nil) (fun a hE => ple hE (.lit (d := (Kn.int .u64)) (e := 182) hS [(IntKind.u64.wrap x2_.f1), (IntKind.u64.wrap x1_.f0), (IntKind.u64.wrap x1_.f1)] (.cons rfl <| .cons rfl <| .cons rfl .nil)) ?_)
   rintro _ u48 a ⟨A49, c50, rfl, hS, hg⟩ hE
   obtain ⟨t53, h54, H⟩ := bd H
   refine ple hE (.cl en229 (mix_Fold.calls k44 (IntKind.u64.wrap x3_) [(IntKind.u64.wrap x2_.f1), (IntKind.u64.wrap x1_.f0), (IntKind.u64.wrap x1_.f1)] _ _ _ _ _ (Sub.refl _) (hS.rd_at (i := 0) rfl) h54)) ?_
   rintro _ u52 a ⟨_, rfl, hC⟩ hE
   replace hS := hS.lent hC
   refine plc hE (.r 13 1 .nil) (fun a hE => ?_)
   replace hS := hS.front 3 rfl
   obtain ⟨F55, hs, g56, hS⟩ := hS.give
   obtain ⟨t58, h59, H⟩ := bd H
   refine ple hE (.cl en228 (draw_Order.calls k44 t53 l40 _ _ _ _ _ hS.own.sub g56 h59)) ?_
   rintro _ u57 a ⟨F60, A61, c62, rfl, hC⟩ hE
   have hs := hC.sub
   replace hS := hS.called (X := []) hC
   replace g56 := g56.mono hs
   refine plc hE (.r 15 1 .nil) (fun a hE => pld (hK47 _ _ (wp_seq_k fun K65 hK65 => pl0 (plc hE (.r 0 1 .nil) (fun a hE => pld (hK65 _ _ (wp_seq_k fun K66 hK66 => wp_seq_k fun K67 hK67 => pl0 ?_)))))))
   have hb4 := hS.blk_at (i := 2) rfl
   obtain ⟨F68, hs, g69, hS⟩ := hS.give
   replace g56 := g56.mono hs
   obtain ⟨c70, H⟩ := gd H
   obtain ⟨A71, c72, g73, hv74⟩ := slK_run (P := Tryz.prog) g69 ⟨Int.le_refl _, c70.1, c70.2⟩ sz3
   refine plc hE (.r 0 2 <| .b 2 2 hb4 <| .r 3 3 <| .y 6 (hv74 (by kernel_rfl)) <| .r 7 2 <| .nil) (fun a hE => pld (hK67 _ _ (wp_block ?_)))
   replace hS := hS.nilrow T_place_item.k 212
   replace hS := hS.front 1 rfl
   replace hS := hS.tail
   replace hS := hS.front 2 rfl
   replace hS := hS.front 2 rfl
   refine wp_loop_ghost (fun kq81 a w' => ∃ (G : Nat → Value) (A76 : Option Addr) (c77 : Nat) (l78 : List T_place_item) (x79 : Int), kq81 ≤ k44 ∧ Env 79 G a ∧ At G [(5, .pointer (some ⟨b2, 0, none⟩)), (6, .pointer (some ⟨b4, 0, none⟩)), (11, .slice A76 l78.length c77), (54, .slice A71 ((cutl t58 0 (if (t58.length : Int) < x2_.f2 then (t58.length : Int) else x2_.f2)).length) c72), (55, .int .i64 ((cutl t58 0 (if (t58.length : Int) < x2_.f2 then (t58.length : Int) else x2_.f2)).length : Int)), (56, .int .i64 x79)] ∧ St W (mine W []) F w' F68 [box b4 #[.int .i64 x2_.f0, .int .i64 x2_.f1, .int .i64 x2_.f2] 175, box b2 #[.int .i64 x1_.f0, .int .i64 x1_.f1, .int .i64 x1_.f2] 212, row T_place_item.k 212 (.slice A76 l78.length c77) l78] ∧  place_choose.l80 kq81 x1_ x2_ t58 l78 x79 = some r) k44 ⟨_, none, 0, [], 0, Nat.le_refl _, hE, .of, hS, H⟩ ?_
   rintro kq81 a u83 ⟨G, A76, c77, l78, x79, hkq, hE, hA, hS, H⟩
   cases kq81 with
   | zero => cases (show none = some r from H)
   | succ k82 =>
    rw [place_choose.l80_s] at H
    obtain ⟨J, hE⟩ := hE.at hA
    refine wp_seq_k fun K84 hK84 => pl0 (plc hE (.r 0 1 .nil) (fun a hE => pld (hK84 _ _ (wp_seq_k fun K85 hK85 => ?_))))
    rcases sp H with ⟨c86, H⟩ | ⟨c86, H⟩
    ·
     replace hE := hE.kt 57 c86
     refine ct hE (wp_skip (hK85 _ _ (wp_seq_k fun K87 hK87 => wp_block (wp_seq_k fun K88 hK88 => pl0 ?_))))
     obtain ⟨c89, H⟩ := gd H
     have hE_ := hE
     obtain ⟨ad90, rfl⟩ := g73.addr c89.1 c89.2
     replace hE := hE_
     obtain ⟨cs92, rfl, hc93⟩ := g73.el 0 x79 c89.1 c89.2
     refine plc hE (.x 0 c89 <| .c 1 (hS.fc hc93 0) <| .r 2 1 <| .nil) (fun a hE => pld (hK88 _ _ (wp_seq_k fun K94 hK94 => pl0 ?_)))
     have hb2 := hS.blk_at (i := 1) rfl
     refine plc hE (.bn 0 0 3 hb2 .nil) (fun a hE => ple hE (.al (t := 212) hS [.int .i64 0, .int .i64 0, .int .i64 0]) ?_)
     rintro _ u96 a ⟨b95, rfl, hb95, hS, hg⟩ hE
     refine ple hE (.sto hS [.int .i64 x1_.f0, .int .i64 x1_.f1, .int .i64 x1_.f2]) ?_
     rintro _ u97 a ⟨rfl, hb95, hS, hz⟩ hE
     refine pld (hK94 _ _ (wp_seq_k fun K98 hK98 => ?_))
     have J113 : ∀ kq111, kq111 ≤ k82 → ∀ (G : Nat → Value) (x107 : Int) (x108 : Int) (x109 : Int) (a : Act) (w' : World), Env 79 G a → At G [(5, .pointer (some ⟨b2, 0, none⟩)), (6, .pointer (some ⟨b4, 0, none⟩)), (11, .slice A76 l78.length c77), (14, .pointer (some ⟨b95, 0, none⟩)), (54, .slice (some ad90) ((cutl t58 0 (if (t58.length : Int) < x2_.f2 then (t58.length : Int) else x2_.f2)).length) c72), (55, .int .i64 ((cutl t58 0 (if (t58.length : Int) < x2_.f2 then (t58.length : Int) else x2_.f2)).length : Int)), (56, .int .i64 x79)] → St W (mine W []) F w' F68 [box b95 #[.int .i64 x107, .int .i64 x108, .int .i64 x109] 212, box b4 #[.int .i64 x2_.f0, .int .i64 x2_.f1, .int .i64 x2_.f2] 175, box b2 #[.int .i64 x1_.f0, .int .i64 x1_.f1, .int .i64 x1_.f2] 212, row T_place_item.k 212 (.slice A76 l78.length c77) l78] → place_choose.j110 kq111 x1_ x2_ t58 l78 x79 x107 x108 x109 = some r → K98 a w' := by
      intro kq111 hkq G x107 x108 x109 a u114 hE hA hS H
      cases kq111 with
      | zero => cases (show none = some r from H)
      | succ k112 =>
       rw [place_choose.j110_s] at H
       obtain ⟨J, hE⟩ := hE.at hA
       refine hK98 _ _ (pl0 ?_)
       have hb95 := hS.blk_at (i := 0) rfl
       refine plc hE (.r 0 1 <| .bn 1 0 3 hb95 <| .nil) (fun a hE => ple hE (.lit (d := T_place_item.k) (e := 212) hS [(⟨x107, x108, x109⟩ : T_place_item)] (.cons rfl .nil)) ?_)
       rintro _ u115 a ⟨A116, c117, rfl, hS, hg⟩ hE
       obtain ⟨c119, H⟩ := gd H
       replace hS := hS.front 4 rfl
       refine ple hE (.ap (d := T_place_item.k) 24 hS (row_src (hS.row_at (i := 1) rfl)) c119 c117) ?_
       rintro _ u122 a ⟨A120, c121, rfl, hS, hz⟩ hE
       refine plc hE (.r 4 1 .nil) (fun a hE => pld ?_)
       refine block_n ?_
       refine hK87 _ _ (pl0 (plc hE (.r 0 2 .nil) (fun a hE => pld ?_)))
       replace hS := hS.front 1 rfl
       replace hS := hS.tail
       replace hS := hS.front 1 rfl
       replace hS := hS.tail
       replace hS := hS.front 2 rfl
       replace hS := hS.front 2 rfl
       exact then_n ⟨k112, by omega, _, A120, c121, (l78 ++ [(⟨x107, x108, x109⟩ : T_place_item)]), (w64 (x79 + 1)), by omega, hE, .of, hS, H⟩
     refine wp_seq_k fun K99 hK99 => pl0 ?_
     have hb4 := hS.blk_at (i := 1) rfl
     refine plc hE (.r 0 1 <| .b 1 1 hb4 <| .nil) (fun a hE => pld (hK99 _ _ (wp_block (wp_seq_k fun K100 hK100 => pl0 (plc hE (.r 0 2 .nil) (fun a hE => pld (hK100 _ _ ?_)))))))
     rcases sp H with ⟨c101, H⟩ | ⟨c101, H⟩
     ·
      replace hE := hE.kt 65 c101
      refine ct hE (pl0 (plc hE (.r 0 2 .nil) (fun a hE => ple hE (.sto hS [.int .i64 (nth 0 (cutl t58 0 (if (t58.length : Int) < x2_.f2 then (t58.length : Int) else x2_.f2)) x79), .int .i64 x1_.f1, .int .i64 x1_.f2]) ?_)))
      rintro _ u102 a ⟨rfl, hb95, hS, hz⟩ hE
      refine pld ?_
      refine block_n ?_
      exact J113 _ (by omega) _ (nth 0 (cutl t58 0 (if (t58.length : Int) < x2_.f2 then (t58.length : Int) else x2_.f2)) x79) x1_.f1 x1_.f2 _ _ hE .of hS H
     ·
      replace hE := hE.kf 65 c101
      refine cf hE (wp_seq_k fun K103 hK103 => pl0 (plc hE (.r 0 2 .nil) (fun a hE => pld (hK103 _ _ ?_))))
      rcases sp H with ⟨c104, H⟩ | ⟨c104, H⟩
      ·
       replace hE := hE.kt 69 c104
       refine ct hE (pl0 (plc hE (.r 0 2 .nil) (fun a hE => ple hE (.sto hS [.int .i64 x1_.f0, .int .i64 (nth 0 (cutl t58 0 (if (t58.length : Int) < x2_.f2 then (t58.length : Int) else x2_.f2)) x79), .int .i64 x1_.f2]) ?_)))
       rintro _ u105 a ⟨rfl, hb95, hS, hz⟩ hE
       refine pld ?_
       refine block_n ?_
       exact J113 _ (by omega) _ x1_.f0 (nth 0 (cutl t58 0 (if (t58.length : Int) < x2_.f2 then (t58.length : Int) else x2_.f2)) x79) x1_.f2 _ _ hE .of hS H
      ·
       replace hE := hE.kf 69 c104
       refine cf hE (pl0 (plc hE (.r 0 2 .nil) (fun a hE => ple hE (.sto hS [.int .i64 x1_.f0, .int .i64 x1_.f1, .int .i64 (nth 0 (cutl t58 0 (if (t58.length : Int) < x2_.f2 then (t58.length : Int) else x2_.f2)) x79)]) ?_)))
       rintro _ u106 a ⟨rfl, hb95, hS, hz⟩ hE
       refine pld ?_
       refine block_n ?_
       exact J113 _ (by omega) _ x1_.f0 x1_.f1 (nth 0 (cutl t58 0 (if (t58.length : Int) < x2_.f2 then (t58.length : Int) else x2_.f2)) x79) _ _ hE .of hS H
    ·
     replace hE := hE.kf 57 c86
     refine cf hE ?_
     refine wp_exit ?_
     refine hK66 _ _ (wp_seq_k fun K124 hK124 => pl0 (plc hE (.r 0 2 .nil) (fun a hE => pld (hK124 _ _ (wp_ret ?_)))))
     replace hS := hS.tail
     replace hS := hS.tail
     obtain rfl := si H
     exact rt1 hE ⟨_, rfl, _, _, _, rfl, hS⟩
 refine wp_seq_k fun K8 hK8 => pl0 (plc hE (.r 0 1 <| .b 1 1 hb4 <| .nil) (fun a hE => pld (hK8 _ _ (wp_block (wp_seq_k fun K9 hK9 => pl0 (plc hE (.r 0 2 .nil) (fun a hE => pld (hK9 _ _ ?_))))))))
 rcases sp H with ⟨c10, H⟩ | ⟨c10, H⟩
 ·
  replace hE := hE.kt 23 c10
  refine ct hE (pl0 (plc hE (.r 0 1 .nil) (fun a hE => ?_)))
  obtain ⟨t12, h13, H⟩ := bd H
  refine ple hE (.cl en225 (topo_Zones.calls k x0_ _ _ _ _ _ hS.own.sub g0_0 h13)) ?_
  rintro _ u11 a ⟨F14, A15, c16, rfl, hC⟩ hE
  have hs := hC.sub
  replace hS := hS.called (X := []) hC
  replace g0_0 := g0_0.mono hs
  refine plc hE (.r 2 1 .nil) (fun a hE => pld ?_)
  refine block_n ?_
  replace hS := hS.front 2 rfl
  replace hS := hS.front 2 rfl
  exact J45 _ (by omega) _ A15 c16 t12 F14 _ _ hE .of hS H
 ·
  replace hE := hE.kf 23 c10
  refine cf hE (wp_seq_k fun K19 hK19 => pl0 (plc hE (.r 0 2 .nil) (fun a hE => pld (hK19 _ _ ?_))))
  rcases sp H with ⟨c20, H⟩ | ⟨c20, H⟩
  ·
   replace hE := hE.kt 27 c20
   refine ct hE (pl0 ?_)
   have hb2 := hS.blk_at (i := 1) rfl
   refine plc hE (.r 0 2 <| .b 2 0 hb2 <| .nil) (fun a hE => ?_)
   obtain ⟨t22, h23, H⟩ := bd H
   refine ple hE (.cl en226 (topo_Racks.calls k x0_ x1_.f0 _ _ _ _ _ hS.own.sub g0_0 h23)) ?_
   rintro _ u21 a ⟨F24, A25, c26, rfl, hC⟩ hE
   have hs := hC.sub
   replace hS := hS.called (X := []) hC
   replace g0_0 := g0_0.mono hs
   refine plc hE (.r 4 1 .nil) (fun a hE => pld ?_)
   refine block_n ?_
   replace hS := hS.front 2 rfl
   replace hS := hS.front 2 rfl
   exact J45 _ (by omega) _ A25 c26 t22 F24 _ _ hE .of hS H
  ·
   replace hE := hE.kf 27 c20
   refine cf hE (pl0 ?_)
   have hb2 := hS.blk_at (i := 1) rfl
   refine plc hE (.r 0 2 <| .b 2 0 hb2 <| .r 3 1 <| .b 4 1 hb2 <| .nil) (fun a hE => ?_)
   obtain ⟨t30, h31, H⟩ := bd H
   refine ple hE (.cl en227 (topo_Leaves.calls k x0_ x1_.f0 x1_.f1 _ _ _ _ _ hS.own.sub g0_0 h31)) ?_
   rintro _ u29 a ⟨F32, A33, c34, rfl, hC⟩ hE
   have hs := hC.sub
   replace hS := hS.called (X := []) hC
   replace g0_0 := g0_0.mono hs
   refine plc hE (.r 6 1 .nil) (fun a hE => pld ?_)
   refine block_n ?_
   replace hS := hS.front 2 rfl
   replace hS := hS.front 2 rfl
   exact J45 _ (by omega) _ A33 c34 t30 F32 _ _ hE .of hS H

end Go.Proofs.YtpohepinmjmbkaaGreat.QB
