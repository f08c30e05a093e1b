import Derived.Test.YtpohepinmjmbkaaGreatQD3
namespace Go.Proofs.YtpohepinmjmbkaaGreat.QD
open Go Go.RowKit Go.Proofs.YtpohepinmjmbkaaGreat.Sl
set_option linter.unusedVariables false
set_option linter.unusedSimpArgs false
set_option maxHeartbeats 4000000
set_option maxRecDepth 100000
mutual
def qAK.j6:Nat→Int→Bool→Option Int
 | 0,_,_=>none
 | k+1,x0_,y5=>if y5=true then (some 0) else (qAK.l17 k x0_ 0)
def qAK.l17:Nat→Int→Int→Option Int
 | 0,_,_=>none
 | k+1,x15,x16=>if x15≤32768 then (qAK.l17 k (w64 (x15 * 2)) (w64 (x16+1))) else (qAK.l31 k x16 (IntKind.u64.wrap ((IntKind.u64.wrap x15) * 32768)) 0 0)
def qAK.l31:Nat→Int→Int→Int→Int→Option Int
 | 0,_,_,_,_=>none
 | k+1,x16,x28,x29,x30=>if x30<16 then (if (IntKind.u64.wrap ((IntKind.u64.wrap (x28 * x28)).tdiv 2147483648))≤1073741824 then (qAK.l31 k x16 (IntKind.u64.wrap ((IntKind.u64.wrap ((IntKind.u64.wrap (x28 * x28)).tdiv 2147483648)) * 2)) (w64 ((w64 (x29 * 2))+1)) (w64 (x30+1))) else (qAK.l31 k x16 (IntKind.u64.wrap ((IntKind.u64.wrap (x28 * x28)).tdiv 2147483648)) (w64 (x29 * 2)) (w64 (x30+1)))) else (some (w64 ((w64 (x16 * 65536))+x29)))
end
theorem qAK.j6_s k x0_ y5:type_of% (qAK.j6.eq_2 x0_ y5 k):=qAK.j6.eq_2 x0_ y5 k
theorem qAK.l17_s k x15 x16:type_of% (qAK.l17.eq_2 x15 x16 k):=qAK.l17.eq_2 x15 x16 k
theorem qAK.l31_s k x16 x28 x29 x30:type_of% (qAK.l31.eq_2 x16 x28 x29 x30 k):=qAK.l31.eq_2 x16 x28 x29 x30 k
def qAK.f(k:Nat)(x0_:Int):Option Int:=if x0_<1 then (qAK.j6 k x0_ true) else (qAK.j6 k x0_ (decide (x0_>65536)))
def qAK.Post(W F:World)(r:Int)(v:Value)(w':World):Prop:=∃(F':World),v=iv r∧St W (mine W []) F w' F' []
theorem qAK.calls(k:Nat)(x0_:Int)(r:Int)(W F:World)(hown:Sub F W)(H:qAK.f k x0_=some r):
    Calls Tryz.prog 271 #[iv x0_] W fun e w'=>∃ v,e = .returned v∧qAK.Post W F r v w':=by
 have hS:=St.start (Own.nil hown)
 unfold qAK.f at H
 refine enter (n:=40) rfl rfl rfl (Nat.le_of_ble_eq_true rfl) (fun a hE=>?_)
 refine rr hE fun a hE=>(sq fun K2 hK2=>sq fun K3 hK3=>?_)
 have J9:∀ kq7,kq7≤k→∀(G:Nat→Value)(y5:Bool)(a:Act)(w':World),Env 40 G a→At G [(0,iv x0_),(11,.bool y5)]→St W (mine W []) F w' F []→qAK.j6 kq7 x0_ y5=some r→K3 a w':=by
  intro kq7 hkq G y5 a u10 hE hA hS H
  obtain _ | k8:=kq7
  ·
   exact zz H
  rw [qAK.j6_s]at H
  obtain ⟨J,hE⟩:=hE.at hA
  refine hK3 _ _ ?_
  refine hE.ib 11 H (fun c11 hE H=>?_) fun c11 hE H=>?_
  ·
   refine rr hE fun a hE=>(wp_ret (qCD ?_))
   obtain rfl:=si H
   exact rt1 hE ⟨_,rfl,_,rfl,hS⟩
  refine wp_skip (hK2 _ _ (rr hE fun a hE=>(sq fun K14 hK14=>wp_block ?_)))
  refine wp_loop_ghost (fun kq18 a w'=>∃(G:Nat→Value)(x15:Int)(x16:Int),kq18≤k8∧Env 40 G a∧At G [(0,iv x15),(3,iv x16)]∧St W (mine W []) F w' F []∧qAK.l17 kq18 x15 x16=some r) k8 ⟨_,x0_,0,Nat.le_refl _,hE,.of,hS,H⟩ ?_
  rintro kq18 a u20 ⟨G,x15,x16,hkq,hE,hA,hS,H⟩
  obtain _ | k19:=kq18
  ·
   exact zz H
  rw [qAK.l17_s]at H
  obtain ⟨J,hE⟩:=hE.at hA
  refine sq fun K21 hK21=>rr hE fun a hE=>?_
  refine hE.ik 13 H (fun c23 hE H=>?_) fun c23 hE H=>?_
  ·
   refine wp_skip (hK21 _ _ (sq fun K24 hK24=>wp_block (pl0 (plc hE (.r 0 3 .nil) (fun a hE=>pld ?_)))))
   refine qCF ?_
   refine hK24 _ _ (pl0 (plc hE (.r 0 3 .nil) (fun a hE=>pld ?_)))
   exact qCG ⟨k19,by omega,_,(w64 (x15 * 2)),(w64 (x16+1)),by omega,hE,.of,hS,H⟩
  refine wp_exit ?_
  refine hK14 _ _ (rr hE fun a hE=>(sq fun K26 hK26=>rr hE fun a hE=>(wp_block ?_)))
  refine wp_loop_ghost (fun kq32 a w'=>∃(G:Nat→Value)(x28:Int)(x29:Int)(x30:Int),kq32≤k19∧Env 40 G a∧At G [(3,iv x16),(4,.int .u64 x28),(5,iv x29),(21,iv x30)]∧St W (mine W []) F w' F []∧qAK.l31 kq32 x16 x28 x29 x30=some r) k19 ⟨_,(IntKind.u64.wrap ((IntKind.u64.wrap x15) * 32768)),0,0,Nat.le_refl _,hE,.of,hS,H⟩ ?_
  rintro kq32 a u34 ⟨G,x28,x29,x30,hkq,hE,hA,hS,H⟩
  obtain _ | k33:=kq32
  ·
   exact zz H
  rw [qAK.l31_s]at H
  obtain ⟨J,hE⟩:=hE.at hA
  refine rr hE fun a hE=>(sq fun K36 hK36=>?_)
  refine hE.ik 22 H (fun c37 hE H=>?_) fun c37 hE H=>?_
  ·
   refine wp_skip (hK36 _ _ (sq fun K38 hK38=>wp_block (rr hE fun a hE=>(rr hE fun a hE=>(rr hE fun a hE=>?_)))))
   refine hE.ik 30 H (fun c42 hE H=>?_) fun c42 hE H=>?_
   ·
    refine rr hE fun a hE=>(pl0 (plc hE (.r 0 3 .nil) (fun a hE=>pld ?_)))
    refine qCF ?_
    refine hK38 _ _ (pl0 (plc hE (.r 0 2 .nil) (fun a hE=>pld ?_)))
    exact qCG ⟨k33,by omega,_,(IntKind.u64.wrap ((IntKind.u64.wrap ((IntKind.u64.wrap (x28 * x28)).tdiv 2147483648)) * 2)),(w64 ((w64 (x29 * 2))+1)),(w64 (x30+1)),by omega,hE,.of,hS,H⟩
   refine wp_skip ?_
   refine qCF ?_
   refine hK38 _ _ (pl0 (plc hE (.r 0 2 .nil) (fun a hE=>pld ?_)))
   exact qCG ⟨k33,by omega,_,(IntKind.u64.wrap ((IntKind.u64.wrap (x28 * x28)).tdiv 2147483648)),(w64 (x29 * 2)),(w64 (x30+1)),by omega,hE,.of,hS,H⟩
  refine wp_exit ?_
  refine hK26 _ _ (rr hE fun a hE=>(wp_ret ?_))
  obtain rfl:=si H
  exact rt1 hE ⟨_,rfl,_,rfl,hS⟩
 refine pl0 (plc hE (.r 0 3 .nil) (fun a hE=>?_))
 rcases sp H with ⟨c4,H⟩ | ⟨c4,H⟩
 ·
  replace hE:=hE.kt 8 c4
  refine plc hE (.r 3 3 .nil) (fun a hE=>pld ?_)
  exact J9 _ (by omega) _ true _ _ hE .of hS H
 replace hE:=hE.kf 8 c4
 refine plc hE (.r 3 3 .nil) (fun a hE=>pld ?_)
 exact J9 _ (by omega) _ (decide (x0_>65536)) _ _ hE .of hS H
def qBl.f(k:Nat)(x0_:Int)(x1_:Int):Option Int:=(qBK.f k x0_ [(IntKind.u64.wrap x1_)]).bind fun t8=>((qAK.f k (w64 (1+(w64 (t8.fdiv 281474976710656))))).bind fun t11=>(some t11))
def qBl.Post(W F:World)(r:Int)(v:Value)(w':World):Prop:=∃(F':World),v=iv r∧St W (mine W []) F w' F' []
theorem qBl.calls(k:Nat)(x0_:Int)(x1_:Int)(r:Int)(W F:World)(hown:Sub F W)(H:qBl.f k x0_ x1_=some r):
    Calls Tryz.prog 259 #[.int .u64 x0_,iv x1_] W fun e w'=>∃ v,e = .returned v∧qBl.Post W F r v w':=by
 have hS:=St.start (Own.nil hown)
 unfold qBl.f at H
 refine enter (n:=14) rfl rfl rfl (Nat.le_of_ble_eq_true rfl) (fun a hE=>?_)
 refine rr hE fun a hE=>(sq fun K2 hK2=>pl0 (plc hE (.r 0 3 .nil) (fun a hE=>ple hE (.lit (d:=(Kn.int .u64)) (e:=182) hS [(IntKind.u64.wrap x1_)] (.cons rfl .nil)) ?_)))
 rintro _ u3 a ⟨A4,c5,rfl,hS,hg⟩ hE
 obtain ⟨t8,h9,H⟩:=bd H
 refine ple hE (.cl en229 (qBK.calls k x0_ [(IntKind.u64.wrap x1_)] _ _ _ _ _ (Sub.refl _) (hS.rd_at (i:=0) rfl) h9)) ?_
 rintro _ u7 a ⟨_,rfl,hC⟩ hE
 replace hS:=hS.lent hC
 refine plc hE (.r 5 3 .nil) (fun a hE=>?_)
 obtain ⟨t11,h12,H⟩:=bd H
 refine ple hE (.cl en271 (qAK.calls k (w64 (1+(w64 (t8.fdiv 281474976710656)))) _ _ _ hS.own.sub h12)) ?_
 rintro _ u10 a ⟨_,rfl,hC⟩ hE
 replace hS:=hS.lent hC
 refine plc hE (.r 9 1 .nil) (fun a hE=>pld (hK2 _ _ (wp_ret ?_)))
 replace hS:=hS.tail
 obtain rfl:=si H
 exact rt1 hE ⟨_,rfl,_,rfl,hS⟩
def qBX.f(x0_:Int):Option Bool:=if x0_≥0 then (some (decide (x0_≤2147483647))) else (some false)
def qBX.Post(W F:World)(r:Bool)(v:Value)(w':World):Prop:=∃(F':World),v = .bool r∧St W (mine W []) F w' F' []
theorem qBX.calls(x0_:Int)(r:Bool)(W F:World)(hown:Sub F W)(H:qBX.f x0_=some r):
    Calls Tryz.prog 272 #[iv x0_] W fun e w'=>∃ v,e = .returned v∧qBX.Post W F r v w':=by
 have hS:=St.start (Own.nil hown)
 unfold qBX.f at H
 refine enter (n:=9) rfl rfl rfl (Nat.le_of_ble_eq_true rfl) (fun a hE=>?_)
 refine rr hE fun a hE=>(sq fun K2 hK2=>pl0 (plc hE (.r 0 3 .nil) (fun a hE=>?_)))
 rcases sp H with ⟨c3,H⟩ | ⟨c3,H⟩
 ·
  replace hE:=hE.kt 5 c3
  refine plc hE (.r 3 4 .nil) (fun a hE=>pld (hK2 _ _ (wp_ret ?_)))
  obtain rfl:=si H
  exact rt1 hE ⟨_,rfl,_,rfl,hS⟩
 replace hE:=hE.kf 5 c3
 refine plc hE (.r 3 4 .nil) (fun a hE=>pld (hK2 _ _ (wp_ret ?_)))
 obtain rfl:=si H
 exact rt1 hE ⟨_,rfl,_,rfl,hS⟩
def qBL.f(x0_:Int)(x1_:Int)(x2_:Int)(x3_:Int):Option Bool:=(qBX.f x0_).bind fun t4=>(if t4=true then ((qBX.f x1_).bind fun t8=>(if t8=true then ((qBX.f x2_).bind fun t12=>(if t12=true then ((qBX.f x3_).bind fun t16=>(if t16=true then (if x1_>0 then (if x3_>0 then (some (decide ((w64 (x0_ * x3_))<(w64 (x2_ * x1_))))) else (some false)) else (some false)) else (some false))) else (some false))) else (some false))) else (some false))
def qBL.Post(W F:World)(r:Bool)(v:Value)(w':World):Prop:=∃(F':World),v = .bool r∧St W (mine W []) F w' F' []
theorem qBL.calls(x0_:Int)(x1_:Int)(x2_:Int)(x3_:Int)(r:Bool)(W F:World)(hown:Sub F W)(H:qBL.f x0_ x1_ x2_ x3_=some r):
    Calls Tryz.prog 260 #[iv x0_,iv x1_,iv x2_,iv x3_] W fun e w'=>∃ v,e = .returned v∧qBL.Post W F r v w':=by
 have hS:=St.start (Own.nil hown)
 unfold qBL.f at H
 refine enter (n:=40) rfl rfl rfl (Nat.le_of_ble_eq_true rfl) (fun a hE=>?_)
 refine rr hE fun a hE=>(sq fun K2 hK2=>pl0 (plc hE (.r 0 1 .nil) (fun a hE=>?_)))
 obtain ⟨t4,h5,H⟩:=bd H
 refine ple hE (.cl en272 (qBX.calls x0_ _ _ _ hS.own.sub h5)) ?_
 rintro _ u3 a ⟨_,rfl,hC⟩ hE
 replace hS:=hS.lent hC
 refine plc hE (.r 2 1 .nil) (fun a hE=>?_)
 rcases sp H with ⟨c6,H⟩ | ⟨c6,H⟩
 ·
  replace hE:=hE.bt 11 c6
  refine plc hE (.r 3 1 .nil) (fun a hE=>?_)
  obtain ⟨t8,h9,H⟩:=bd H
  refine ple hE (.cl en272 (qBX.calls x1_ _ _ _ hS.own.sub h9)) ?_
  rintro _ u7 a ⟨_,rfl,hC⟩ hE
  replace hS:=hS.lent hC
  refine plc hE (.r 5 2 .nil) (fun a hE=>?_)
  rcases sp H with ⟨c10,H⟩ | ⟨c10,H⟩
  ·
   replace hE:=hE.bt 15 c10
   refine plc hE (.r 7 1 .nil) (fun a hE=>?_)
   obtain ⟨t12,h13,H⟩:=bd H
   refine ple hE (.cl en272 (qBX.calls x2_ _ _ _ hS.own.sub h13)) ?_
   rintro _ u11 a ⟨_,rfl,hC⟩ hE
   replace hS:=hS.lent hC
   refine plc hE (.r 9 2 .nil) (fun a hE=>?_)
   rcases sp H with ⟨c14,H⟩ | ⟨c14,H⟩
   ·
    replace hE:=hE.bt 19 c14
    refine plc hE (.r 11 1 .nil) (fun a hE=>?_)
    obtain ⟨t16,h17,H⟩:=bd H
    refine ple hE (.cl en272 (qBX.calls x3_ _ _ _ hS.own.sub h17)) ?_
    rintro _ u15 a ⟨_,rfl,hC⟩ hE
    replace hS:=hS.lent hC
    refine plc hE (.r 13 2 .nil) (fun a hE=>?_)
    rcases sp H with ⟨c18,H⟩ | ⟨c18,H⟩
    ·
     replace hE:=hE.bt 23 c18
     refine plc hE (.r 15 4 .nil) (fun a hE=>?_)
     rcases sp H with ⟨c19,H⟩ | ⟨c19,H⟩
     ·
      replace hE:=hE.kt 27 c19
      refine plc hE (.r 19 4 .nil) (fun a hE=>?_)
      rcases sp H with ⟨c20,H⟩ | ⟨c20,H⟩
      ·
       replace hE:=hE.kt 31 c20
       refine plc hE (.r 23 9 .nil) (fun a hE=>pld (hK2 _ _ (wp_ret ?_)))
       obtain rfl:=si H
       exact rt1 hE ⟨_,rfl,_,rfl,hS⟩
      replace hE:=hE.kf 31 c20
      refine plc hE (.r 23 9 .nil) (fun a hE=>pld (hK2 _ _ (wp_ret ?_)))
      obtain rfl:=si H
      exact rt1 hE ⟨_,rfl,_,rfl,hS⟩
     replace hE:=hE.kf 27 c19
     refine plc hE (.r 19 13 .nil) (fun a hE=>pld (hK2 _ _ (wp_ret ?_)))
     obtain rfl:=si H
     exact rt1 hE ⟨_,rfl,_,rfl,hS⟩
    replace hE:=hE.bf 23 c18
    refine plc hE (.r 15 17 .nil) (fun a hE=>pld (hK2 _ _ (wp_ret ?_)))
    obtain rfl:=si H
    exact rt1 hE ⟨_,rfl,_,rfl,hS⟩
   replace hE:=hE.bf 19 c14
   refine plc hE (.r 11 21 .nil) (fun a hE=>pld (hK2 _ _ (wp_ret ?_)))
   obtain rfl:=si H
   exact rt1 hE ⟨_,rfl,_,rfl,hS⟩
  replace hE:=hE.bf 15 c10
  refine plc hE (.r 7 25 .nil) (fun a hE=>pld (hK2 _ _ (wp_ret ?_)))
  obtain rfl:=si H
  exact rt1 hE ⟨_,rfl,_,rfl,hS⟩
 replace hE:=hE.bf 11 c6
 refine plc hE (.r 3 29 .nil) (fun a hE=>pld (hK2 _ _ (wp_ret ?_)))
 obtain rfl:=si H
 exact rt1 hE ⟨_,rfl,_,rfl,hS⟩
def qBb.f(k:Nat)(x0_:Int)(x1_:qB)(x2_:qB):Option Int:=(qBl.f k x0_ x1_.f0).bind fun t8=>((qBl.f k x0_ x2_.f0).bind fun t11=>((qBL.f t8 x1_.f1 t11 x2_.f1).bind fun t16=>(if t16=true then (some (-1)) else ((qBL.f t11 x2_.f1 t8 x1_.f1).bind fun t22=>(if t22=true then (some 1) else (some (w64 (x1_.f0 - x2_.f0))))))))
def qBb.Post(W F:World)(r:Int)(v:Value)(w':World):Prop:=∃(F':World),v=iv r∧St W (mine W []) F w' F' []
theorem qBb.calls(k:Nat)(x0_:Int)(x1_:qB)(x2_:qB)(r:Int)(W F:World)(hown:Sub F W)(H:qBb.f k x0_ x1_ x2_=some r):
    Calls Tryz.prog 249 #[.int .u64 x0_,.agg #[iv x1_.f0,iv x1_.f1],.agg #[iv x2_.f0,iv x2_.f1]] W fun e w'=>∃ v,e = .returned v∧qBb.Post W F r v w':=by
 have hS:=St.start (Own.nil hown)
 unfold qBb.f at H
 refine enter (n:=38) rfl rfl rfl (Nat.le_of_ble_eq_true rfl) (fun a hE=>?_)
 refine sq fun K1 hK1=>pl0 (ple hE (.bx (t:=216) hS [iv x1_.f0,iv x1_.f1]) ?_)
 rintro _ u3 a ⟨b2,rfl,hb2,hS,hg⟩ hE
 refine ple hE (.bx (t:=216) hS [iv x2_.f0,iv x2_.f1]) ?_
 rintro _ u5 a ⟨b4,rfl,hb4,hS,hg⟩ hE
 refine plc hE (.r 2 1 .nil) (fun a hE=>pld (hK1 _ _ (sq fun K6 hK6=>?_)))
 refine drawn 10 ⟨[],[],fun q=>False⟩ mixed rfl (by kernel_rfl) (fun hst=>?_)
 replace hS:=hS.drew
 have hb2:=hS.ba 1
 have hb4:=hS.ba 0
 refine mny 4 hst hE (.r 0 2<|.b 2 0 hb2<|.r 4 2<|.b 6 0 hb4<|.nil) (fun a hE=>?_)
 obtain ⟨t8,h9,H⟩:=bd H
 refine on1 3 hE (.cl en259 (qBl.calls k x0_ x1_.f0 _ _ _ hS.own.sub h9)) ?_
 rintro _ u7 a ⟨_,rfl,hC⟩ hE
 refine ⟨.of hC.agr,?_⟩
 replace hS:=hS.lent hC
 obtain ⟨t11,h12,H⟩:=bd H
 refine on1 7 hE (.cl en259 (qBl.calls k x0_ x2_.f0 _ _ _ hS.own.sub h12)) ?_
 rintro _ u10 a ⟨_,rfl,hC⟩ hE
 refine ⟨.of hC.agr,?_⟩
 replace hS:=hS.lent hC
 refine mny 0 hst hE (.r 8 2 .nil) (fun a hE=>?_)
 refine dn ?_
 refine hK6 _ _ (sq fun K13 hK13=>wp_block (sq fun K14 hK14=>pl0 ?_))
 have hb2:=hS.ba 1
 have hb4:=hS.ba 0
 refine plc hE (.r 0 2<|.b 2 1 hb2<|.r 3 2<|.b 5 1 hb4<|.nil) (fun a hE=>?_)
 obtain ⟨t16,h17,H⟩:=bd H
 refine ple hE (.cl en260 (qBL.calls t8 x1_.f1 t11 x2_.f1 _ _ _ hS.own.sub h17)) ?_
 rintro _ u15 a ⟨_,rfl,hC⟩ hE
 replace hS:=hS.lent hC
 refine plc hE (.r 7 1 .nil) (fun a hE=>pld (hK14 _ _ ?_))
 refine hE.ib 17 H (fun c18 hE H=>?_) fun c18 hE H=>?_
 ·
  refine rr hE fun a hE=>(wp_ret (qCE (qCD ?_)))
  replace hS:=hS.pm [] 2
  obtain rfl:=si H
  exact rt1 hE ⟨_,rfl,_,rfl,hS⟩
 refine sq fun K20 hK20=>pl0 ?_
 have hb4:=hS.ba 0
 have hb2:=hS.ba 1
 refine plc hE (.r 0 2<|.b 2 1 hb4<|.r 3 2<|.b 5 1 hb2<|.nil) (fun a hE=>?_)
 obtain ⟨t22,h23,H⟩:=bd H
 refine ple hE (.cl en260 (qBL.calls t11 x2_.f1 t8 x1_.f1 _ _ _ hS.own.sub h23)) ?_
 rintro _ u21 a ⟨_,rfl,hC⟩ hE
 replace hS:=hS.lent hC
 refine plc hE (.r 7 1 .nil) (fun a hE=>pld (hK20 _ _ ?_))
 refine hE.ib 25 H (fun c24 hE H=>?_) fun c24 hE H=>?_
 ·
  refine rr hE fun a hE=>(wp_ret (qCE (qCD ?_)))
  replace hS:=hS.pm [] 2
  obtain rfl:=si H
  exact rt1 hE ⟨_,rfl,_,rfl,hS⟩
 refine wp_skip ?_
 refine qCF ?_
 refine hK13 _ _ (sq fun K26 hK26=>pl0 ?_)
 have hb2:=hS.ba 1
 have hb4:=hS.ba 0
 refine plc hE (.r 0 1<|.b 1 0 hb2<|.r 2 1<|.b 3 0 hb4<|.r 4 2<|.nil) (fun a hE=>pld (hK26 _ _ (wp_ret ?_)))
 replace hS:=hS.pm [] 2
 obtain rfl:=si H
 exact rt1 hE ⟨_,rfl,_,rfl,hS⟩
def qBg.f(k:Nat)(x0_:qB)(x1_:qB)(xf0_:Int):Option Int:=(qBb.f k xf0_ x0_ x1_).bind fun t8=>(some t8)
def qBg.Post(W F:World)(r:Int)(v:Value)(w':World):Prop:=∃(F':World),v=iv r∧St W (mine W []) F w' F' []
theorem qBg.calls(k:Nat)(x0_:qB)(x1_:qB)(xf0_:Int)(pf0_:Nat)(r:Int)(W F:World)(hown:Sub F W)(hpf0_:F.heap[pf0_]? = some (.cells #[.int .u64 xf0_] 182 (0,0)))(H:qBg.f k x0_ x1_ xf0_=some r):
    Calls Tryz.prog 248 #[.agg #[iv x0_.f0,iv x0_.f1],.agg #[iv x1_.f0,iv x1_.f1],.pointer (pb pf0_)] W fun e w'=>∃ v,e = .returned v∧qBg.Post W F r v w':=by
 have hS:=St.start (Own.nil hown)
 unfold qBg.f at H
 refine enter (n:=10) rfl rfl rfl (Nat.le_of_ble_eq_true rfl) (fun a hE=>?_)
 refine sq fun K1 hK1=>pl0 (ple hE (.bx (t:=216) hS [iv x0_.f0,iv x0_.f1]) ?_)
 rintro _ u3 a ⟨b2,rfl,hb2,hS,hg⟩ hE
 refine ple hE (.bx (t:=216) hS [iv x1_.f0,iv x1_.f1]) ?_
 rintro _ u5 a ⟨b4,rfl,hb4,hS,hg⟩ hE
 refine plc hE (.r 2 1 .nil) (fun a hE=>pld (hK1 _ _ (sq fun K6 hK6=>pl0 ?_)))
 have hb2:=hS.ba 1
 refine plc hE (.b 0 0 (hS.own.sub _ _ _ _ hpf0_)<|.bn 1 0 2 hb2<|.bn 2 0 2 hb4<|.nil) (fun a hE=>?_)
 obtain ⟨t8,h9,H⟩:=bd H
 refine ple hE (.cl en249 (qBb.calls k xf0_ x0_ x1_ _ _ _ hS.own.sub h9)) ?_
 rintro _ u7 a ⟨_,rfl,hC⟩ hE
 replace hS:=hS.lent hC
 refine plc hE (.r 4 1 .nil) (fun a hE=>pld (hK6 _ _ (wp_ret ?_)))
 replace hS:=hS.pm [] 2
 obtain rfl:=si H
 exact rt1 hE ⟨_,rfl,_,rfl,hS⟩
def qB.enc(x:qB):List Value:=[iv x.f0,iv x.f1]
instance:Inhabited qB:=⟨qB.z⟩
def qZ.cmp(k:Nat)(x1c0_:Int)(a b:qB):Option Int:=qBg.f k a b x1c0_
def qZ.f(k:Nat)(x0_:List qB)(x1c0_:Int):Option (List qB):=sortO (qZ.cmp k x1c0_) x0_
def qZ.Post(x0_:List qB)(x1c0_:Int)(A0_0:Option Addr)(c0_0:Nat)(p1c0_:Nat)(W F:World)(r:List qB)(v:Value)(w':World):Prop:=∃(F':World),v = .tuple #[]∧St W (mine W [row qB.k 216 (.slice A0_0 x0_.length c0_0) x0_]) F w' F' [row qB.k 216 (.slice A0_0 x0_.length c0_0) r]
set_option maxRecDepth 100000 in
theorem qZ.calls(k:Nat)(x0_:List qB)(x1c0_:Int)(A0_0:Option Addr)(c0_0:Nat)(p1c0_:Nat)(r:List qB)(W F:World)(hown:Own W F [row qB.k 216 (.slice A0_0 x0_.length c0_0) x0_])(hp1c0_:F.heap[p1c0_]? = some (.cells #[.int .u64 x1c0_] 182 (0,0)))(H:qZ.f k x0_ x1c0_=some r):
  Calls Tryz.prog 247 #[.slice A0_0 x0_.length c0_0,.func (.func 248) #[] #[.pointer (pb p1c0_)]] W fun e w'=>∃ v,e = .returned v∧qZ.Post x0_ x1c0_ A0_0 c0_0 p1c0_ W F r v w' :=
 qFJ Tryz.sort247 2 rfl (fun w=>qDK ag216 w) (fun w=>qCb sz216 w) qB.enc (fun x=>rfl) (fun x v hv=>by simp only [qB.enc,List.mem_cons,List.not_mem_nil,or_false]at hv; rcases hv with rfl | rfl <;> rfl) (fun F x cs=>Iff.rfl) (qZ.cmp k x1c0_) 248 #[.pointer (pb p1c0_)] en248 hown (fun x y v W' hs hc=>(qBg.calls k x y x1c0_ _ v W' F hs hp1c0_ hc).mono fun en w' ⟨u,h1,F',h2,h3⟩=>⟨u,h1,F',h2,h3⟩) H
def qBB.l44:Nat→List qB→List qB→List Int→Int→Option (List Int)
 | 0,_,_,_,_=>none
 | k+1,t22,t33,l42,x43=>if x43<(t22.length:Int) then (if 0≤x43∧x43<(t22.length:Int) then (if ((l42.length:Int)+((1:Nat):Int)) * 8≤140737488355328 then (qBB.l44 k t22 t33 (l42++[(nth qB.z t33 x43).f0]) (w64 (x43+1))) else (none)) else (none)) else (some l42)
theorem qBB.l44_s k t22 t33 l42 x43:type_of% (qBB.l44.eq_2 t22 t33 l42 x43 k):=qBB.l44.eq_2 t22 t33 l42 x43 k
def qBB.f(k:Nat)(x0_:Int)(x1_:List qB):Option (List Int):=(qAd.f k x1_).bind fun t7=>(if t7=0 then ((qAZ.f x1_).bind fun t14=>((qN.f k t14).bind fun t22=>((qZ.f k t22 x0_).bind fun t33=>(qBB.l44 k t22 t33 [] 0)))) else (some []))
def qBB.Post(W F:World)(r:List Int)(v:Value)(w':World):Prop:=∃(F':World)(RA0_0:Option Addr)(rc0_0:Nat),v = .slice RA0_0 r.length rc0_0∧St W (mine W []) F w' F' [row ki 3 (.slice RA0_0 r.length rc0_0) r]
theorem qBB.calls(k:Nat)(x0_:Int)(x1_:List qB)(A1_0:Option Addr)(c1_0:Nat)(r:List Int)(W F:World)(hown:Sub F W)(g1_0:Rd qB.k F A1_0 c1_0 x1_)(H:qBB.f k x0_ x1_=some r):
    Calls Tryz.prog 228 #[.int .u64 x0_,.slice A1_0 x1_.length c1_0] W fun e w'=>∃ v,e = .returned v∧qBB.Post W F r v w':=by
 have hS:=St.start (Own.nil hown)
 unfold qBB.f at H
 refine enter (n:=30) rfl rfl rfl (Nat.le_of_ble_eq_true rfl) (fun a hE=>?_)
 refine sq fun K1 hK1=>pl0 (ple hE (.bx (t:=182) hS [.int .u64 x0_]) ?_)
 rintro _ u3 a ⟨b2,rfl,hb2,hS,hg⟩ hE
 refine plc hE (.r 1 1 .nil) (fun a hE=>pld (hK1 _ _ (sq fun K4 hK4=>sq fun K5 hK5=>pl0 (plc hE (.r 0 1 .nil) (fun a hE=>?_)))))
 obtain ⟨t7,h8,H⟩:=bd H
 refine ple hE (.cl en243 (qAd.calls k x1_ _ _ _ _ _ hS.own.sub g1_0 h8)) ?_
 rintro _ u6 a ⟨_,rfl,hC⟩ hE
 replace hS:=hS.lent hC
 refine plc hE (.r 2 1 .nil) (fun a hE=>pld (hK5 _ _ ?_))
 refine hE.ikn 10 H (fun c9 hE H=>?_) fun c9 hE H=>?_
 ·
  refine wp_skip (hK4 _ _ (sq fun K12 hK12=>pl0 (plc hE (.r 0 1 .nil) (fun a hE=>?_))))
  obtain ⟨t14,h15,H⟩:=bd H
  refine ple hE (.cl en245 (qAZ.calls x1_ _ _ _ _ _ hS.own.sub g1_0 h15)) ?_
  rintro _ u13 a ⟨F16,A17,c18,rfl,hC⟩ hE
  have hs:=hC.sub
  replace hS:=hS.called (X:=[]) hC
  replace g1_0:=g1_0.mono hs
  obtain ⟨t22,h23,H⟩:=bd H
  refine ple hE (.cl en244 (qN.calls k t14 _ _ _ _ _ (Own.left (X:=[row qB.k 216 (.slice A17 t14.length c18) t14]) hS.own) h23)) ?_
  rintro _ u21 a ⟨F24,A25,c26,rfl,hC⟩ hE
  have hs:=hC.sub
  replace hS:=hS.called (X:=[row qB.k 216 (.slice A17 t14.length c18) t14]) hC
  replace g1_0:=g1_0.mono hs
  refine plc hE (.r 3 1 .nil) (fun a hE=>pld (hK12 _ _ (sq fun K29 hK29=>pl0 (plc hE (.r 0 2 .nil) (fun a hE=>?_)))))
  replace hS:=hS.front 1 rfl
  obtain ⟨F30,hs,g31,hS⟩:=hS.giveb
  replace g1_0:=g1_0.mono hs
  obtain ⟨t33,h34,H⟩:=bd H
  refine ple hE (.cl en247 (qZ.calls k t22 x0_ _ _ _ _ _ _ (Own.left (X:=[row qB.k 216 (.slice A25 t22.length c26) t22]) hS.own) g31 h34)) ?_
  rintro _ u32 a ⟨F35,rfl,hC⟩ hE
  have hs:=hC.sub
  replace hS:=hS.called (X:=[row qB.k 216 (.slice A25 t22.length c26) t22]) hC
  replace g1_0:=g1_0.mono hs
  replace g31:=hs _ _ _ _ g31
  refine pld (hK29 _ _ (rr hE fun a hE=>(sq fun K37 hK37=>rr hE fun a hE=>(wp_block ?_))))
  replace hS:=hS.nilrow ki 3
  replace hS:=hS.front 1 rfl
  refine wp_loop_ghost (fun kq45 a w'=>∃(G:Nat→Value)(A40:Option Addr)(c41:Nat)(l42:List Int)(x43:Int),kq45≤k∧Env 30 G a∧At G [(5,.slice A40 l42.length c41),(17,.slice A25 t22.length c26),(18,iv (t22.length:Int)),(19,iv x43)]∧St W (mine W []) F w' F35 [row qB.k 216 (.slice A25 t22.length c26) t33,row ki 3 (.slice A40 l42.length c41) l42]∧qBB.l44 kq45 t22 t33 l42 x43=some r) k ⟨_,none,0,[],0,Nat.le_refl _,hE,.of,hS,H⟩ ?_
  rintro kq45 a u47 ⟨G,A40,c41,l42,x43,hkq,hE,hA,hS,H⟩
  obtain _ | k46:=kq45
  ·
   exact zz H
  rw [qBB.l44_s]at H
  obtain ⟨J,hE⟩:=hE.at hA
  refine rr hE fun a hE=>(sq fun K49 hK49=>?_)
  refine hE.ik 20 H (fun c50 hE H=>?_) fun c50 hE H=>?_
  ·
   refine wp_skip (hK49 _ _ (sq fun K51 hK51=>wp_block (sq fun K52 hK52=>pl0 ?_)))
   obtain ⟨c53,H⟩:=gd H
   have hr54:=hS.ra 0
   have c55:0≤x43∧x43<(t33.length:Int):=by rw [← (qCH hr54).1]; exact c53
   have hE_:=hE
   obtain ⟨b56,rfl⟩:=qCK hr54 c55.1 c55.2
   replace hE:=hE_
   have hr_:=hS.ra 0
   obtain ⟨cs58,rfl,hc59⟩:=qCI hr_ qB.z x43 c55.1 c55.2
   refine plc hE (.x 0 c53<|.cs 1 hc59<|.nil) (fun a hE=>ple hE (.al (t:=216) hS [iv 0,iv 0]) ?_)
   rintro _ u61 a ⟨b60,rfl,hb60,hS,hg⟩ hE
   refine ple hE (.sto hS [iv ((nth qB.z t33 x43).f0),iv ((nth qB.z t33 x43).f1)]) ?_
   rintro _ u62 a ⟨rfl,hb60,hS,hz⟩ hE
   refine pld (hK52 _ _ (pl0 (plc hE (.r 0 2<|.b 2 0 hb60<|.nil) (fun a hE=>ple hE (.lit (d:=ki) (e:=3) hS [(nth qB.z t33 x43).f0] (.cons rfl .nil)) ?_))))
   rintro _ u63 a ⟨A64,c65,rfl,hS,hg⟩ hE
   obtain ⟨c67,H⟩:=gd H
   replace hS:=hS.front 3 rfl
   refine ple hE (.ap (d:=ki) 8 hS (qCO (hS.row_at (i:=1) rfl)) c67 c65) ?_
   rintro _ u70 a ⟨A68,c69,rfl,hS,hz⟩ hE
   refine plc hE (.r 5 1 .nil) (fun a hE=>pld ?_)
   refine qCF ?_
   refine hK51 _ _ (pl0 (plc hE (.r 0 2 .nil) (fun a hE=>pld ?_)))
   replace hS:=hS.pm [3,0] 4
   exact qCG ⟨k46,by omega,_,A68,c69,(l42++[(nth qB.z t33 x43).f0]),(w64 (x43+1)),by omega,hE,.of,hS,H⟩
  refine wp_exit ?_
  refine hK37 _ _ (rr hE fun a hE=>(wp_ret ?_))
  have hn73:=(qCH (hS.row_at (i:=0) rfl)).1
  replace hS:St W (mine W []) F u47 F35 [row qB.k 216 (.slice A25 t33.length c26) t33,row ki 3 (.slice A40 l42.length c41) l42]:=by rw [← hn73]; exact hS
  replace hS:=hS.tail
  obtain rfl:=si H
  exact rt1 hE ⟨_,rfl,_,_,_,rfl,hS⟩
 refine rr hE fun a hE=>(wp_ret (qCD ?_))
 replace hS:=hS.nilrow ki 3
 replace hS:=hS.pm [0] 2
 obtain rfl:=si H
 exact rt1 hE ⟨_,rfl,_,_,_,rfl,hS⟩
mutual
def qAE.j42:Nat→qY→qK→Int→List qB→Option (List qY)
 | 0,_,_,_,_=>none
 | k+1,x1_,x2_,x3_,l40=>(qBK.f k (IntKind.u64.wrap x3_) [(IntKind.u64.wrap x2_.f1),(IntKind.u64.wrap x1_.f0),(IntKind.u64.wrap x1_.f1)]).bind fun t53=>((qBB.f k t53 l40).bind fun t58=>(if 0≤(if (t58.length:Int)<x2_.f2 then (t58.length:Int) else x2_.f2)∧(if (t58.length:Int)<x2_.f2 then (t58.length:Int) else x2_.f2)≤(t58.length:Int) then (qAE.l80 k x1_ x2_ t58 [] 0) else (none)))
def qAE.l80:Nat→qY→qK→List Int→List qY→Int→Option (List qY)
 | 0,_,_,_,_,_=>none
 | k+1,x1_,x2_,t58,l78,x79=>if x79<((cutl t58 0 (if (t58.length:Int)<x2_.f2 then (t58.length:Int) else x2_.f2)).length:Int) then (if 0≤x79∧x79<((cutl t58 0 (if (t58.length:Int)<x2_.f2 then (t58.length:Int) else x2_.f2)).length:Int) then (if x2_.f1=1 then (qAE.j110 k x1_ x2_ t58 l78 x79 (nth 0 (cutl t58 0 (if (t58.length:Int)<x2_.f2 then (t58.length:Int) else x2_.f2)) x79) x1_.f1 x1_.f2) else (if x2_.f1=2 then (qAE.j110 k x1_ x2_ t58 l78 x79 x1_.f0 (nth 0 (cutl t58 0 (if (t58.length:Int)<x2_.f2 then (t58.length:Int) else x2_.f2)) x79) x1_.f2) else (qAE.j110 k x1_ x2_ t58 l78 x79 x1_.f0 x1_.f1 (nth 0 (cutl t58 0 (if (t58.length:Int)<x2_.f2 then (t58.length:Int) else x2_.f2)) x79)))) else (none)) else (some l78)
def qAE.j110:Nat→qY→qK→List Int→List qY→Int→Int→Int→Int→Option (List qY)
 | 0,_,_,_,_,_,_,_,_=>none
 | k+1,x1_,x2_,t58,l78,x79,x107,x108,x109=>if ((l78.length:Int)+((1:Nat):Int)) * 24≤140737488355328 then (qAE.l80 k x1_ x2_ t58 (l78++[(⟨x107,x108,x109⟩:qY)]) (w64 (x79+1))) else (none)
end
theorem qAE.j42_s k x1_ x2_ x3_ l40:type_of% (qAE.j42.eq_2 x1_ x2_ x3_ l40 k):=qAE.j42.eq_2 x1_ x2_ x3_ l40 k
theorem qAE.l80_s k x1_ x2_ t58 l78 x79:type_of% (qAE.l80.eq_2 x1_ x2_ t58 l78 x79 k):=qAE.l80.eq_2 x1_ x2_ t58 l78 x79 k
theorem qAE.j110_s(k:Nat)(x1_:qY)(x2_:qK)(t58:List Int)(l78:List qY)(x79:Int)(x107:Int)(x108:Int)(x109:Int):qAE.j110 (k+1) x1_ x2_ t58 l78 x79 x107 x108 x109=(if ((l78.length:Int)+((1:Nat):Int)) * 24≤140737488355328 then (qAE.l80 k x1_ x2_ t58 (l78++[(⟨x107,x108,x109⟩:qY)]) (w64 (x79+1))) else (none)):=by kernel_rfl
def qAE.f(k:Nat)(x0_:List qA)(x1_:qY)(x2_:qK)(x3_:Int):Option (List qY):=if x2_.f1=1 then ((qBo.f k x0_).bind fun t12=>(qAE.j42 k x1_ x2_ x3_ t12)) else (if x2_.f1=2 then ((qBp.f k x0_ x1_.f0).bind fun t22=>(qAE.j42 k x1_ x2_ x3_ t22)) else ((qBi.f k x0_ x1_.f0 x1_.f1).bind fun t30=>(qAE.j42 k x1_ x2_ x3_ t30)))
def qAE.Post(W F:World)(r:List qY)(v:Value)(w':World):Prop:=∃(F':World)(RA0_0:Option Addr)(rc0_0:Nat),v = .slice RA0_0 r.length rc0_0∧St W (mine W []) F w' F' [row qY.k 212 (.slice RA0_0 r.length rc0_0) r]
theorem qAE.calls(k:Nat)(x0_:List qA)(x1_:qY)(x2_:qK)(x3_:Int)(A0_0:Option Addr)(c0_0:Nat)(r:List qY)(W F:World)(hown:Sub F W)(g0_0:Rd qA.k F A0_0 c0_0 x0_)(H:qAE.f k x0_ x1_ x2_ x3_=some r):
    Calls Tryz.prog 204 #[.slice A0_0 x0_.length c0_0,.agg #[iv x1_.f0,iv x1_.f1,iv x1_.f2],.agg #[iv x2_.f0,iv x2_.f1,iv x2_.f2],iv x3_] W fun e w'=>∃ v,e = .returned v∧qAE.Post W F r v w':=by
 have hS:=St.start (Own.nil hown)
 unfold qAE.f at H
 refine enter (n:=79) rfl rfl rfl (Nat.le_of_ble_eq_true rfl) (fun a hE=>?_)
 refine sq fun K1 hK1=>pl0 (ple hE (.bx (t:=212) hS [iv x1_.f0,iv x1_.f1,iv x1_.f2]) ?_)
 rintro _ u3 a ⟨b2,rfl,hb2,hS,hg⟩ hE
 refine ple hE (.bx (t:=175) hS [iv x2_.f0,iv x2_.f1,iv x2_.f2]) ?_
 rintro _ u5 a ⟨b4,rfl,hb4,hS,hg⟩ hE
 refine plc hE (.r 2 1 .nil) (fun a hE=>pld (hK1 _ _ (rr hE fun a hE=>(sq fun K7 hK7=>?_))))
 have J45:∀ kq43,kq43≤k→∀(G:Nat→Value)(A38:Option Addr)(c39:Nat)(l40:List qB)(F41:World)(a:Act)(w':World),Env 79 G a→At G [(3,iv x3_),(5,.pointer (pb b2)),(6,.pointer (pb b4)),(9,.slice A38 l40.length c39)]→St W (mine W []) F w' F41 [box b4 #[iv x2_.f0,iv x2_.f1,iv x2_.f2] 175,box b2 #[iv x1_.f0,iv x1_.f1,iv x1_.f2] 212,row qB.k 216 (.slice A38 l40.length c39) l40]→qAE.j42 kq43 x1_ x2_ x3_ l40=some r→K7 a w':=by
  intro kq43 hkq G A38 c39 l40 F41 a u46 hE hA hS H
  obtain _ | k44:=kq43
  ·
   exact zz H
  rw [qAE.j42_s]at H
  obtain ⟨J,hE⟩:=hE.at hA
  refine hK7 _ _ (sq fun K47 hK47=>pl0 ?_)
  have hb4:=hS.ba 0
  have hb2:=hS.ba 1
  refine plc hE (.r 0 3<|.b 3 1 hb4<|.r 4 2<|.b 6 0 hb2<|.r 7 2<|.b 9 1 hb2<|.r 10 1<|.nil) (fun a hE=>ple hE (.lit (d:=(Kn.int .u64)) (e:=182) hS [(IntKind.u64.wrap x2_.f1),(IntKind.u64.wrap x1_.f0),(IntKind.u64.wrap x1_.f1)] (.cons rfl<|.cons rfl<|.cons rfl .nil)) ?_)
  rintro _ u48 a ⟨A49,c50,rfl,hS,hg⟩ hE
  obtain ⟨t53,h54,H⟩:=bd H
  refine ple hE (.cl en229 (qBK.calls k44 (IntKind.u64.wrap x3_) [(IntKind.u64.wrap x2_.f1),(IntKind.u64.wrap x1_.f0),(IntKind.u64.wrap x1_.f1)] _ _ _ _ _ (Sub.refl _) (hS.rd_at (i:=0) rfl) h54)) ?_
  rintro _ u52 a ⟨_,rfl,hC⟩ hE
  replace hS:=hS.lent hC
  refine plc hE (.r 13 1 .nil) (fun a hE=>?_)
  replace hS:=hS.front 3 rfl
  obtain ⟨F55,hs,g56,hS⟩:=hS.give
  obtain ⟨t58,h59,H⟩:=bd H
  refine ple hE (.cl en228 (qBB.calls k44 t53 l40 _ _ _ _ _ hS.own.sub g56 h59)) ?_
  rintro _ u57 a ⟨F60,A61,c62,rfl,hC⟩ hE
  have hs:=hC.sub
  replace hS:=hS.called (X:=[]) hC
  replace g56:=g56.mono hs
  refine plc hE (.r 15 1 .nil) (fun a hE=>pld (hK47 _ _ (rr hE fun a hE=>(sq fun K66 hK66=>sq fun K67 hK67=>pl0 ?_))))
  have hb4:=hS.ba 2
  obtain ⟨F68,hs,g69,hS⟩:=hS.give
  replace g56:=g56.mono hs
  obtain ⟨c70,H⟩:=gd H
  obtain ⟨A71,c72,g73,hv74⟩:=qEa (P:=Tryz.prog) g69 ⟨Int.le_refl _,c70.1,c70.2⟩ sz3
  refine plc hE (.r 0 2<|.b 2 2 hb4<|.r 3 3<|.y 6 (hv74 (by kernel_rfl))<|.r 7 2<|.nil) (fun a hE=>pld (hK67 _ _ (wp_block ?_)))
  replace hS:=hS.nilrow qY.k 212
  replace hS:=hS.pm [2,3,0] 4
  refine wp_loop_ghost (fun kq81 a w'=>∃(G:Nat→Value)(A76:Option Addr)(c77:Nat)(l78:List qY)(x79:Int),kq81≤k44∧Env 79 G a∧At G [(5,.pointer (pb b2)),(6,.pointer (pb b4)),(11,.slice A76 l78.length c77),(54,.slice A71 ((cutl t58 0 (if (t58.length:Int)<x2_.f2 then (t58.length:Int) else x2_.f2)).length) c72),(55,iv ((cutl t58 0 (if (t58.length:Int)<x2_.f2 then (t58.length:Int) else x2_.f2)).length:Int)),(56,iv x79)]∧St W (mine W []) F w' F68 [box b4 #[iv x2_.f0,iv x2_.f1,iv x2_.f2] 175,box b2 #[iv x1_.f0,iv x1_.f1,iv x1_.f2] 212,row qY.k 212 (.slice A76 l78.length c77) l78]∧qAE.l80 kq81 x1_ x2_ t58 l78 x79=some r) k44 ⟨_,none,0,[],0,Nat.le_refl _,hE,.of,hS,H⟩ ?_
  rintro kq81 a u83 ⟨G,A76,c77,l78,x79,hkq,hE,hA,hS,H⟩
  obtain _ | k82:=kq81
  ·
   exact zz H
  rw [qAE.l80_s]at H
  obtain ⟨J,hE⟩:=hE.at hA
  refine rr hE fun a hE=>(sq fun K85 hK85=>?_)
  refine hE.ik 57 H (fun c86 hE H=>?_) fun c86 hE H=>?_
  ·
   refine wp_skip (hK85 _ _ (sq fun K87 hK87=>wp_block (sq fun K88 hK88=>pl0 ?_)))
   obtain ⟨c89,H⟩:=gd H
   have hE_:=hE
   obtain ⟨ad90,rfl⟩:=g73.addr c89.1 c89.2
   replace hE:=hE_
   obtain ⟨cs92,rfl,hc93⟩:=g73.el 0 x79 c89.1 c89.2
   refine plc hE (.x 0 c89<|.c 1 (hS.fc hc93 0)<|.r 2 1<|.nil) (fun a hE=>pld (hK88 _ _ (sq fun K94 hK94=>pl0 ?_)))
   have hb2:=hS.ba 1
   refine plc hE (.bn 0 0 3 hb2 .nil) (fun a hE=>ple hE (.al (t:=212) hS [iv 0,iv 0,iv 0]) ?_)
   rintro _ u96 a ⟨b95,rfl,hb95,hS,hg⟩ hE
   refine ple hE (.sto hS [iv x1_.f0,iv x1_.f1,iv x1_.f2]) ?_
   rintro _ u97 a ⟨rfl,hb95,hS,hz⟩ hE
   refine pld (hK94 _ _ (sq fun K98 hK98=>?_))
   have J113:∀ kq111,kq111≤k82→∀(G:Nat→Value)(x107:Int)(x108:Int)(x109:Int)(a:Act)(w':World),Env 79 G a→At G [(5,.pointer (pb b2)),(6,.pointer (pb b4)),(11,.slice A76 l78.length c77),(14,.pointer (pb b95)),(54,.slice (some ad90) ((cutl t58 0 (if (t58.length:Int)<x2_.f2 then (t58.length:Int) else x2_.f2)).length) c72),(55,iv ((cutl t58 0 (if (t58.length:Int)<x2_.f2 then (t58.length:Int) else x2_.f2)).length:Int)),(56,iv x79)]→St W (mine W []) F w' F68 [box b95 #[iv x107,iv x108,iv x109] 212,box b4 #[iv x2_.f0,iv x2_.f1,iv x2_.f2] 175,box b2 #[iv x1_.f0,iv x1_.f1,iv x1_.f2] 212,row qY.k 212 (.slice A76 l78.length c77) l78]→qAE.j110 kq111 x1_ x2_ t58 l78 x79 x107 x108 x109=some r→K98 a w':=by
    intro kq111 hkq G x107 x108 x109 a u114 hE hA hS H
    obtain _ | k112:=kq111
    ·
     exact zz H
    rw [qAE.j110_s]at H
    obtain ⟨J,hE⟩:=hE.at hA
    refine hK98 _ _ (pl0 ?_)
    have hb95:=hS.ba 0
    refine plc hE (.r 0 1<|.bn 1 0 3 hb95<|.nil) (fun a hE=>ple hE (.lit (d:=qY.k) (e:=212) hS [(⟨x107,x108,x109⟩:qY)] (.cons rfl .nil)) ?_)
    rintro _ u115 a ⟨A116,c117,rfl,hS,hg⟩ hE
    obtain ⟨c119,H⟩:=gd H
    replace hS:=hS.front 4 rfl
    refine ple hE (.ap (d:=qY.k) 24 hS (qCO (hS.row_at (i:=1) rfl)) c119 c117) ?_
    rintro _ u122 a ⟨A120,c121,rfl,hS,hz⟩ hE
    refine plc hE (.r 4 1 .nil) (fun a hE=>pld ?_)
    refine qCF ?_
    refine hK87 _ _ (pl0 (plc hE (.r 0 2 .nil) (fun a hE=>pld ?_)))
    replace hS:=hS.pm [3,4,0] 5
    exact qCG ⟨k112,by omega,_,A120,c121,(l78++[(⟨x107,x108,x109⟩:qY)]),(w64 (x79+1)),by omega,hE,.of,hS,H⟩
   refine sq fun K99 hK99=>pl0 ?_
   have hb4:=hS.ba 1
   refine plc hE (.r 0 1<|.b 1 1 hb4<|.nil) (fun a hE=>pld (hK99 _ _ (wp_block (rr hE fun a hE=>?_))))
   refine hE.ik 65 H (fun c101 hE H=>?_) fun c101 hE H=>?_
   ·
    refine pl0 (plc hE (.r 0 2 .nil) (fun a hE=>ple hE (.sto hS [iv (nth 0 (cutl t58 0 (if (t58.length:Int)<x2_.f2 then (t58.length:Int) else x2_.f2)) x79),iv x1_.f1,iv x1_.f2]) ?_))
    rintro _ u102 a ⟨rfl,hb95,hS,hz⟩ hE
    refine pld ?_
    refine qCF ?_
    exact J113 _ (by omega) _ (nth 0 (cutl t58 0 (if (t58.length:Int)<x2_.f2 then (t58.length:Int) else x2_.f2)) x79) x1_.f1 x1_.f2 _ _ hE .of hS H
   refine rr hE fun a hE=>?_
   refine hE.ik 69 H (fun c104 hE H=>?_) fun c104 hE H=>?_
   ·
    refine pl0 (plc hE (.r 0 2 .nil) (fun a hE=>ple hE (.sto hS [iv x1_.f0,iv (nth 0 (cutl t58 0 (if (t58.length:Int)<x2_.f2 then (t58.length:Int) else x2_.f2)) x79),iv x1_.f2]) ?_))
    rintro _ u105 a ⟨rfl,hb95,hS,hz⟩ hE
    refine pld ?_
    refine qCF ?_
    exact J113 _ (by omega) _ x1_.f0 (nth 0 (cutl t58 0 (if (t58.length:Int)<x2_.f2 then (t58.length:Int) else x2_.f2)) x79) x1_.f2 _ _ hE .of hS H
   refine pl0 (plc hE (.r 0 2 .nil) (fun a hE=>ple hE (.sto hS [iv x1_.f0,iv x1_.f1,iv (nth 0 (cutl t58 0 (if (t58.length:Int)<x2_.f2 then (t58.length:Int) else x2_.f2)) x79)]) ?_))
   rintro _ u106 a ⟨rfl,hb95,hS,hz⟩ hE
   refine pld ?_
   refine qCF ?_
   exact J113 _ (by omega) _ x1_.f0 x1_.f1 (nth 0 (cutl t58 0 (if (t58.length:Int)<x2_.f2 then (t58.length:Int) else x2_.f2)) x79) _ _ hE .of hS H
  refine wp_exit ?_
  refine hK66 _ _ (rr hE fun a hE=>(wp_ret ?_))
  replace hS:=hS.pm [] 2
  obtain rfl:=si H
  exact rt1 hE ⟨_,rfl,_,_,_,rfl,hS⟩
 refine rg hE (.r 0 1<|.b 1 1 hb4<|.nil) fun a hE=>(wp_block (rr hE fun a hE=>?_))
 refine hE.ik 23 H (fun c10 hE H=>?_) fun c10 hE H=>?_
 ·
  refine pl0 (plc hE (.r 0 1 .nil) (fun a hE=>?_))
  obtain ⟨t12,h13,H⟩:=bd H
  refine ple hE (.cl en225 (qBo.calls k x0_ _ _ _ _ _ hS.own.sub g0_0 h13)) ?_
  rintro _ u11 a ⟨F14,A15,c16,rfl,hC⟩ hE
  have hs:=hC.sub
  replace hS:=hS.called (X:=[]) hC
  replace g0_0:=g0_0.mono hs
  refine plc hE (.r 2 1 .nil) (fun a hE=>pld ?_)
  refine qCF ?_
  replace hS:=hS.pm [1,2,0] 3
  exact J45 _ (by omega) _ A15 c16 t12 F14 _ _ hE .of hS H
 refine rr hE fun a hE=>?_
 refine hE.ik 27 H (fun c20 hE H=>?_) fun c20 hE H=>?_
 ·
  refine pl0 ?_
  have hb2:=hS.ba 1
  refine plc hE (.r 0 2<|.b 2 0 hb2<|.nil) (fun a hE=>?_)
  obtain ⟨t22,h23,H⟩:=bd H
  refine ple hE (.cl en226 (qBp.calls k x0_ x1_.f0 _ _ _ _ _ hS.own.sub g0_0 h23)) ?_
  rintro _ u21 a ⟨F24,A25,c26,rfl,hC⟩ hE
  have hs:=hC.sub
  replace hS:=hS.called (X:=[]) hC
  replace g0_0:=g0_0.mono hs
  refine plc hE (.r 4 1 .nil) (fun a hE=>pld ?_)
  refine qCF ?_
  replace hS:=hS.pm [1,2,0] 3
  exact J45 _ (by omega) _ A25 c26 t22 F24 _ _ hE .of hS H
 refine pl0 ?_
 have hb2:=hS.ba 1
 refine plc hE (.r 0 2<|.b 2 0 hb2<|.r 3 1<|.b 4 1 hb2<|.nil) (fun a hE=>?_)
 obtain ⟨t30,h31,H⟩:=bd H
 refine ple hE (.cl en227 (qBi.calls k x0_ x1_.f0 x1_.f1 _ _ _ _ _ hS.own.sub g0_0 h31)) ?_
 rintro _ u29 a ⟨F32,A33,c34,rfl,hC⟩ hE
 have hs:=hC.sub
 replace hS:=hS.called (X:=[]) hC
 replace g0_0:=g0_0.mono hs
 refine plc hE (.r 6 1 .nil) (fun a hE=>pld ?_)
 refine qCF ?_
 replace hS:=hS.pm [1,2,0] 3
 exact J45 _ (by omega) _ A33 c34 t30 F32 _ _ hE .of hS H
mutual
def qv.j16:Nat→List qA→List qK→Int→Int→Bool→Option ((List Int) × Int)
 | 0,_,_,_,_,_=>none
 | k+1,x0_,x1_,x2_,x3_,y15=>if y15=true then (some ([],1)) else (qv.l38 k x0_ x1_ x2_ x3_ [] [] 0)
def qv.l38:Nat→List qA→List qK→Int→Int→List qY→List Int→Int→Option ((List Int) × Int)
 | 0,_,_,_,_,_,_,_=>none
 | k+1,x0_,x1_,x2_,x3_,l32,l35,x36=>if x36<(x1_.length:Int) then (if 0≤x36∧x36<(x1_.length:Int) then (if (nth qK.z x1_ x36).f0=1 then (qv.l38 k x0_ x1_ x2_ x3_ [(⟨0,0,0⟩:qY)] l35 (w64 (x36+1))) else (if (nth qK.z x1_ x36).f0=2 then (qv.l73 k x0_ x1_ x2_ x3_ l32 l35 x36 [] 0) else (qv.l111 k x0_ x1_ x2_ x3_ l32 x36 l35 0))) else (none)) else (some (l35,0))
def qv.l73:Nat→List qA→List qK→Int→Int→List qY→List Int→Int→List qY→Int→Option ((List Int) × Int)
 | 0,_,_,_,_,_,_,_,_,_=>none
 | k+1,x0_,x1_,x2_,x3_,l32,l35,x36,l70,x71=>if x71<(l32.length:Int) then (if 0≤x71∧x71<(l32.length:Int) then ((qAE.f k x0_ (⟨(nth qY.z l32 x71).f0,(nth qY.z l32 x71).f1,(nth qY.z l32 x71).f2⟩:qY) (⟨(nth qK.z x1_ x36).f0,(nth qK.z x1_ x36).f1,(nth qK.z x1_ x36).f2⟩:qK) x2_).bind fun t92=>(if ((l70.length:Int)+(t92.length:Int)) * 24≤140737488355328 then (qv.l73 k x0_ x1_ x2_ x3_ l32 l35 x36 (l70++t92) (w64 (x71+1))) else (none))) else (none)) else (qv.l38 k x0_ x1_ x2_ x3_ l70 l35 (w64 (x36+1)))
def qv.l111:Nat→List qA→List qK→Int→Int→List qY→Int→List Int→Int→Option ((List Int) × Int)
 | 0,_,_,_,_,_,_,_,_=>none
 | k+1,x0_,x1_,x2_,x3_,l32,x36,l109,x110=>if x110<(l32.length:Int) then (if 0≤x110∧x110<(l32.length:Int) then (if (l109.length:Int)<x3_ then ((qAb.f k l109 ((nth qY.z l32 x110).f2)).bind fun t132=>(qv.j135 k x0_ x1_ x2_ x3_ l32 x36 l109 x110 (!t132))) else (qv.j135 k x0_ x1_ x2_ x3_ l32 x36 l109 x110 false)) else (none)) else (qv.l38 k x0_ x1_ x2_ x3_ [] l109 (w64 (x36+1)))
def qv.j135:Nat→List qA→List qK→Int→Int→List qY→Int→List Int→Int→Bool→Option ((List Int) × Int)
 | 0,_,_,_,_,_,_,_,_,_=>none
 | k+1,x0_,x1_,x2_,x3_,l32,x36,l109,x110,y134=>if y134=true then (if ((l109.length:Int)+((1:Nat):Int)) * 8≤140737488355328 then (qv.l111 k x0_ x1_ x2_ x3_ l32 x36 (l109++[(nth qY.z l32 x110).f2]) (w64 (x110+1))) else (none)) else (qv.l111 k x0_ x1_ x2_ x3_ l32 x36 l109 (w64 (x110+1)))
end
theorem qv.j16_s k x0_ x1_ x2_ x3_ y15:type_of% (qv.j16.eq_2 x0_ x1_ x2_ x3_ y15 k):=qv.j16.eq_2 x0_ x1_ x2_ x3_ y15 k
theorem qv.l38_s k x0_ x1_ x2_ x3_ l32 l35 x36:type_of% (qv.l38.eq_2 x0_ x1_ x2_ x3_ l32 l35 x36 k):=qv.l38.eq_2 x0_ x1_ x2_ x3_ l32 l35 x36 k
theorem qv.l73_s k x0_ x1_ x2_ x3_ l32 l35 x36 l70 x71:type_of% (qv.l73.eq_2 x0_ x1_ x2_ x3_ l32 l35 x36 l70 x71 k):=qv.l73.eq_2 x0_ x1_ x2_ x3_ l32 l35 x36 l70 x71 k
theorem qv.l111_s k x0_ x1_ x2_ x3_ l32 x36 l109 x110:type_of% (qv.l111.eq_2 x0_ x1_ x2_ x3_ l32 x36 l109 x110 k):=qv.l111.eq_2 x0_ x1_ x2_ x3_ l32 x36 l109 x110 k
theorem qv.j135_s k x0_ x1_ x2_ x3_ l32 x36 l109 x110 y134:type_of% (qv.j135.eq_2 x0_ x1_ x2_ x3_ l32 x36 l109 x110 y134 k):=qv.j135.eq_2 x0_ x1_ x2_ x3_ l32 x36 l109 x110 y134 k
def qv.f(k:Nat)(x0_:List qA)(x1_:List qK)(x2_:Int)(x3_:Int):Option ((List Int) × Int):=(qAM.f k x0_).bind fun t5=>(if t5=0 then ((qAa.f k x1_).bind fun t9=>(if t9=0 then (if x2_<0 then (qv.j16 k x0_ x1_ x2_ x3_ true) else (if x2_≥8 then (qv.j16 k x0_ x1_ x2_ x3_ true) else (if x3_<1 then (qv.j16 k x0_ x1_ x2_ x3_ true) else (qv.j16 k x0_ x1_ x2_ x3_ (decide (x3_>3)))))) else (qv.j16 k x0_ x1_ x2_ x3_ true))) else (qv.j16 k x0_ x1_ x2_ x3_ true))
def qv.Post(W F:World)(r:(List Int) × Int)(v:Value)(w':World):Prop:=∃(F':World)(RA0_0:Option Addr)(rc0_0:Nat),v = .tuple #[.slice RA0_0 r.1.length rc0_0,iv r.2]∧St W (mine W []) F w' F' [row ki 3 (.slice RA0_0 r.1.length rc0_0) r.1]
theorem qv.calls(k:Nat)(x0_:List qA)(x1_:List qK)(x2_:Int)(x3_:Int)(A0_0:Option Addr)(c0_0:Nat)(A1_0:Option Addr)(c1_0:Nat)(r:(List Int) × Int)(W F:World)(hown:Sub F W)(g0_0:Rd qA.k F A0_0 c0_0 x0_)(g1_0:Rd qK.k F A1_0 c1_0 x1_)(H:qv.f k x0_ x1_ x2_ x3_=some r):
    Calls Tryz.prog 166 #[.slice A0_0 x0_.length c0_0,.slice A1_0 x1_.length c1_0,iv x2_,iv x3_] W fun e w'=>∃ v,e = .returned v∧qv.Post W F r v w':=by
 have hS:=St.start (Own.nil hown)
 unfold qv.f at H
 refine enter (n:=97) rfl rfl rfl (Nat.le_of_ble_eq_true rfl) (fun a hE=>?_)
 refine rr hE fun a hE=>(sq fun K2 hK2=>sq fun K3 hK3=>?_)
 have J19:∀ kq17,kq17≤k→∀(G:Nat→Value)(y15:Bool)(a:Act)(w':World),Env 97 G a→At G [(0,.slice A0_0 x0_.length c0_0),(1,.slice A1_0 x1_.length c1_0),(2,iv x2_),(3,iv x3_),(42,.bool y15)]→St W (mine W []) F w' F []→qv.j16 kq17 x0_ x1_ x2_ x3_ y15=some r→K3 a w':=by
  intro kq17 hkq G y15 a u20 hE hA hS H
  obtain _ | k18:=kq17
  ·
   exact zz H
  rw [qv.j16_s]at H
  obtain ⟨J,hE⟩:=hE.at hA
  refine hK3 _ _ ?_
  refine hE.ib 42 H (fun c21 hE H=>?_) fun c21 hE H=>?_
  ·
   refine rr hE fun a hE=>(wp_ret (qCD ?_))
   replace hS:=hS.nilrow ki 3
   obtain rfl:=si H
   exact rtN hE ⟨_,rfl,_,_,_,rfl,hS⟩
  refine wp_skip (hK2 _ _ (rr hE fun a hE=>(rr hE fun a hE=>(sq fun K26 hK26=>rr hE fun a hE=>(wp_block ?_)))))
  replace hS:=hS.nilrow qY.k 212
  replace hS:=hS.nilrow ki 3
  replace hS:=hS.front 1 rfl
  refine wp_loop_ghost (fun kq39 a w'=>∃(G:Nat→Value)(A30:Option Addr)(c31:Nat)(l32:List qY)(A33:Option Addr)(c34:Nat)(l35:List Int)(x36:Int)(F37:World),kq39≤k18∧Env 97 G a∧At G [(0,.slice A0_0 x0_.length c0_0),(2,iv x2_),(3,iv x3_),(10,.slice A30 l32.length c31),(11,.slice A33 l35.length c34),(43,.slice A1_0 x1_.length c1_0),(44,iv (x1_.length:Int)),(45,iv x36)]∧St W (mine W []) F w' F37 [row qY.k 212 (.slice A30 l32.length c31) l32,row ki 3 (.slice A33 l35.length c34) l35]∧Rd qA.k F37 A0_0 c0_0 x0_∧Rd qK.k F37 A1_0 c1_0 x1_∧qv.l38 kq39 x0_ x1_ x2_ x3_ l32 l35 x36=some r) k18 ⟨_,none,0,[],none,0,[],0,F,Nat.le_refl _,hE,.of,hS,g0_0,g1_0,H⟩ ?_
  rintro kq39 a u41 ⟨G,A30,c31,l32,A33,c34,l35,x36,F37,hkq,hE,hA,hS,g0_0,g1_0,H⟩
  obtain _ | k40:=kq39
  ·
   exact zz H
  rw [qv.l38_s]at H
  obtain ⟨J,hE⟩:=hE.at hA
  refine rr hE fun a hE=>(sq fun K43 hK43=>?_)
  refine hE.ik 46 H (fun c44 hE H=>?_) fun c44 hE H=>?_
  ·
   refine wp_skip (hK43 _ _ (sq fun K45 hK45=>wp_block (sq fun K46 hK46=>pl0 ?_)))
   obtain ⟨c47,H⟩:=gd H
   have hE_:=hE
   obtain ⟨ad48,rfl⟩:=g1_0.addr c47.1 c47.2
   replace hE:=hE_
   obtain ⟨cs50,rfl,hc51⟩:=g1_0.el qK.z x36 c47.1 c47.2
   refine plc hE (.x 0 c47<|.cs 1 (hS.fcs hc51)<|.nil) (fun a hE=>ple hE (.al (t:=175) hS [iv 0,iv 0,iv 0]) ?_)
   rintro _ u53 a ⟨b52,rfl,hb52,hS,hg⟩ hE
   refine ple hE (.sto hS [iv ((nth qK.z x1_ x36).f0),iv ((nth qK.z x1_ x36).f1),iv ((nth qK.z x1_ x36).f2)]) ?_
   rintro _ u54 a ⟨rfl,hb52,hS,hz⟩ hE
   refine pld (hK46 _ _ (rg hE (.r 0 1<|.b 1 0 hb52<|.nil) fun a hE=>(wp_block (rr hE fun a hE=>?_))))
   refine hE.ik 74 H (fun c57 hE H=>?_) fun c57 hE H=>?_
   ·
    refine pl0 (plc hE (.r 0 1 .nil) (fun a hE=>ple hE (.lit (d:=qY.k) (e:=212) hS [(⟨0,0,0⟩:qY)] (.cons rfl .nil)) ?_))
    rintro _ u58 a ⟨A59,c60,rfl,hS,hg⟩ hE
    refine plc hE (.r 2 1 .nil) (fun a hE=>pld ?_)
    refine qCF ?_
    refine qCF ?_
    refine hK45 _ _ (pl0 (plc hE (.r 0 2 .nil) (fun a hE=>pld ?_)))
    replace hS:=hS.pm [0] 3
    exact qCG ⟨k40,by omega,_,A59,c60,[(⟨0,0,0⟩:qY)],A33,c34,l35,(w64 (x36+1)),F37,by omega,hE,.of,hS,g0_0,g1_0,H⟩
   refine rr hE fun a hE=>?_
   refine hE.ik 78 H (fun c63 hE H=>?_) fun c63 hE H=>?_
   ·
    refine rr hE fun a hE=>(sq fun K65 hK65=>rr hE fun a hE=>(wp_block ?_))
    replace hS:=hS.nilrow qY.k 212
    replace hS:=hS.pm [1,2,3,0] 4
    refine wp_loop_ghost (fun kq74 a w'=>∃(G:Nat→Value)(A68:Option Addr)(c69:Nat)(l70:List qY)(x71:Int)(F72:World),kq74≤k40∧Env 97 G a∧At G [(0,.slice A0_0 x0_.length c0_0),(2,iv x2_),(3,iv x3_),(11,.slice A33 l35.length c34),(13,.pointer (pb b52)),(14,.slice A68 l70.length c69),(43,.slice (some ad48) x1_.length c1_0),(44,iv (x1_.length:Int)),(45,iv x36),(80,.slice A30 l32.length c31),(81,iv (l32.length:Int)),(82,iv x71)]∧St W (mine W []) F w' F72 [box b52 #[iv ((nth qK.z x1_ x36).f0),iv ((nth qK.z x1_ x36).f1),iv ((nth qK.z x1_ x36).f2)] 175,row qY.k 212 (.slice A30 l32.length c31) l32,row ki 3 (.slice A33 l35.length c34) l35,row qY.k 212 (.slice A68 l70.length c69) l70]∧Rd qA.k F72 A0_0 c0_0 x0_∧Rd qK.k F72 (some ad48) c1_0 x1_∧qv.l73 kq74 x0_ x1_ x2_ x3_ l32 l35 x36 l70 x71=some r) k40 ⟨_,none,0,[],0,F37,Nat.le_refl _,hE,.of,hS,g0_0,g1_0,H⟩ ?_
    rintro kq74 a u76 ⟨G,A68,c69,l70,x71,F72,hkq,hE,hA,hS,g0_0,g1_0,H⟩
    obtain _ | k75:=kq74
    ·
     exact zz H
    rw [qv.l73_s]at H
    obtain ⟨J,hE⟩:=hE.at hA
    refine rr hE fun a hE=>(sq fun K78 hK78=>?_)
    refine hE.ik 83 H (fun c79 hE H=>?_) fun c79 hE H=>?_
    ·
     refine wp_skip (hK78 _ _ (sq fun K80 hK80=>wp_block (sq fun K81 hK81=>pl0 ?_)))
     obtain ⟨c82,H⟩:=gd H
     have hr83:=hS.ra 1
     have hE_:=hE
     obtain ⟨b84,rfl⟩:=qCK hr83 c82.1 c82.2
     replace hE:=hE_
     have hr_:=hS.ra 1
     obtain ⟨cs86,rfl,hc87⟩:=qCI hr_ qY.z x71 c82.1 c82.2
     refine plc hE (.x 0 c82<|.cs 1 hc87<|.nil) (fun a hE=>ple hE (.al (t:=212) hS [iv 0,iv 0,iv 0]) ?_)
     rintro _ u89 a ⟨b88,rfl,hb88,hS,hg⟩ hE
     refine ple hE (.sto hS [iv ((nth qY.z l32 x71).f0),iv ((nth qY.z l32 x71).f1),iv ((nth qY.z l32 x71).f2)]) ?_
     rintro _ u90 a ⟨rfl,hb88,hS,hz⟩ hE
     refine pld (hK81 _ _ (pl0 ?_))
     have hb52:=hS.ba 1
     refine plc hE (.r 0 2<|.bn 2 0 3 hb88<|.bn 3 0 3 hb52<|.r 4 1<|.nil) (fun a hE=>?_)
     obtain ⟨t92,h93,H⟩:=bd H
     refine ple hE (.cl en204 (qAE.calls k75 x0_ (⟨(nth qY.z l32 x71).f0,(nth qY.z l32 x71).f1,(nth qY.z l32 x71).f2⟩:qY) (⟨(nth qK.z x1_ x36).f0,(nth qK.z x1_ x36).f1,(nth qK.z x1_ x36).f2⟩:qK) x2_ _ _ _ _ _ hS.own.sub g0_0 h93)) ?_
     rintro _ u91 a ⟨F94,A95,c96,rfl,hC⟩ hE
     have hs:=hC.sub
     replace hS:=hS.called (X:=[]) hC
     replace g0_0:=g0_0.mono hs
     replace g1_0:=g1_0.mono hs
     obtain ⟨c99,H⟩:=gd H
     replace hS:=hS.front 5 rfl
     refine ple hE (.ap (d:=qY.k) 24 hS (qCO (hS.row_at (i:=1) rfl)) c99 c96) ?_
     rintro _ u102 a ⟨A100,c101,rfl,hS,hz⟩ hE
     refine plc hE (.r 7 1 .nil) (fun a hE=>pld ?_)
     refine qCF ?_
     refine hK80 _ _ (pl0 (plc hE (.r 0 2 .nil) (fun a hE=>pld ?_)))
     replace hS:=hS.pm [3,4,5,0] 6
     exact qCG ⟨k75,by omega,_,A100,c101,(l70++t92),(w64 (x71+1)),F94,by omega,hE,.of,hS,g0_0,g1_0,H⟩
    refine wp_exit ?_
    refine hK65 _ _ (pl0 (plc hE (.r 0 2 .nil) (fun a hE=>pld ?_)))
    refine qCF ?_
    refine qCF ?_
    refine hK45 _ _ (pl0 (plc hE (.r 0 2 .nil) (fun a hE=>pld ?_)))
    replace hS:=hS.pm [3,2] 4
    exact qCG ⟨k75,by omega,_,A68,c69,l70,A33,c34,l35,(w64 (x36+1)),F72,by omega,hE,.of,hS,g0_0,g1_0,H⟩
   refine sq fun K104 hK104=>rr hE fun a hE=>(wp_block ?_)
   refine wp_loop_ghost (fun kq112 a w'=>∃(G:Nat→Value)(A107:Option Addr)(c108:Nat)(l109:List Int)(x110:Int),kq112≤k40∧Env 97 G a∧At G [(0,.slice A0_0 x0_.length c0_0),(2,iv x2_),(3,iv x3_),(11,.slice A107 l109.length c108),(43,.slice (some ad48) x1_.length c1_0),(44,iv (x1_.length:Int)),(45,iv x36),(51,.slice A30 l32.length c31),(52,iv (l32.length:Int)),(53,iv x110)]∧St W (mine W []) F w' F37 [box b52 #[iv ((nth qK.z x1_ x36).f0),iv ((nth qK.z x1_ x36).f1),iv ((nth qK.z x1_ x36).f2)] 175,row qY.k 212 (.slice A30 l32.length c31) l32,row ki 3 (.slice A107 l109.length c108) l109]∧qv.l111 kq112 x0_ x1_ x2_ x3_ l32 x36 l109 x110=some r) k40 ⟨_,A33,c34,l35,0,Nat.le_refl _,hE,.of,hS,H⟩ ?_
   rintro kq112 a u114 ⟨G,A107,c108,l109,x110,hkq,hE,hA,hS,H⟩
   obtain _ | k113:=kq112
   ·
    exact zz H
   rw [qv.l111_s]at H
   obtain ⟨J,hE⟩:=hE.at hA
   refine rr hE fun a hE=>(sq fun K116 hK116=>?_)
   refine hE.ik 54 H (fun c117 hE H=>?_) fun c117 hE H=>?_
   ·
    refine wp_skip (hK116 _ _ (sq fun K118 hK118=>wp_block (sq fun K119 hK119=>pl0 ?_)))
    obtain ⟨c120,H⟩:=gd H
    have hr121:=hS.ra 1
    have hE_:=hE
    obtain ⟨b122,rfl⟩:=qCK hr121 c120.1 c120.2
    replace hE:=hE_
    have hr_:=hS.ra 1
    obtain ⟨cs124,rfl,hc125⟩:=qCI hr_ qY.z x110 c120.1 c120.2
    refine plc hE (.x 0 c120<|.cs 1 hc125<|.nil) (fun a hE=>ple hE (.al (t:=212) hS [iv 0,iv 0,iv 0]) ?_)
    rintro _ u127 a ⟨b126,rfl,hb126,hS,hg⟩ hE
    refine ple hE (.sto hS [iv ((nth qY.z l32 x110).f0),iv ((nth qY.z l32 x110).f1),iv ((nth qY.z l32 x110).f2)]) ?_
    rintro _ u128 a ⟨rfl,hb126,hS,hz⟩ hE
    refine pld (hK119 _ _ (sq fun K129 hK129=>?_))
    have J138:∀ kq136,kq136≤k113→∀(G:Nat→Value)(y134:Bool)(a:Act)(w':World),Env 97 G a→At G [(0,.slice A0_0 x0_.length c0_0),(2,iv x2_),(3,iv x3_),(11,.slice A107 l109.length c108),(18,.pointer (pb b126)),(43,.slice (some ad48) x1_.length c1_0),(44,iv (x1_.length:Int)),(45,iv x36),(51,.slice (pb b122) l32.length c31),(52,iv (l32.length:Int)),(53,iv x110),(67,.bool y134)]→St W (mine W []) F w' F37 [box b126 #[iv ((nth qY.z l32 x110).f0),iv ((nth qY.z l32 x110).f1),iv ((nth qY.z l32 x110).f2)] 212,box b52 #[iv ((nth qK.z x1_ x36).f0),iv ((nth qK.z x1_ x36).f1),iv ((nth qK.z x1_ x36).f2)] 175,row qY.k 212 (.slice (pb b122) l32.length c31) l32,row ki 3 (.slice A107 l109.length c108) l109]→qv.j135 kq136 x0_ x1_ x2_ x3_ l32 x36 l109 x110 y134=some r→K129 a w':=by
     intro kq136 hkq G y134 a u139 hE hA hS H
     obtain _ | k137:=kq136
     ·
      exact zz H
     rw [qv.j135_s]at H
     obtain ⟨J,hE⟩:=hE.at hA
     refine hK129 _ _ ?_
     refine hE.ib 67 H (fun c140 hE H=>?_) fun c140 hE H=>?_
     ·
      refine pl0 ?_
      have hb126:=hS.ba 0
      refine plc hE (.r 0 2<|.b 2 2 hb126<|.nil) (fun a hE=>ple hE (.lit (d:=ki) (e:=3) hS [(nth qY.z l32 x110).f2] (.cons rfl .nil)) ?_)
      rintro _ u141 a ⟨A142,c143,rfl,hS,hg⟩ hE
      obtain ⟨c145,H⟩:=gd H
      replace hS:=hS.front 4 rfl
      refine ple hE (.ap (d:=ki) 8 hS (qCO (hS.row_at (i:=1) rfl)) c145 c143) ?_
      rintro _ u148 a ⟨A146,c147,rfl,hS,hz⟩ hE
      refine plc hE (.r 5 1 .nil) (fun a hE=>pld ?_)
      refine qCF ?_
      refine hK118 _ _ (pl0 (plc hE (.r 0 2 .nil) (fun a hE=>pld ?_)))
      replace hS:=hS.pm [3,4,0] 5
      exact qCG ⟨k137,by omega,_,A146,c147,(l109++[(nth qY.z l32 x110).f2]),(w64 (x110+1)),by omega,hE,.of,hS,H⟩
     refine wp_skip ?_
     refine qCF ?_
     refine hK118 _ _ (pl0 (plc hE (.r 0 2 .nil) (fun a hE=>pld ?_)))
     replace hS:=hS.tail
     exact qCG ⟨k137,by omega,_,A107,c108,l109,(w64 (x110+1)),by omega,hE,.of,hS,H⟩
    refine pl0 (plc hE (.r 0 5 .nil) (fun a hE=>?_))
    rcases sp H with ⟨c130,H⟩ | ⟨c130,H⟩
    ·
     replace hE:=hE.kt 61 c130
     refine plc hE (.r 5 2<|.b 7 2 hb126<|.nil) (fun a hE=>?_)
     obtain ⟨t132,h133,H⟩:=bd H
     refine ple hE (.cl en118 (qAb.calls k113 l109 ((nth qY.z l32 x110).f2) _ _ _ _ _ (Sub.refl _) (hS.rd_at (i:=3) rfl) h133)) ?_
     rintro _ u131 a ⟨_,rfl,hC⟩ hE
     replace hS:=hS.lent hC
     refine plc hE (.r 9 2 .nil) (fun a hE=>pld ?_)
     exact J138 _ (by omega) _ (!t132) _ _ hE .of hS H
    replace hE:=hE.kf 61 c130
    refine plc hE (.r 5 6 .nil) (fun a hE=>pld ?_)
    exact J138 _ (by omega) _ false _ _ hE .of hS H
   refine wp_exit ?_
   refine hK104 _ _ (pl0 (plc hE (.r 0 1 .nil) (fun a hE=>pld ?_)))
   refine qCF ?_
   refine qCF ?_
   refine hK45 _ _ (pl0 (plc hE (.r 0 2 .nil) (fun a hE=>pld ?_)))
   replace hS:=hS.nilrow qY.k 212
   replace hS:=hS.pm [0] 3
   exact qCG ⟨k113,by omega,_,none,0,[],A107,c108,l109,(w64 (x36+1)),F37,by omega,hE,.of,hS,g0_0,g1_0,H⟩
  refine wp_exit ?_
  refine hK26 _ _ (rr hE fun a hE=>(wp_ret ?_))
  replace hS:=hS.tail
  obtain rfl:=si H
  exact rtN hE ⟨_,rfl,_,_,_,rfl,hS⟩
 refine pl0 (plc hE (.r 0 1 .nil) (fun a hE=>?_))
 obtain ⟨t5,h6,H⟩:=bd H
 refine ple hE (.cl en80 (qAM.calls k x0_ _ _ _ _ _ hS.own.sub g0_0 h6)) ?_
 rintro _ u4 a ⟨_,rfl,hC⟩ hE
 replace hS:=hS.lent hC
 refine plc hE (.r 2 2 .nil) (fun a hE=>?_)
 rcases sp H with ⟨c7,H⟩ | ⟨c7,H⟩
 ·
  replace hE:=hE.ktn 22 c7
  refine plc hE (.r 4 1 .nil) (fun a hE=>?_)
  obtain ⟨t9,h10,H⟩:=bd H
  refine ple hE (.cl en203 (qAa.calls k x1_ _ _ _ _ _ hS.own.sub g1_0 h10)) ?_
  rintro _ u8 a ⟨_,rfl,hC⟩ hE
  replace hS:=hS.lent hC
  refine plc hE (.r 6 3 .nil) (fun a hE=>?_)
  rcases sp H with ⟨c11,H⟩ | ⟨c11,H⟩
  ·
   replace hE:=hE.ktn 27 c11
   refine plc hE (.r 9 4 .nil) (fun a hE=>?_)
   rcases sp H with ⟨c12,H⟩ | ⟨c12,H⟩
   ·
    replace hE:=hE.kt 31 c12
    refine plc hE (.r 13 11 .nil) (fun a hE=>pld ?_)
    exact J19 _ (by omega) _ true _ _ hE .of hS H
   replace hE:=hE.kf 31 c12
   refine plc hE (.r 13 4 .nil) (fun a hE=>?_)
   rcases sp H with ⟨c13,H⟩ | ⟨c13,H⟩
   ·
    replace hE:=hE.kt 35 c13
    refine plc hE (.r 17 7 .nil) (fun a hE=>pld ?_)
    exact J19 _ (by omega) _ true _ _ hE .of hS H
   replace hE:=hE.kf 35 c13
   refine plc hE (.r 17 4 .nil) (fun a hE=>?_)
   rcases sp H with ⟨c14,H⟩ | ⟨c14,H⟩
   ·
    replace hE:=hE.kt 39 c14
    refine plc hE (.r 21 3 .nil) (fun a hE=>pld ?_)
    exact J19 _ (by omega) _ true _ _ hE .of hS H
   replace hE:=hE.kf 39 c14
   refine plc hE (.r 21 3 .nil) (fun a hE=>pld ?_)
   exact J19 _ (by omega) _ (decide (x3_>3)) _ _ hE .of hS H
  replace hE:=hE.kfn 27 c11
  refine plc hE (.r 9 15 .nil) (fun a hE=>pld ?_)
  exact J19 _ (by omega) _ true _ _ hE .of hS H
 replace hE:=hE.kfn 22 c7
 refine plc hE (.r 4 20 .nil) (fun a hE=>pld ?_)
 exact J19 _ (by omega) _ true _ _ hE .of hS H
def qBv.f(k:Nat)(x0_:List qA)(x1_:Int)(x2_:Int):Option (List Int):=(qAn.f k x2_).bind fun t4=>((qv.f k x0_ t4 x1_ x2_).bind fun t14=>(some t14.1))
def qBv.Post(W F:World)(r:List Int)(v:Value)(w':World):Prop:=∃(F':World)(RA0_0:Option Addr)(rc0_0:Nat),v = .slice RA0_0 r.length rc0_0∧St W (mine W []) F w' F' [row ki 3 (.slice RA0_0 r.length rc0_0) r]
theorem qBv.calls(k:Nat)(x0_:List qA)(x1_:Int)(x2_:Int)(A0_0:Option Addr)(c0_0:Nat)(r:List Int)(W F:World)(hown:Sub F W)(g0_0:Rd qA.k F A0_0 c0_0 x0_)(H:qBv.f k x0_ x1_ x2_=some r):
    Calls Tryz.prog 122 #[.slice A0_0 x0_.length c0_0,iv x1_,iv x2_] W fun e w'=>∃ v,e = .returned v∧qBv.Post W F r v w':=by
 have hS:=St.start (Own.nil hown)
 unfold qBv.f at H
 refine enter (n:=19) rfl rfl rfl (Nat.le_of_ble_eq_true rfl) (fun a hE=>?_)
 refine rr hE fun a hE=>(sq fun K2 hK2=>pl0 (plc hE (.r 0 2 .nil) (fun a hE=>?_)))
 obtain ⟨t4,h5,H⟩:=bd H
 refine ple hE (.cl en167 (qAn.calls k x2_ _ _ _ hS.own.sub h5)) ?_
 rintro _ u3 a ⟨F6,A7,c8,rfl,hC⟩ hE
 have hs:=hC.sub
 replace hS:=hS.called (X:=[]) hC
 replace g0_0:=g0_0.mono hs
 refine plc hE (.r 3 2 .nil) (fun a hE=>?_)
 obtain ⟨F11,hs,g12,hS⟩:=hS.give
 replace g0_0:=g0_0.mono hs
 obtain ⟨t14,h15,H⟩:=bd H
 refine ple hE (.cl en166 (qv.calls k x0_ t4 x1_ x2_ _ _ _ _ _ _ _ hS.own.sub g0_0 g12 h15)) ?_
 rintro _ u13 a ⟨F16,A17,c18,rfl,hC⟩ hE
 have hs:=hC.sub
 replace hS:=hS.called (X:=[]) hC
 replace g0_0:=g0_0.mono hs
 replace g12:=g12.mono hs
 refine plc hE (.r 6 5 .nil) (fun a hE=>pld (hK2 _ _ (rr hE fun a hE=>(wp_ret ?_))))
 obtain rfl:=si H
 exact rt1 hE ⟨_,rfl,_,_,_,rfl,hS⟩
def qBq.f(k:Nat)(x0_:qJ)(x1_:Int):Option (List Int):=(qBu.f k x0_ x1_).bind fun t7=>(if t7.2=true then (if 0≤t7.1∧t7.1<(x0_.f5.length:Int) then ((qAW.f ((nth qM.z x0_.f5 t7.1).f1)).bind fun t21=>(some t21)) else (none)) else ((qBv.f k x0_.f4 x1_ x0_.f1).bind fun t30=>(some t30)))
def qBq.Post(W F:World)(r:List Int)(v:Value)(w':World):Prop:=∃(F':World)(RA0_0:Option Addr)(rc0_0:Nat),v = .slice RA0_0 r.length rc0_0∧St W (mine W []) F w' F' [row ki 3 (.slice RA0_0 r.length rc0_0) r]
theorem qBq.calls(k:Nat)(x0_:qJ)(x1_:Int)(A0_4:Option Addr)(c0_4:Nat)(A0_5:Option Addr)(c0_5:Nat)(A0_6:Option Addr)(c0_6:Nat)(r:List Int)(W F:World)(hown:Sub F W)(g0_4:Rd qA.k F A0_4 c0_4 x0_.f4)(g0_5:Rd qM.k F A0_5 c0_5 x0_.f5)(g0_6:Rd qF.k F A0_6 c0_6 x0_.f6)(H:qBq.f k x0_ x1_=some r):
    Calls Tryz.prog 71 #[.agg #[iv x0_.f0,iv x0_.f1,iv x0_.f2,iv x0_.f3,.slice A0_4 x0_.f4.length c0_4,.slice A0_5 x0_.f5.length c0_5,.slice A0_6 x0_.f6.length c0_6],iv x1_] W fun e w'=>∃ v,e = .returned v∧qBq.Post W F r v w':=by
 have hS:=St.start (Own.nil hown)
 unfold qBq.f at H
 refine enter (n:=27) rfl rfl rfl (Nat.le_of_ble_eq_true rfl) (fun a hE=>?_)
 refine sq fun K1 hK1=>pl0 (ple hE (.bx (t:=26) hS [iv x0_.f0,iv x0_.f1,iv x0_.f2,iv x0_.f3,.slice A0_4 x0_.f4.length c0_4,.slice A0_5 x0_.f5.length c0_5,.slice A0_6 x0_.f6.length c0_6]) ?_)
 rintro _ u3 a ⟨b2,rfl,hb2,hS,hg⟩ hE
 refine plc hE (.r 1 1 .nil) (fun a hE=>pld (hK1 _ _ (sq fun K4 hK4=>sq fun K5 hK5=>pl0 (plc hE (.bn 0 0 7 hb2<|.r 1 1<|.nil) (fun a hE=>?_)))))
 obtain ⟨t7,h8,H⟩:=bd H
 refine ple hE (.cl en121 (qBu.calls k x0_ x1_ _ _ _ _ _ _ _ _ _ hS.own.sub g0_4 g0_5 g0_6 h8)) ?_
 rintro _ u6 a ⟨_,rfl,hC⟩ hE
 replace hS:=hS.lent hC
 refine plc hE (.r 3 5 .nil) (fun a hE=>pld (hK5 _ _ (rr hE fun a hE=>?_)))
 refine hE.ib 13 H (fun c10 hE H=>?_) fun c10 hE H=>?_
 ·
  refine sq fun K11 hK11=>pl0 ?_
  have hb2:=hS.ba 0
  obtain ⟨c12,H⟩:=gd H
  have hE_:=hE
  obtain ⟨ad13,rfl⟩:=g0_5.addr c12.1 c12.2
  replace hE:=hE_
  obtain ⟨cs15,⟨A17,c18,rfl,g19⟩,hc16⟩:=g0_5.el qM.z t7.1 c12.1 c12.2
  refine plc hE (.r 0 1<|.b 1 5 hb2<|.r 2 1<|.x 3 c12<|.r 4 1<|.c 5 (hS.fc hc16 1)<|.nil) (fun a hE=>?_)
  obtain ⟨t21,h22,H⟩:=bd H
  refine ple hE (.cl en112 (qAW.calls ((nth qM.z x0_.f5 t7.1).f1) _ _ _ _ _ hS.own.sub g19 h22)) ?_
  rintro _ u20 a ⟨F23,A24,c25,rfl,hC⟩ hE
  have hs:=hC.sub
  replace hS:=hS.called (X:=[]) hC
  replace g0_4:=g0_4.mono hs
  replace g0_5:=g0_5.mono hs
  replace g0_6:=g0_6.mono hs
  replace g19:=g19.mono hs
  refine plc hE (.r 7 1 .nil) (fun a hE=>pld (hK11 _ _ (wp_ret (qCD ?_))))
  replace hS:=hS.pm [0] 2
  obtain rfl:=si H
  exact rt1 hE ⟨_,rfl,_,_,_,rfl,hS⟩
 refine wp_skip (hK4 _ _ (sq fun K28 hK28=>pl0 ?_))
 have hb2:=hS.ba 0
 refine plc hE (.r 0 1<|.b 1 4 hb2<|.r 2 2<|.b 4 1 hb2<|.nil) (fun a hE=>?_)
 obtain ⟨t30,h31,H⟩:=bd H
 refine ple hE (.cl en122 (qBv.calls k x0_.f4 x1_ x0_.f1 _ _ _ _ _ hS.own.sub g0_4 h31)) ?_
 rintro _ u29 a ⟨F32,A33,c34,rfl,hC⟩ hE
 have hs:=hC.sub
 replace hS:=hS.called (X:=[]) hC
 replace g0_4:=g0_4.mono hs
 replace g0_5:=g0_5.mono hs
 replace g0_6:=g0_6.mono hs
 refine plc hE (.r 6 1 .nil) (fun a hE=>pld (hK28 _ _ (wp_ret ?_)))
 replace hS:=hS.pm [0] 2
 obtain rfl:=si H
 exact rt1 hE ⟨_,rfl,_,_,_,rfl,hS⟩
def qBY.f(x0_:qA)(x1_:Int):Option Int:=(qAP.f x0_.f0 x1_).bind fun t6=>(some t6)
def qBY.Post(W F:World)(r:Int)(v:Value)(w':World):Prop:=∃(F':World),v=iv r∧St W (mine W []) F w' F' []
theorem qBY.calls(x0_:qA)(x1_:Int)(r:Int)(W F:World)(hown:Sub F W)(H:qBY.f x0_ x1_=some r):
    Calls Tryz.prog 174 #[.agg #[iv x0_.f0,iv x0_.f1,iv x0_.f2,iv x0_.f3,.bool x0_.f4,.bool x0_.f5],iv x1_] W fun e w'=>∃ v,e = .returned v∧qBY.Post W F r v w':=by
 have hS:=St.start (Own.nil hown)
 unfold qBY.f at H
 refine enter (n:=9) rfl rfl rfl (Nat.le_of_ble_eq_true rfl) (fun a hE=>?_)
 refine sq fun K1 hK1=>pl0 (ple hE (.bx (t:=104) hS [iv x0_.f0,iv x0_.f1,iv x0_.f2,iv x0_.f3,.bool x0_.f4,.bool x0_.f5]) ?_)
 rintro _ u3 a ⟨b2,rfl,hb2,hS,hg⟩ hE
 refine plc hE (.r 1 1 .nil) (fun a hE=>pld (hK1 _ _ (sq fun K4 hK4=>pl0 (plc hE (.r 0 1<|.b 1 0 hb2<|.r 2 1<|.nil) (fun a hE=>?_)))))
 obtain ⟨t6,h7,H⟩:=bd H
 refine ple hE (.cl en161 (qAP.calls x0_.f0 x1_ _ _ _ hS.own.sub h7)) ?_
 rintro _ u5 a ⟨_,rfl,hC⟩ hE
 replace hS:=hS.lent hC
 refine plc hE (.r 4 1 .nil) (fun a hE=>pld (hK4 _ _ (wp_ret ?_)))
 replace hS:=hS.tail
 obtain rfl:=si H
 exact rt1 hE ⟨_,rfl,_,rfl,hS⟩
def qO.l7:Nat→List qA→Int→Int→Int→Option (Int × Bool)
 | 0,_,_,_,_=>none
 | k+1,x0_,x1_,x5,x6=>if x5<x6 then (if 0≤(w64 ((IntKind.u64.wrap (w64 (x5+x6))).fdiv 2))∧(w64 ((IntKind.u64.wrap (w64 (x5+x6))).fdiv 2))<(x0_.length:Int) then ((qBY.f (⟨(nth qA.z x0_ (w64 ((IntKind.u64.wrap (w64 (x5+x6))).fdiv 2))).f0,(nth qA.z x0_ (w64 ((IntKind.u64.wrap (w64 (x5+x6))).fdiv 2))).f1,(nth qA.z x0_ (w64 ((IntKind.u64.wrap (w64 (x5+x6))).fdiv 2))).f2,(nth qA.z x0_ (w64 ((IntKind.u64.wrap (w64 (x5+x6))).fdiv 2))).f3,(nth qA.z x0_ (w64 ((IntKind.u64.wrap (w64 (x5+x6))).fdiv 2))).f4,(nth qA.z x0_ (w64 ((IntKind.u64.wrap (w64 (x5+x6))).fdiv 2))).f5⟩:qA) x1_).bind fun t22=>(if t22<0 then (qO.l7 k x0_ x1_ (w64 ((w64 ((IntKind.u64.wrap (w64 (x5+x6))).fdiv 2))+1)) x6) else (qO.l7 k x0_ x1_ x5 (w64 ((IntKind.u64.wrap (w64 (x5+x6))).fdiv 2))))) else (none)) else (if x5<(x0_.length:Int) then (if 0≤x5∧x5<(x0_.length:Int) then ((qBY.f (⟨(nth qA.z x0_ x5).f0,(nth qA.z x0_ x5).f1,(nth qA.z x0_ x5).f2,(nth qA.z x0_ x5).f3,(nth qA.z x0_ x5).f4,(nth qA.z x0_ x5).f5⟩:qA) x1_).bind fun t33=>(some (x5,(t33 == 0)))) else (none)) else (some (x5,false)))
theorem qO.l7_s k x0_ x1_ x5 x6:type_of% (qO.l7.eq_2 x0_ x1_ x5 x6 k):=qO.l7.eq_2 x0_ x1_ x5 x6 k
def qO.f(k:Nat)(x0_:List qA)(x1_:Int):Option (Int × Bool):=qO.l7 k x0_ x1_ 0 (x0_.length:Int)
def qO.Post(W F:World)(r:Int × Bool)(v:Value)(w':World):Prop:=∃(F':World),v = .tuple #[iv r.1,.bool r.2]∧St W (mine W []) F w' F' []
theorem qO.calls(k:Nat)(x0_:List qA)(x1_:Int)(A0_0:Option Addr)(c0_0:Nat)(r:Int × Bool)(W F:World)(hown:Sub F W)(g0_0:Rd qA.k F A0_0 c0_0 x0_)(H:qO.f k x0_ x1_=some r):
    Calls Tryz.prog 173 #[.slice A0_0 x0_.length c0_0,iv x1_,.func (.func 174) #[] #[]] W fun e w'=>∃ v,e = .returned v∧qO.Post W F r v w':=by
 have hS:=St.start (Own.nil hown)
 unfold qO.f at H
 refine enter (n:=49) rfl rfl rfl (Nat.le_of_ble_eq_true rfl) (fun a hE=>?_)
 refine rr hE fun a hE=>(rr hE fun a hE=>(rr hE fun a hE=>(sq fun K4 hK4=>wp_block ?_)))
 refine wp_loop_ghost (fun kq8 a w'=>∃(G:Nat→Value)(x5:Int)(x6:Int),kq8≤k∧Env 49 G a∧At G [(0,.slice A0_0 x0_.length c0_0),(1,iv x1_),(2,.func (.func 174) #[] #[]),(8,iv (x0_.length:Int)),(9,iv x5),(10,iv x6)]∧St W (mine W []) F w' F []∧qO.l7 kq8 x0_ x1_ x5 x6=some r) k ⟨_,0,(x0_.length:Int),Nat.le_refl _,hE,.of,hS,H⟩ ?_
 rintro kq8 a u10 ⟨G,x5,x6,hkq,hE,hA,hS,H⟩
 obtain _ | k9:=kq8
 ·
  exact zz H
 rw [qO.l7_s]at H
 obtain ⟨J,hE⟩:=hE.at hA
 refine sq fun K11 hK11=>rr hE fun a hE=>?_
 refine hE.ik 17 H (fun c13 hE H=>?_) fun c13 hE H=>?_
 ·
  refine wp_skip (hK11 _ _ (wp_block (rr hE fun a hE=>(sq fun K15 hK15=>pl0 ?_))))
  obtain ⟨c16,H⟩:=gd H
  have hE_:=hE
  obtain ⟨ad17,rfl⟩:=g0_0.addr c16.1 c16.2
  replace hE:=hE_
  obtain ⟨cs19,rfl,hc20⟩:=g0_0.el qA.z (w64 ((IntKind.u64.wrap (w64 (x5+x6))).fdiv 2)) c16.1 c16.2
  refine plc hE (.r 0 3<|.x 3 c16<|.cs 4 (hS.fcs hc20)<|.r 5 1<|.nil) (fun a hE=>?_)
  obtain ⟨t22,h23,H⟩:=bd H
  refine ple hE (.cl en174 (qBY.calls (⟨(nth qA.z x0_ (w64 ((IntKind.u64.wrap (w64 (x5+x6))).fdiv 2))).f0,(nth qA.z x0_ (w64 ((IntKind.u64.wrap (w64 (x5+x6))).fdiv 2))).f1,(nth qA.z x0_ (w64 ((IntKind.u64.wrap (w64 (x5+x6))).fdiv 2))).f2,(nth qA.z x0_ (w64 ((IntKind.u64.wrap (w64 (x5+x6))).fdiv 2))).f3,(nth qA.z x0_ (w64 ((IntKind.u64.wrap (w64 (x5+x6))).fdiv 2))).f4,(nth qA.z x0_ (w64 ((IntKind.u64.wrap (w64 (x5+x6))).fdiv 2))).f5⟩:qA) x1_ _ _ _ hS.own.sub h23)) ?_
  rintro _ u21 a ⟨_,rfl,hC⟩ hE
  replace hS:=hS.lent hC
  refine plc hE (.r 7 1 .nil) (fun a hE=>pld (hK15 _ _ ?_))
  refine hE.ik 31 H (fun c24 hE H=>?_) fun c24 hE H=>?_
  ·
   refine pl0 (plc hE (.r 0 3 .nil) (fun a hE=>pld ?_))
   refine qCF ?_
   exact qCG ⟨k9,by omega,_,(w64 ((w64 ((IntKind.u64.wrap (w64 (x5+x6))).fdiv 2))+1)),x6,by omega,hE,.of,hS,H⟩
  refine pl0 (plc hE (.r 0 2 .nil) (fun a hE=>pld ?_))
  refine qCF ?_
  exact qCG ⟨k9,by omega,_,x5,(w64 ((IntKind.u64.wrap (w64 (x5+x6))).fdiv 2)),by omega,hE,.of,hS,H⟩
 refine wp_exit ?_
 refine hK4 _ _ (sq fun K25 hK25=>pl0 (plc hE (.r 0 5 .nil) (fun a hE=>?_)))
 rcases sp H with ⟨c26,H⟩ | ⟨c26,H⟩
 ·
  replace hE:=hE.kt 39 c26
  obtain ⟨c27,H⟩:=gd H
  have hE_:=hE
  obtain ⟨ad28,rfl⟩:=g0_0.addr c27.1 c27.2
  replace hE:=hE_
  obtain ⟨cs30,rfl,hc31⟩:=g0_0.el qA.z x5 c27.1 c27.2
  refine plc hE (.r 5 3<|.x 8 c27<|.cs 9 (hS.fcs hc31)<|.r 10 1<|.nil) (fun a hE=>?_)
  obtain ⟨t33,h34,H⟩:=bd H
  refine ple hE (.cl en174 (qBY.calls (⟨(nth qA.z x0_ x5).f0,(nth qA.z x0_ x5).f1,(nth qA.z x0_ x5).f2,(nth qA.z x0_ x5).f3,(nth qA.z x0_ x5).f4,(nth qA.z x0_ x5).f5⟩:qA) x1_ _ _ _ hS.own.sub h34)) ?_
  rintro _ u32 a ⟨_,rfl,hC⟩ hE
  replace hS:=hS.lent hC
  refine plc hE (.r 12 4 .nil) (fun a hE=>pld (hK25 _ _ (wp_ret ?_)))
  obtain rfl:=si H
  exact rtN hE ⟨_,rfl,_,rfl,hS⟩
 replace hE:=hE.kf 39 c26
 refine plc hE (.r 5 11 .nil) (fun a hE=>pld (hK25 _ _ (wp_ret ?_)))
 obtain rfl:=si H
 exact rtN hE ⟨_,rfl,_,rfl,hS⟩
def qBH.j15:Nat→List qA→Int × Bool→Bool→Option (qA × Bool)
 | 0,_,_,_=>none
 | k+1,x0_,t6,y14=>if y14=true then (some ((⟨0,0,0,0,false,false⟩:qA),false)) else (if 0≤t6.1∧t6.1<(x0_.length:Int) then (some ((⟨(nth qA.z x0_ t6.1).f0,(nth qA.z x0_ t6.1).f1,(nth qA.z x0_ t6.1).f2,(nth qA.z x0_ t6.1).f3,(nth qA.z x0_ t6.1).f4,(nth qA.z x0_ t6.1).f5⟩:qA),true)) else (none))
theorem qBH.j15_s k x0_ t6 y14:type_of% (qBH.j15.eq_2 x0_ t6 y14 k):=qBH.j15.eq_2 x0_ t6 y14 k
def qBH.f(k:Nat)(x0_:List qA)(x1_:Int):Option (qA × Bool):=(qO.f k x0_ x1_).bind fun t6=>(if t6.2=true then ((qAM.f k x0_).bind fun t12=>(qBH.j15 k x0_ t6 (!(t12 == 0)))) else (qBH.j15 k x0_ t6 true))
def qBH.Post(W F:World)(r:qA × Bool)(v:Value)(w':World):Prop:=∃(F':World),v = .tuple #[.agg #[iv r.1.f0,iv r.1.f1,iv r.1.f2,iv r.1.f3,.bool r.1.f4,.bool r.1.f5],.bool r.2]∧St W (mine W []) F w' F' []
theorem qBH.calls(k:Nat)(x0_:List qA)(x1_:Int)(A0_0:Option Addr)(c0_0:Nat)(r:qA × Bool)(W F:World)(hown:Sub F W)(g0_0:Rd qA.k F A0_0 c0_0 x0_)(H:qBH.f k x0_ x1_=some r):
    Calls Tryz.prog 127 #[.slice A0_0 x0_.length c0_0,iv x1_] W fun e w'=>∃ v,e = .returned v∧qBH.Post W F r v w':=by
 have hS:=St.start (Own.nil hown)
 unfold qBH.f at H
 refine enter (n:=26) rfl rfl rfl (Nat.le_of_ble_eq_true rfl) (fun a hE=>?_)
 refine sq fun K1 hK1=>pl0 (ple hE (.al (t:=104) hS [iv 0,iv 0,iv 0,iv 0,.bool false,.bool false]) ?_)
 rintro _ u3 a ⟨b2,rfl,hb2,hS,hg⟩ hE
 refine plc hE (.r 1 1 .nil) (fun a hE=>pld (hK1 _ _ (sq fun K4 hK4=>pl0 (plc hE (.r 0 2 .nil) (fun a hE=>?_)))))
 obtain ⟨t6,h7,H⟩:=bd H
 refine ple hE (.cl en173 (qO.calls k x0_ x1_ _ _ _ _ _ hS.own.sub g0_0 h7)) ?_
 rintro _ u5 a ⟨_,rfl,hC⟩ hE
 replace hS:=hS.lent hC
 refine plc hE (.r 3 5 .nil) (fun a hE=>pld (hK4 _ _ (sq fun K8 hK8=>sq fun K9 hK9=>?_)))
 have J18:∀ kq16,kq16≤k→∀(G:Nat→Value)(y14:Bool)(a:Act)(w':World),Env 26 G a→At G [(0,.slice A0_0 x0_.length c0_0),(4,.pointer (pb b2)),(6,iv t6.1),(20,.bool y14)]→St W (mine W []) F w' F [box b2 #[iv 0,iv 0,iv 0,iv 0,.bool false,.bool false] 104]→qBH.j15 kq16 x0_ t6 y14=some r→K9 a w':=by
  intro kq16 hkq G y14 a u19 hE hA hS H
  obtain _ | k17:=kq16
  ·
   exact zz H
  rw [qBH.j15_s]at H
  obtain ⟨J,hE⟩:=hE.at hA
  refine hK9 _ _ ?_
  refine hE.ib 20 H (fun c20 hE H=>?_) fun c20 hE H=>?_
  ·
   refine sq fun K21 hK21=>pl0 (plc hE (.r 0 1 .nil) (fun a hE=>ple hE (.sto hS [iv 0,iv 0,iv 0,iv 0,.bool false,.bool false]) ?_))
   rintro _ u22 a ⟨rfl,hb2,hS,hz⟩ hE
   refine plc hE (.r 2 1 .nil) (fun a hE=>pld (hK21 _ _ (wp_ret (qCD ?_))))
   replace hS:=hS.tail
   obtain rfl:=si H
   exact retN hE rfl (of_decide_eq_true rfl) (.cell (by kernel_rfl) (qCJ [iv 0,iv 0,iv 0,iv 0,.bool false,.bool false] ag104 sz104 hb2 rfl) (.tmp (by kernel_rfl) .nil)) ⟨_,rfl,_,rfl,hS⟩
  refine wp_skip (hK8 _ _ (sq fun K23 hK23=>pl0 ?_))
  obtain ⟨c24,H⟩:=gd H
  have hE_:=hE
  obtain ⟨ad25,rfl⟩:=g0_0.addr c24.1 c24.2
  replace hE:=hE_
  obtain ⟨cs27,rfl,hc28⟩:=g0_0.el qA.z t6.1 c24.1 c24.2
  refine plc hE (.r 0 2<|.x 2 c24<|.cs 3 (hS.fcs hc28)<|.nil) (fun a hE=>ple hE (.sto hS [iv ((nth qA.z x0_ t6.1).f0),iv ((nth qA.z x0_ t6.1).f1),iv ((nth qA.z x0_ t6.1).f2),iv ((nth qA.z x0_ t6.1).f3),.bool ((nth qA.z x0_ t6.1).f4),.bool ((nth qA.z x0_ t6.1).f5)]) ?_)
  rintro _ u29 a ⟨rfl,hb2,hS,hz⟩ hE
  refine plc hE (.r 5 1 .nil) (fun a hE=>pld (hK23 _ _ (wp_ret ?_)))
  replace hS:=hS.tail
  obtain rfl:=si H
  exact retN hE rfl (of_decide_eq_true rfl) (.cell (by kernel_rfl) (qCJ [iv ((nth qA.z x0_ t6.1).f0),iv ((nth qA.z x0_ t6.1).f1),iv ((nth qA.z x0_ t6.1).f2),iv ((nth qA.z x0_ t6.1).f3),.bool ((nth qA.z x0_ t6.1).f4),.bool ((nth qA.z x0_ t6.1).f5)] ag104 sz104 hb2 rfl) (.tmp (by kernel_rfl) .nil)) ⟨_,rfl,_,rfl,hS⟩
 refine pl0 (plc hE (.r 0 3 .nil) (fun a hE=>?_))
 rcases sp H with ⟨c10,H⟩ | ⟨c10,H⟩
 ·
  replace hE:=hE.btn 16 c10
  refine plc hE (.r 3 1 .nil) (fun a hE=>?_)
  obtain ⟨t12,h13,H⟩:=bd H
  refine ple hE (.cl en80 (qAM.calls k x0_ _ _ _ _ _ hS.own.sub g0_0 h13)) ?_
  rintro _ u11 a ⟨_,rfl,hC⟩ hE
  replace hS:=hS.lent hC
  refine plc hE (.r 5 2 .nil) (fun a hE=>pld ?_)
  exact J18 _ (by omega) _ (!(t12 == 0)) _ _ hE .of hS H
 replace hE:=hE.bfn 16 c10
 refine plc hE (.r 3 4 .nil) (fun a hE=>pld ?_)
 exact J18 _ (by omega) _ true _ _ hE .of hS H
def qBc.f(k:Nat)(x0_:Int)(xf0_:qJ):Option Bool:=(qBH.f k xf0_.f4 x0_).bind fun t4=>(some (!t4.1.f4))
def qBc.Post(W F:World)(r:Bool)(v:Value)(w':World):Prop:=∃(F':World),v = .bool r∧St W (mine W []) F w' F' []
theorem qBc.calls(k:Nat)(x0_:Int)(xf0_:qJ)(pf0_:Nat)(Af0_4:Option Addr)(cf0_4:Nat)(Af0_5:Option Addr)(cf0_5:Nat)(Af0_6:Option Addr)(cf0_6:Nat)(r:Bool)(W F:World)(hown:Sub F W)(gf0_4:Rd qA.k F Af0_4 cf0_4 xf0_.f4)(gf0_5:Rd qM.k F Af0_5 cf0_5 xf0_.f5)(gf0_6:Rd qF.k F Af0_6 cf0_6 xf0_.f6)(hpf0_:F.heap[pf0_]? = some (.cells #[iv xf0_.f0,iv xf0_.f1,iv xf0_.f2,iv xf0_.f3,.slice Af0_4 xf0_.f4.length cf0_4,.slice Af0_5 xf0_.f5.length cf0_5,.slice Af0_6 xf0_.f6.length cf0_6] 26 (0,0)))(H:qBc.f k x0_ xf0_=some r):
    Calls Tryz.prog 126 #[iv x0_,.pointer (pb pf0_)] W fun e w'=>∃ v,e = .returned v∧qBc.Post W F r v w':=by
 have hS:=St.start (Own.nil hown)
 unfold qBc.f at H
 refine enter (n:=16) rfl rfl rfl (Nat.le_of_ble_eq_true rfl) (fun a hE=>?_)
 refine rr hE fun a hE=>(sq fun K2 hK2=>pl0 (plc hE (.r 0 1<|.b 1 4 (hS.own.sub _ _ _ _ hpf0_)<|.r 2 1<|.nil) (fun a hE=>?_)))
 obtain ⟨t4,h5,H⟩:=bd H
 refine ple hE (.cl en127 (qBH.calls k xf0_.f4 x0_ _ _ _ _ _ hS.own.sub gf0_4 h5)) ?_
 rintro _ u3 a ⟨_,rfl,hC⟩ hE
 replace hS:=hS.lent hC
 refine plc hE (.r 4 3 .nil) (fun a hE=>ple hE (.al (t:=104) hS [iv 0,iv 0,iv 0,iv 0,.bool false,.bool false]) ?_)
 rintro _ u7 a ⟨b6,rfl,hb6,hS,hg⟩ hE
 refine ple hE (.sto hS [iv t4.1.f0,iv t4.1.f1,iv t4.1.f2,iv t4.1.f3,.bool t4.1.f4,.bool t4.1.f5]) ?_
 rintro _ u8 a ⟨rfl,hb6,hS,hz⟩ hE
 refine plc hE (.r 9 1 .nil) (fun a hE=>pld (hK2 _ _ (rg hE (.r 0 1<|.b 1 4 hb6<|.r 2 2<|.nil) fun a hE=>(wp_ret ?_))))
 replace hS:=hS.tail
 obtain rfl:=si H
 exact rt1 hE ⟨_,rfl,_,rfl,hS⟩
def qf.l5:Nat→List Int→qJ→Int→Option Int
 | 0,_,_,_=>none
 | k+1,x0_,x1c0_,x4=>if x4<(x0_.length:Int) then (if 0≤x4∧x4<(x0_.length:Int) then ((qBc.f k (nth 0 x0_ x4) x1c0_).bind fun t21=>(if t21=true then (some x4) else (qf.l5 k x0_ x1c0_ (w64 (x4+1))))) else (none)) else (some (-1))
theorem qf.l5_s k x0_ x1c0_ x4:type_of% (qf.l5.eq_2 x0_ x1c0_ x4 k):=qf.l5.eq_2 x0_ x1c0_ x4 k
def qf.f(k:Nat)(x0_:List Int)(x1c0_:qJ):Option Int:=qf.l5 k x0_ x1c0_ 0
def qf.Post(W F:World)(r:Int)(v:Value)(w':World):Prop:=∃(F':World),v=iv r∧St W (mine W []) F w' F' []
theorem qf.calls(k:Nat)(x0_:List Int)(x1c0_:qJ)(A0_0:Option Addr)(c0_0:Nat)(p1c0_:Nat)(A1c0_4:Option Addr)(c1c0_4:Nat)(A1c0_5:Option Addr)(c1c0_5:Nat)(A1c0_6:Option Addr)(c1c0_6:Nat)(r:Int)(W F:World)(hown:Sub F W)(g0_0:Rd ki F A0_0 c0_0 x0_)(g1c0_4:Rd qA.k F A1c0_4 c1c0_4 x1c0_.f4)(g1c0_5:Rd qM.k F A1c0_5 c1c0_5 x1c0_.f5)(g1c0_6:Rd qF.k F A1c0_6 c1c0_6 x1c0_.f6)(hp1c0_:F.heap[p1c0_]? = some (.cells #[iv x1c0_.f0,iv x1c0_.f1,iv x1c0_.f2,iv x1c0_.f3,.slice A1c0_4 x1c0_.f4.length c1c0_4,.slice A1c0_5 x1c0_.f5.length c1c0_5,.slice A1c0_6 x1c0_.f6.length c1c0_6] 26 (0,0)))(H:qf.f k x0_ x1c0_=some r):
    Calls Tryz.prog 157 #[.slice A0_0 x0_.length c0_0,.func (.func 126) #[] #[.pointer (pb p1c0_)]] W fun e w'=>∃ v,e = .returned v∧qf.Post W F r v w':=by
 have hS:=St.start (Own.nil hown)
 unfold qf.f at H
 refine enter (n:=19) rfl rfl rfl (Nat.le_of_ble_eq_true rfl) (fun a hE=>?_)
 refine rr hE fun a hE=>(sq fun K2 hK2=>rr hE fun a hE=>(wp_block ?_))
 refine wp_loop_ghost (fun kq6 a w'=>∃(G:Nat→Value)(x4:Int),kq6≤k∧Env 19 G a∧At G [(0,.slice A0_0 x0_.length c0_0),(1,.func (.func 126) #[] #[.pointer (pb p1c0_)]),(7,iv (x0_.length:Int)),(8,iv x4)]∧St W (mine W []) F w' F []∧qf.l5 kq6 x0_ x1c0_ x4=some r) k ⟨_,0,Nat.le_refl _,hE,.of,hS,H⟩ ?_
 rintro kq6 a u8 ⟨G,x4,hkq,hE,hA,hS,H⟩
 obtain _ | k7:=kq6
 ·
  exact zz H
 rw [qf.l5_s]at H
 obtain ⟨J,hE⟩:=hE.at hA
 refine rr hE fun a hE=>(sq fun K10 hK10=>?_)
 refine hE.ik 9 H (fun c11 hE H=>?_) fun c11 hE H=>?_
 ·
  refine wp_skip (hK10 _ _ (sq fun K12 hK12=>wp_block (rr hE fun a hE=>(sq fun K14 hK14=>pl0 ?_))))
  obtain ⟨c15,H⟩:=gd H
  have hE_:=hE
  obtain ⟨ad16,rfl⟩:=g0_0.addr c15.1 c15.2
  replace hE:=hE_
  obtain ⟨cs18,rfl,hc19⟩:=g0_0.el 0 x4 c15.1 c15.2
  refine plc hE (.r 0 3<|.x 3 c15<|.c 4 (hS.fc hc19 0)<|.nil) (fun a hE=>?_)
  obtain ⟨t21,h22,H⟩:=bd H
  refine ple hE (.cl en126 (qBc.calls k7 (nth 0 x0_ x4) x1c0_ _ _ _ _ _ _ _ _ _ _ hS.own.sub g1c0_4 g1c0_5 g1c0_6 hp1c0_ h22)) ?_
  rintro _ u20 a ⟨_,rfl,hC⟩ hE
  replace hS:=hS.lent hC
  refine pld (hK14 _ _ ?_)
  refine hE.ib 16 H (fun c23 hE H=>?_) fun c23 hE H=>?_
  ·
   refine rr hE fun a hE=>(wp_ret (qCE (qCD (qCD (qCE (qCD ?_))))))
   obtain rfl:=si H
   exact rt1 hE ⟨_,rfl,_,rfl,hS⟩
  refine wp_skip ?_
  refine qCF ?_
  refine hK12 _ _ (pl0 (plc hE (.r 0 2 .nil) (fun a hE=>pld ?_)))
  exact qCG ⟨k7,by omega,_,(w64 (x4+1)),by omega,hE,.of,hS,H⟩
 refine wp_exit ?_
 refine hK2 _ _ (rr hE fun a hE=>(wp_ret ?_))
 obtain rfl:=si H
 exact rt1 hE ⟨_,rfl,_,rfl,hS⟩
def qe.l15:Nat→List Int→qJ→List Int→Int→Int→Option (List Int)
 | 0,_,_,_,_,_=>none
 | k+1,x0_,x1c0_,l12,x13,x14=>if x14<(x0_.length:Int) then (if 0≤x14∧x14<(x0_.length:Int) then ((qBc.f k (nth 0 l12 x14) x1c0_).bind fun t33=>(if t33=true then (qe.l15 k x0_ x1c0_ l12 x13 (w64 (x14+1))) else (if 0≤x13∧x13<(x0_.length:Int) then (qe.l15 k x0_ x1c0_ (l12.set (x13).toNat (nth 0 l12 x14)) (w64 (x13+1)) (w64 (x14+1))) else (none)))) else (none)) else (if 0≤x13∧x13≤(x0_.length:Int) then (some (cutl (l12.take (x13).toNat++List.replicate (x0_.length - (x13).toNat) 0) 0 x13)) else (none))
theorem qe.l15_s k x0_ x1c0_ l12 x13 x14:type_of% (qe.l15.eq_2 x0_ x1c0_ l12 x13 x14 k):=qe.l15.eq_2 x0_ x1c0_ l12 x13 x14 k
def qe.f(k:Nat)(x0_:List Int)(x1c0_:qJ):Option (List Int):=(qf.f k x0_ x1c0_).bind fun t4=>(if t4=(-1) then (some x0_) else (qe.l15 k x0_ x1c0_ x0_ t4 (w64 (t4+1))))
def qe.Post(x0_:List Int)(x1c0_:qJ)(A0_0:Option Addr)(c0_0:Nat)(p1c0_:Nat)(A1c0_4:Option Addr)(c1c0_4:Nat)(A1c0_5:Option Addr)(c1c0_5:Nat)(A1c0_6:Option Addr)(c1c0_6:Nat)(W F:World)(r:List Int)(v:Value)(w':World):Prop:=∃(F':World)(RA0_0:Option Addr)(rc0_0:Nat),v = .slice RA0_0 r.length rc0_0∧St W (mine W [row ki 3 (.slice A0_0 x0_.length c0_0) x0_]) F w' F' [row ki 3 (.slice RA0_0 r.length rc0_0) r]
theorem qe.calls(k:Nat)(x0_:List Int)(x1c0_:qJ)(A0_0:Option Addr)(c0_0:Nat)(p1c0_:Nat)(A1c0_4:Option Addr)(c1c0_4:Nat)(A1c0_5:Option Addr)(c1c0_5:Nat)(A1c0_6:Option Addr)(c1c0_6:Nat)(r:List Int)(W F:World)(hown:Own W F [row ki 3 (.slice A0_0 x0_.length c0_0) x0_])(g1c0_4:Rd qA.k F A1c0_4 c1c0_4 x1c0_.f4)(g1c0_5:Rd qM.k F A1c0_5 c1c0_5 x1c0_.f5)(g1c0_6:Rd qF.k F A1c0_6 c1c0_6 x1c0_.f6)(hp1c0_:F.heap[p1c0_]? = some (.cells #[iv x1c0_.f0,iv x1c0_.f1,iv x1c0_.f2,iv x1c0_.f3,.slice A1c0_4 x1c0_.f4.length c1c0_4,.slice A1c0_5 x1c0_.f5.length c1c0_5,.slice A1c0_6 x1c0_.f6.length c1c0_6] 26 (0,0)))(H:qe.f k x0_ x1c0_=some r):
    Calls Tryz.prog 125 #[.slice A0_0 x0_.length c0_0,.func (.func 126) #[] #[.pointer (pb p1c0_)]] W fun e w'=>∃ v,e = .returned v∧qe.Post x0_ x1c0_ A0_0 c0_0 p1c0_ A1c0_4 c1c0_4 A1c0_5 c1c0_5 A1c0_6 c1c0_6 W F r v w':=by
 have hS:=St.start hown
 obtain ⟨N,hN⟩:∃ N,N=mine W [row ki 3 (.slice A0_0 x0_.length c0_0) x0_]:=⟨_,rfl⟩
 rw [← hN]at hS
 unfold qe.f at H
 refine enter (n:=42) rfl rfl rfl (Nat.le_of_ble_eq_true rfl) (fun a hE=>?_)
 refine rr hE fun a hE=>(sq fun K2 hK2=>pl0 (plc hE (.r 0 2 .nil) (fun a hE=>?_)))
 obtain ⟨t4,h5,H⟩:=bd H
 refine ple hE (.cl en157 (qf.calls k x0_ x1c0_ _ _ _ _ _ _ _ _ _ _ _ _ (Sub.refl _) (hS.rd_at (i:=0) rfl) (g1c0_4.mono hS.own.sub) (g1c0_5.mono hS.own.sub) (g1c0_6.mono hS.own.sub) (hS.own.sub _ _ _ _ hp1c0_) h5)) ?_
 rintro _ u3 a ⟨_,rfl,hC⟩ hE
 replace hS:=hS.lent hC
 refine plc hE (.r 3 1 .nil) (fun a hE=>pld (hK2 _ _ (sq fun K6 hK6=>rr hE fun a hE=>?_)))
 refine hE.ik 12 H (fun c8 hE H=>?_) fun c8 hE H=>?_
 ·
  refine rr hE fun a hE=>(wp_ret (qCD ?_))
  rw [hN]at hS
  obtain rfl:=si H
  exact rt1 hE ⟨_,rfl,_,_,_,rfl,hS⟩
 refine wp_skip (hK6 _ _ (sq fun K10 hK10=>rr hE fun a hE=>(wp_block ?_)))
 refine wp_loop_ghost (fun kq16 a w'=>∃(G:Nat→Value)(l12:List Int)(x13:Int)(x14:Int),kq16≤k∧Env 42 G a∧At G [(0,.slice A0_0 x0_.length c0_0),(1,.func (.func 126) #[] #[.pointer (pb p1c0_)]),(5,iv x13),(6,iv x14)]∧St W N F w' F [row ki 3 (.slice A0_0 x0_.length c0_0) l12]∧qe.l15 kq16 x0_ x1c0_ l12 x13 x14=some r) k ⟨_,x0_,t4,(w64 (t4+1)),Nat.le_refl _,hE,.of,hS,H⟩ ?_
 rintro kq16 a u18 ⟨G,l12,x13,x14,hkq,hE,hA,hS,H⟩
 obtain _ | k17:=kq16
 ·
  exact zz H
 rw [qe.l15_s]at H
 obtain ⟨J,hE⟩:=hE.at hA
 refine sq fun K19 hK19=>rr hE fun a hE=>?_
 refine hE.ik 19 H (fun c21 hE H=>?_) fun c21 hE H=>?_
 ·
  refine wp_skip (hK19 _ _ (sq fun K22 hK22=>wp_block (sq fun K23 hK23=>pl0 ?_)))
  obtain ⟨c24,H⟩:=gd H
  have hr25:=hS.ra 0
  have c26:0≤x14∧x14<(l12.length:Int):=by rw [← (qCH hr25).1]; exact c24
  have hE_:=hE
  obtain ⟨b27,rfl⟩:=qCK hr25 c26.1 c26.2
  replace hE:=hE_
  have hr_:=hS.ra 0
  obtain ⟨cs29,rfl,hc30⟩:=qCI hr_ 0 x14 c26.1 c26.2
  refine plc hE (.r 0 2<|.x 2 c24<|.c 3 (hc30 0 _ rfl)<|.r 4 1<|.nil) (fun a hE=>pld (hK23 _ _ (sq fun K31 hK31=>pl0 (plc hE (.r 0 2 .nil) (fun a hE=>?_)))))
  obtain ⟨t33,h34,H⟩:=bd H
  refine ple hE (.cl en126 (qBc.calls k17 (nth 0 l12 x14) x1c0_ _ _ _ _ _ _ _ _ _ _ hS.own.sub g1c0_4 g1c0_5 g1c0_6 hp1c0_ h34)) ?_
  rintro _ u32 a ⟨_,rfl,hC⟩ hE
  replace hS:=hS.lent hC
  refine plc hE (.r 3 1 .nil) (fun a hE=>pld (hK31 _ _ ?_))
  refine hE.ibn 29 H (fun c35 hE H=>?_) fun c35 hE H=>?_
  ·
   refine wp_skip ?_
   refine qCF ?_
   refine hK22 _ _ (pl0 (plc hE (.r 0 3 .nil) (fun a hE=>pld ?_)))
   exact qCG ⟨k17,by omega,_,l12,x13,(w64 (x14+1)),by omega,hE,.of,hS,H⟩
  refine sq fun K36 hK36=>pl0 ?_
  obtain ⟨c37,H⟩:=gd H
  have hr38:=hS.ra 0
  have c39:0≤x13∧x13<(l12.length:Int):=by rw [← (qCH hr38).1]; exact c37
  have hr_:=hS.ra 0
  obtain ⟨cs41,rfl,hc42⟩:=qCI hr_ 0 x13 c39.1 c39.2
  refine plc hE (.r 0 3<|.x 3 c37<|.nil) (fun a hE=>?_)
  obtain ⟨cs44,rfl,hc45⟩:=qCI (hS.row_at (i:=0) rfl) 0 x13 c39.1 c39.2
  refine ple hE (.set (d:=ki) (n:=x0_.length) (i:=x13) (nth 0 l12 x14) (0) (ea0 _ _) hS c39 [iv (nth 0 l12 x13)] hc45 [iv (nth 0 l12 x14)] rfl) ?_
  rintro _ u43 a ⟨rfl,hS,hz⟩ hE
  refine pld (hK36 _ _ (pl0 (plc hE (.r 0 3 .nil) (fun a hE=>pld ?_))))
  refine qCF ?_
  refine hK22 _ _ (pl0 (plc hE (.r 0 3 .nil) (fun a hE=>pld ?_)))
  exact qCG ⟨k17,by omega,_,(l12.set (x13).toNat (nth 0 l12 x14)),(w64 (x13+1)),(w64 (x14+1)),by omega,hE,.of,hS,H⟩
 refine wp_exit ?_
 refine hK10 _ _ (sq fun K46 hK46=>pl0 ?_)
 obtain ⟨c47,H⟩:=gd H
 obtain ⟨A48,c49,hA50,hv51⟩:=y_suf (P:=Tryz.prog) (k:=.i64) (hS.row_at (i:=0) rfl) c47
 refine plc hE (.r 0 2<|.y 2 (hv51 (by kernel_rfl))<|.nil) (fun a hE=>ple hE (.clr (d:=ki) (n:=x0_.length) (c':=c49) (lo:=x13) 8 0 hS c47 hA50 (by rw [zr3]; exact rfl)) ?_)
 rintro _ u52 a ⟨rfl,hS,hz⟩ hE
 refine pld (hK46 _ _ (sq fun K53 hK53=>pl0 ?_))
 have hv54:=hS.ra 0
 replace hS:=hS.shrink c47
 refine plc hE (.r 0 2<|.y 2 (y_pre (k:=.i64) hv54 c47)<|.r 3 1<|.nil) (fun a hE=>pld (hK53 _ _ (wp_ret ?_)))
 rw [hN]at hS
 obtain rfl:=si H
 exact rt1 hE ⟨_,rfl,_,_,_,rfl,hS⟩
def qBs.f(k:Nat)(x0_:qJ)(x1_:List Int):Option (List Int):=(qe.f k x1_ x0_).bind fun t8=>(some t8)
def qBs.Post(x0_:qJ)(x1_:List Int)(A0_4:Option Addr)(c0_4:Nat)(A0_5:Option Addr)(c0_5:Nat)(A0_6:Option Addr)(c0_6:Nat)(A1_0:Option Addr)(c1_0:Nat)(W F:World)(r:List Int)(v:Value)(w':World):Prop:=∃(F':World)(RA0_0:Option Addr)(rc0_0:Nat),v = .slice RA0_0 r.length rc0_0∧St W (mine W [row ki 3 (.slice A1_0 x1_.length c1_0) x1_]) F w' F' [row ki 3 (.slice RA0_0 r.length rc0_0) r]
theorem qBs.calls(k:Nat)(x0_:qJ)(x1_:List Int)(A0_4:Option Addr)(c0_4:Nat)(A0_5:Option Addr)(c0_5:Nat)(A0_6:Option Addr)(c0_6:Nat)(A1_0:Option Addr)(c1_0:Nat)(r:List Int)(W F:World)(hown:Own W F [row ki 3 (.slice A1_0 x1_.length c1_0) x1_])(g0_4:Rd qA.k F A0_4 c0_4 x0_.f4)(g0_5:Rd qM.k F A0_5 c0_5 x0_.f5)(g0_6:Rd qF.k F A0_6 c0_6 x0_.f6)(H:qBs.f k x0_ x1_=some r):
    Calls Tryz.prog 74 #[.agg #[iv x0_.f0,iv x0_.f1,iv x0_.f2,iv x0_.f3,.slice A0_4 x0_.f4.length c0_4,.slice A0_5 x0_.f5.length c0_5,.slice A0_6 x0_.f6.length c0_6],.slice A1_0 x1_.length c1_0] W fun e w'=>∃ v,e = .returned v∧qBs.Post x0_ x1_ A0_4 c0_4 A0_5 c0_5 A0_6 c0_6 A1_0 c1_0 W F r v w':=by
 have hS:=St.start hown
 obtain ⟨N,hN⟩:∃ N,N=mine W [row ki 3 (.slice A1_0 x1_.length c1_0) x1_]:=⟨_,rfl⟩
 rw [← hN]at hS
 unfold qBs.f at H
 refine enter (n:=8) rfl rfl rfl (Nat.le_of_ble_eq_true rfl) (fun a hE=>?_)
 refine sq fun K1 hK1=>pl0 (ple hE (.bx (t:=26) hS [iv x0_.f0,iv x0_.f1,iv x0_.f2,iv x0_.f3,.slice A0_4 x0_.f4.length c0_4,.slice A0_5 x0_.f5.length c0_5,.slice A0_6 x0_.f6.length c0_6]) ?_)
 rintro _ u3 a ⟨b2,rfl,hb2,hS,hg⟩ hE
 refine plc hE (.r 1 1 .nil) (fun a hE=>pld (hK1 _ _ (sq fun K4 hK4=>pl0 (plc hE (.r 0 2 .nil) (fun a hE=>?_)))))
 obtain ⟨F5,hs,g6,hS⟩:=hS.giveb
 replace g0_4:=g0_4.mono hs
 replace g0_5:=g0_5.mono hs
 replace g0_6:=g0_6.mono hs
 obtain ⟨t8,h9,H⟩:=bd H
 refine ple hE (.cl en125 (qe.calls k x1_ x0_ _ _ _ _ _ _ _ _ _ _ _ _ (Own.left (X:=[row ki 3 (.slice A1_0 x1_.length c1_0) x1_]) hS.own) g0_4 g0_5 g0_6 g6 h9)) ?_
 rintro _ u7 a ⟨F10,A11,c12,rfl,hC⟩ hE
 have hs:=hC.sub
 replace hS:=hS.called (X:=[row ki 3 (.slice A1_0 x1_.length c1_0) x1_]) hC
 replace g0_4:=g0_4.mono hs
 replace g0_5:=g0_5.mono hs
 replace g0_6:=g0_6.mono hs
 replace g6:=hs _ _ _ _ g6
 refine plc hE (.r 3 1 .nil) (fun a hE=>pld (hK4 _ _ (wp_ret ?_)))
 rw [hN]at hS
 obtain rfl:=si H
 exact rt1 hE ⟨_,rfl,_,_,_,rfl,hS⟩
def qBE.l20:Nat→qJ→qJ→List qF→List qF→Int→Option (List qF)
 | 0,_,_,_,_,_=>none
 | k+1,x0_,x1_,t8,l17,x18=>if x18<(t8.length:Int) then (if 0≤x18∧x18<(t8.length:Int) then ((qBq.f k x0_ x18).bind fun t44=>((qBs.f k x0_ t44).bind fun t52=>((qBq.f k x1_ x18).bind fun t62=>((qBs.f k x1_ t62).bind fun t70=>((qAB.f k t52 t70).bind fun t78=>(if t78=true then (qBE.l20 k x0_ x1_ t8 l17 (w64 (x18+1))) else (if (t52.length:Int)≥x0_.f2 then (none) else (qBE.l20 k x0_ x1_ t8 (l17.set (x18).toNat (⟨(w64 (x0_.f0+1)),(nth qF.z l17 x18).f1⟩:qF)) (w64 (x18+1)))))))))) else (none)) else (some l17)
theorem qBE.l20_s k x0_ x1_ t8 l17 x18:type_of% (qBE.l20.eq_2 x0_ x1_ t8 l17 x18 k):=qBE.l20.eq_2 x0_ x1_ t8 l17 x18 k
def qBE.f(k:Nat)(x0_:qJ)(x1_:qJ):Option (List qF):=(qAX.f x1_.f6).bind fun t8=>(qBE.l20 k x0_ x1_ t8 t8 0)
def qBE.Post(W F:World)(r:List qF)(v:Value)(w':World):Prop:=∃(F':World)(RA0_0:Option Addr)(rc0_0:Nat),v = .slice RA0_0 r.length rc0_0∧St W (mine W []) F w' F' [row qF.k 49 (.slice RA0_0 r.length rc0_0) r]
theorem qBE.calls(k:Nat)(x0_:qJ)(x1_:qJ)(A0_4:Option Addr)(c0_4:Nat)(A0_5:Option Addr)(c0_5:Nat)(A0_6:Option Addr)(c0_6:Nat)(A1_4:Option Addr)(c1_4:Nat)(A1_5:Option Addr)(c1_5:Nat)(A1_6:Option Addr)(c1_6:Nat)(r:List qF)(W F:World)(hown:Sub F W)(g0_4:Rd qA.k F A0_4 c0_4 x0_.f4)(g0_5:Rd qM.k F A0_5 c0_5 x0_.f5)(g0_6:Rd qF.k F A0_6 c0_6 x0_.f6)(g1_4:Rd qA.k F A1_4 c1_4 x1_.f4)(g1_5:Rd qM.k F A1_5 c1_5 x1_.f5)(g1_6:Rd qF.k F A1_6 c1_6 x1_.f6)(H:qBE.f k x0_ x1_=some r):
    Calls Tryz.prog 79 #[.agg #[iv x0_.f0,iv x0_.f1,iv x0_.f2,iv x0_.f3,.slice A0_4 x0_.f4.length c0_4,.slice A0_5 x0_.f5.length c0_5,.slice A0_6 x0_.f6.length c0_6],.agg #[iv x1_.f0,iv x1_.f1,iv x1_.f2,iv x1_.f3,.slice A1_4 x1_.f4.length c1_4,.slice A1_5 x1_.f5.length c1_5,.slice A1_6 x1_.f6.length c1_6]] W fun e w'=>∃ v,e = .returned v∧qBE.Post W F r v w':=by
 have hS:=St.start (Own.nil hown)
 unfold qBE.f at H
 refine enter (n:=65) rfl rfl rfl (Nat.le_of_ble_eq_true rfl) (fun a hE=>?_)
 refine sq fun K1 hK1=>pl0 (ple hE (.bx (t:=26) hS [iv x0_.f0,iv x0_.f1,iv x0_.f2,iv x0_.f3,.slice A0_4 x0_.f4.length c0_4,.slice A0_5 x0_.f5.length c0_5,.slice A0_6 x0_.f6.length c0_6]) ?_)
 rintro _ u3 a ⟨b2,rfl,hb2,hS,hg⟩ hE
 refine ple hE (.bx (t:=26) hS [iv x1_.f0,iv x1_.f1,iv x1_.f2,iv x1_.f3,.slice A1_4 x1_.f4.length c1_4,.slice A1_5 x1_.f5.length c1_5,.slice A1_6 x1_.f6.length c1_6]) ?_
 rintro _ u5 a ⟨b4,rfl,hb4,hS,hg⟩ hE
 refine plc hE (.r 2 1 .nil) (fun a hE=>pld (hK1 _ _ (sq fun K6 hK6=>pl0 (plc hE (.r 0 1<|.b 1 6 hb4<|.nil) (fun a hE=>?_)))))
 obtain ⟨t8,h9,H⟩:=bd H
 refine ple hE (.cl en130 (qAX.calls x1_.f6 _ _ _ _ _ hS.own.sub g1_6 h9)) ?_
 rintro _ u7 a ⟨F10,A11,c12,rfl,hC⟩ hE
 have hs:=hC.sub
 replace hS:=hS.called (X:=[]) hC
 replace g0_4:=g0_4.mono hs
 replace g0_5:=g0_5.mono hs
 replace g0_6:=g0_6.mono hs
 replace g1_4:=g1_4.mono hs
 replace g1_5:=g1_5.mono hs
 replace g1_6:=g1_6.mono hs
 refine plc hE (.r 3 1 .nil) (fun a hE=>pld (hK6 _ _ (sq fun K15 hK15=>rr hE fun a hE=>(wp_block ?_))))
 replace hS:=hS.pm [1,2,0] 3
 refine wp_loop_ghost (fun kq21 a w'=>∃(G:Nat→Value)(l17:List qF)(x18:Int)(F19:World),kq21≤k∧Env 65 G a∧At G [(2,.pointer (pb b2)),(3,.pointer (pb b4)),(5,.slice A11 t8.length c12),(13,.slice A11 t8.length c12),(14,iv (t8.length:Int)),(15,iv x18)]∧St W (mine W []) F w' F19 [box b4 #[iv x1_.f0,iv x1_.f1,iv x1_.f2,iv x1_.f3,.slice A1_4 x1_.f4.length c1_4,.slice A1_5 x1_.f5.length c1_5,.slice A1_6 x1_.f6.length c1_6] 26,box b2 #[iv x0_.f0,iv x0_.f1,iv x0_.f2,iv x0_.f3,.slice A0_4 x0_.f4.length c0_4,.slice A0_5 x0_.f5.length c0_5,.slice A0_6 x0_.f6.length c0_6] 26,row qF.k 49 (.slice A11 t8.length c12) l17]∧Rd qA.k F19 A1_4 c1_4 x1_.f4∧Rd qM.k F19 A1_5 c1_5 x1_.f5∧Rd qF.k F19 A1_6 c1_6 x1_.f6∧Rd qA.k F19 A0_4 c0_4 x0_.f4∧Rd qM.k F19 A0_5 c0_5 x0_.f5∧Rd qF.k F19 A0_6 c0_6 x0_.f6∧qBE.l20 kq21 x0_ x1_ t8 l17 x18=some r) k ⟨_,t8,0,F10,Nat.le_refl _,hE,.of,hS,g1_4,g1_5,g1_6,g0_4,g0_5,g0_6,H⟩ ?_
 rintro kq21 a u23 ⟨G,l17,x18,F19,hkq,hE,hA,hS,g1_4,g1_5,g1_6,g0_4,g0_5,g0_6,H⟩
 obtain _ | k22:=kq21
 ·
  exact zz H
 rw [qBE.l20_s]at H
 obtain ⟨J,hE⟩:=hE.at hA
 refine rr hE fun a hE=>(sq fun K25 hK25=>?_)
 refine hE.ik 16 H (fun c26 hE H=>?_) fun c26 hE H=>?_
 ·
  refine wp_skip (hK25 _ _ (sq fun K27 hK27=>wp_block (sq fun K28 hK28=>pl0 ?_)))
  obtain ⟨c29,H⟩:=gd H
  have hr30:=hS.ra 2
  have c31:0≤x18∧x18<(l17.length:Int):=by rw [← (qCH hr30).1]; exact c29
  have hE_:=hE
  obtain ⟨b32,rfl⟩:=qCK hr30 c31.1 c31.2
  replace hE:=hE_
  have hr_:=hS.ra 2
  obtain ⟨cs34,⟨A36,c37,rfl,g38⟩,hc35⟩:=qCI hr_ qF.z x18 c31.1 c31.2
  refine plc hE (.r 0 1<|.x 1 c29<|.cs 2 hc35<|.nil) (fun a hE=>ple hE (.al (t:=49) hS [iv 0,.slice none 0 0]) ?_)
  rintro _ u40 a ⟨b39,rfl,hb39,hS,hg⟩ hE
  refine plc hE (.r 4 1 .nil) (fun a hE=>ple hE (.sto hS [iv ((nth qF.z l17 x18).f0),.slice A36 (((nth qF.z l17 x18).f1).length) c37]) ?_)
  rintro _ u41 a ⟨rfl,hb39,hS,hz⟩ hE
  refine pld (hK28 _ _ (sq fun K42 hK42=>?_))
  refine drawn 6 ⟨[4],[],fun q=>False⟩ mixed rfl (by kernel_rfl) (fun hst=>?_)
  replace hS:=hS.drew
  have hb2:=hS.ba 2
  refine mny 3 hst hE (.bn 0 0 7 hb2<|.bn 1 0 7 hb2<|.r 2 1<|.nil) (fun a hE=>?_)
  obtain ⟨t44,h45,H⟩:=bd H
  refine on1 3 hE (.cl en71 (qBq.calls k22 x0_ x18 _ _ _ _ _ _ _ _ _ hS.own.sub g0_4 g0_5 g0_6 h45)) ?_
  rintro _ u43 a ⟨F46,A47,c48,rfl,hC⟩ hE
  refine ⟨.of hC.agr,?_⟩
  have hs:=hC.sub
  replace hS:=hS.called (X:=[]) hC
  replace g38:=g38.mono hs
  replace g0_4:=g0_4.mono hs
  replace g0_5:=g0_5.mono hs
  replace g0_6:=g0_6.mono hs
  replace g1_4:=g1_4.mono hs
  replace g1_5:=g1_5.mono hs
  replace g1_6:=g1_6.mono hs
  obtain ⟨t52,h53,H⟩:=bd H
  refine on1 4 hE (.cl en74 (qBs.calls k22 x0_ t44 _ _ _ _ _ _ _ _ _ _ _ (Own.left (X:=[row ki 3 (.slice A47 t44.length c48) t44]) hS.own) g0_4 g0_5 g0_6 h53)) ?_
  rintro _ u51 a ⟨F54,A55,c56,rfl,hC⟩ hE
  refine ⟨.d,?_⟩
  have hs:=hC.sub
  replace hS:=hS.called (X:=[row ki 3 (.slice A47 t44.length c48) t44]) hC
  replace g38:=g38.mono hs
  replace g0_4:=g0_4.mono hs
  replace g0_5:=g0_5.mono hs
  replace g0_6:=g0_6.mono hs
  replace g1_4:=g1_4.mono hs
  replace g1_5:=g1_5.mono hs
  replace g1_6:=g1_6.mono hs
  refine mny 0 hst hE (.r 5 1 .nil) (fun a hE=>?_)
  refine dn ?_
  refine hK42 _ _ (sq fun K59 hK59=>sq fun K60 hK60=>?_)
  refine drawn 7 ⟨[5],[],fun q=>False⟩ mixed rfl (by kernel_rfl) (fun hst=>?_)
  replace hS:=hS.drew
  have hb4:=hS.ba 2
  refine mny 3 hst hE (.r 0 1<|.bn 1 0 7 hb4<|.bn 2 0 7 hb4<|.r 3 1<|.nil) (fun a hE=>?_)
  obtain ⟨t62,h63,H⟩:=bd H
  refine on1 4 hE (.cl en71 (qBq.calls k22 x1_ x18 _ _ _ _ _ _ _ _ _ hS.own.sub g1_4 g1_5 g1_6 h63)) ?_
  rintro _ u61 a ⟨F64,A65,c66,rfl,hC⟩ hE
  refine ⟨.of hC.agr,?_⟩
  have hs:=hC.sub
  replace hS:=hS.called (X:=[]) hC
  replace g38:=g38.mono hs
  replace g0_4:=g0_4.mono hs
  replace g0_5:=g0_5.mono hs
  replace g0_6:=g0_6.mono hs
  replace g1_4:=g1_4.mono hs
  replace g1_5:=g1_5.mono hs
  replace g1_6:=g1_6.mono hs
  obtain ⟨t70,h71,H⟩:=bd H
  refine on1 5 hE (.cl en74 (qBs.calls k22 x1_ t62 _ _ _ _ _ _ _ _ _ _ _ (Own.left (X:=[row ki 3 (.slice A65 t62.length c66) t62]) hS.own) g1_4 g1_5 g1_6 h71)) ?_
  rintro _ u69 a ⟨F72,A73,c74,rfl,hC⟩ hE
  refine ⟨.d,?_⟩
  have hs:=hC.sub
  replace hS:=hS.called (X:=[row ki 3 (.slice A65 t62.length c66) t62]) hC
  replace g38:=g38.mono hs
  replace g0_4:=g0_4.mono hs
  replace g0_5:=g0_5.mono hs
  replace g0_6:=g0_6.mono hs
  replace g1_4:=g1_4.mono hs
  replace g1_5:=g1_5.mono hs
  replace g1_6:=g1_6.mono hs
  obtain ⟨t78,h79,H⟩:=bd H
  refine on1 6 hE (.cl en90 (qAB.calls k22 t52 t70 _ _ _ _ _ _ _ (Sub.refl _) (hS.rd_at (i:=1) rfl) (hS.rd_at (i:=0) rfl) h79)) ?_
  rintro _ u77 a ⟨_,rfl,hC⟩ hE
  refine ⟨.of hC.agr,?_⟩
  replace hS:=hS.lent hC
  refine dn ?_
  refine hK60 _ _ ?_
  refine hE.ib 31 H (fun c80 hE H=>?_) fun c80 hE H=>?_
  ·
   refine wp_exit ?_
   refine hK27 _ _ (pl0 (plc hE (.r 0 2 .nil) (fun a hE=>pld ?_)))
   replace hS:=hS.pm [] 3
   exact qCG ⟨k22,by omega,_,l17,(w64 (x18+1)),F72,by omega,hE,.of,hS,g1_4,g1_5,g1_6,g0_4,g0_5,g0_6,H⟩
  refine wp_skip (hK59 _ _ (sq fun K81 hK81=>sq fun K82 hK82=>pl0 ?_))
  have hb2:=hS.ba 4
  refine plc hE (.r 0 3<|.b 3 2 hb2<|.r 4 1<|.nil) (fun a hE=>pld (hK82 _ _ ?_))
  refine hE.ik 36 H (fun c83 hE H=>?_) fun c83 hE H=>?_
  ·
   refine sq fun K84 hK84=>?_
   refine drawn 8 ⟨[7],[],fun q=>False⟩ mixed rfl (by kernel_rfl) (fun hst=>?_)
   replace hS:=hS.drew
   have hb39:=hS.ba 2
   refine mny 5 hst hE (.r 0 1<|.b 1 0 hb39<|.r 2 1<|.nil) (fun a hE=>?_)
   exact zz H
  refine wp_skip (hK81 _ _ (sq fun K85 hK85=>pl0 (plc hE (.r 0 1<|.b 1 0 hb2<|.r 2 2<|.nil) (fun a hE=>?_))))
  replace hS:=hS.front 2 rfl
  refine ple hE (.sto hS [iv (w64 (x0_.f0+1)),.slice A36 (((nth qF.z l17 x18).f1).length) c37]) ?_
  rintro _ u86 a ⟨rfl,hb39,hS,hz⟩ hE
  refine pld (hK85 _ _ (pl0 ?_))
  have hr87:=hS.ra 5
  have c88:0≤x18∧x18<(l17.length:Int):=by rw [← (qCH hr87).1]; exact c29
  have hr_:=hS.ra 5
  obtain ⟨cs90,⟨A92,c93,rfl,g94⟩,hc91⟩:=qCI hr_ qF.z x18 c88.1 c88.2
  refine plc hE (.r 0 2<|.bn 2 0 2 hb39<|.x 3 c29<|.nil) (fun a hE=>?_)
  replace hS:=hS.front 5 rfl
  obtain ⟨cs99,⟨A96,c97,rfl,g98⟩,hc100⟩:=qCI (hS.row_at (i:=0) rfl) qF.z x18 c88.1 c88.2
  refine ple hE (.set (d:=qF.k) (n:=t8.length) (i:=x18) (⟨(w64 (x0_.f0+1)),(nth qF.z l17 x18).f1⟩:qF) (0) (ea0 _ _) hS c88 [iv ((nth qF.z l17 x18).f0),.slice A96 (((nth qF.z l17 x18).f1).length) c97] hc100 [iv (w64 (x0_.f0+1)),.slice A36 (((nth qF.z l17 x18).f1).length) c37] ⟨_,_,rfl,g38⟩) ?_
  rintro _ u95 a ⟨rfl,hS,hz⟩ hE
  refine pld ?_
  refine qCF ?_
  refine hK27 _ _ (pl0 (plc hE (.r 0 2 .nil) (fun a hE=>pld ?_)))
  replace hS:=hS.pm [4,5,0] 6
  exact qCG ⟨k22,by omega,_,(l17.set (x18).toNat (⟨(w64 (x0_.f0+1)),(nth qF.z l17 x18).f1⟩:qF)),(w64 (x18+1)),F72,by omega,hE,.of,hS,g1_4,g1_5,g1_6,g0_4,g0_5,g0_6,H⟩
 refine wp_exit ?_
 refine hK15 _ _ (rr hE fun a hE=>(wp_ret ?_))
 have hn102:=(qCH (hS.row_at (i:=2) rfl)).1
 replace hE:=hE.set (d:=4) (v:=.slice A11 l17.length c12) (Eq.trans (b:=.slice A11 t8.length c12) (by kernel_rfl) (by rw [← hn102]))
 replace hS:St W (mine W []) F u23 F19 [box b4 #[iv x1_.f0,iv x1_.f1,iv x1_.f2,iv x1_.f3,.slice A1_4 x1_.f4.length c1_4,.slice A1_5 x1_.f5.length c1_5,.slice A1_6 x1_.f6.length c1_6] 26,box b2 #[iv x0_.f0,iv x0_.f1,iv x0_.f2,iv x0_.f3,.slice A0_4 x0_.f4.length c0_4,.slice A0_5 x0_.f5.length c0_5,.slice A0_6 x0_.f6.length c0_6] 26,row qF.k 49 (.slice A11 l17.length c12) l17]:=by rw [← hn102]; exact hS
 replace hS:=hS.pm [] 2
 obtain rfl:=si H
 exact rt1 hE ⟨_,rfl,_,_,_,rfl,hS⟩
end Go.Proofs.YtpohepinmjmbkaaGreat.QD
