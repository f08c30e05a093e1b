import Derived.Test.YtpohepinmjmbkaaGreatQD7
namespace Go.Proofs.YtpohepinmjmbkaaGreat.QD
open Go Go.RowKit Go.Proofs.YtpohepinmjmbkaaGreat.Sl
set_option linter.unusedVariables false
set_option linter.unusedSimpArgs false
set_option maxHeartbeats 4000000
set_option maxRecDepth 100000
def qAJ.l24:Nat→qJ→List Int→List Int→Int→Option (List Int)
 | 0,_,_,_,_=>none
 | k+1,x0_,t6,l22,x23=>if x23<(t6.length:Int) then (if 0≤x23∧x23<(t6.length:Int) then ((qAA.f k x0_.f4 (nth 0 t6 x23)).bind fun t38=>(if t38.1.f4=true then (if ((l22.length:Int)+((1:Nat):Int)) * 8≤140737488355328 then (qAJ.l24 k x0_ t6 (l22++[(nth 0 t6 x23)]) (w64 (x23+1))) else (none)) else (qAJ.l24 k x0_ t6 l22 (w64 (x23+1))))) else (none)) else (some l22)
theorem qAJ.l24_s k x0_ t6 l22 x23:type_of% (qAJ.l24.eq_2 x0_ t6 l22 x23 k):=qAJ.l24.eq_2 x0_ t6 l22 x23 k
def qAJ.f(k:Nat)(x0_:qJ)(x1_:Int):Option (List Int):=(qAV.f k x0_ x1_).bind fun t6=>(qAJ.l24 k x0_ t6 ([]:List Int) 0)
def qAJ.Post(W F:World)(r:List Int)(v:Value)(w':World):Prop:=∃(F':World)(RA0_0:Option Addr)(rc0_0:Nat),v = .slice RA0_0 r.length rc0_0∧St W (mine W []) F w' F' [row ki 3 (.slice RA0_0 r.length rc0_0) r]
theorem qAJ.calls(k:Nat)(x0_:qJ)(x1_:Int)(A0_4:Option Addr)(c0_4:Nat)(A0_5:Option Addr)(c0_5:Nat)(A0_6:Option Addr)(c0_6:Nat)(r:List Int)(W F:World)(hown:Sub F W)(g0_4:Rd qA.k F A0_4 c0_4 x0_.f4)(g0_5:Rd qM.k F A0_5 c0_5 x0_.f5)(g0_6:Rd qF.k F A0_6 c0_6 x0_.f6)(H:qAJ.f k x0_ x1_=some r):
    Calls Tryz.prog 25 #[.agg #[iv x0_.f0,iv x0_.f1,iv x0_.f2,iv x0_.f3,.slice A0_4 x0_.f4.length c0_4,.slice A0_5 x0_.f5.length c0_5,.slice A0_6 x0_.f6.length c0_6],iv x1_] W fun e w'=>∃ v,e = .returned v∧qAJ.Post W F r v w':=by
 have hS:=St.start (Own.nil hown)
 unfold qAJ.f at H
 refine enter (n:=40) rfl rfl rfl (Nat.le_of_ble_eq_true rfl) (fun a hE=>?_)
 refine sq fun K1 hK1=>pl0 (ple hE (.bx (t:=26) hS [iv x0_.f0,iv x0_.f1,iv x0_.f2,iv x0_.f3,.slice A0_4 x0_.f4.length c0_4,.slice A0_5 x0_.f5.length c0_5,.slice A0_6 x0_.f6.length c0_6]) ?_)
 rintro _ u3 a ⟨b2,rfl,hb2,hS,hg⟩ hE
 refine plc hE (.r 1 1 .nil) (fun a hE=>pld (hK1 _ _ (sq fun K4 hK4=>pl0 (plc hE (.bn 0 0 7 hb2<|.r 1 1<|.nil) (fun a hE=>?_)))))
 obtain ⟨t6,h7,H⟩:=bd H
 refine ple hE (.cl en23 (qAV.calls k x0_ x1_ _ _ _ _ _ _ _ _ _ hS.own.sub g0_4 g0_5 g0_6 h7)) ?_
 rintro _ u5 a ⟨F8,A9,c10,rfl,hC,g11⟩ hE
 have hs:=hC.sub
 replace hS:=hS.called (X:=[]) hC
 replace g0_4:=g0_4.mono hs
 replace g0_5:=g0_5.mono hs
 replace g0_6:=g0_6.mono hs
 refine plc hE (.r 3 1 .nil) (fun a hE=>pld (hK4 _ _ (sq fun K12 hK12=>pl0 (ple hE (.lit (d:=ki) (e:=3) hS ([]:List Int) (.nil)) ?_))))
 rintro _ u13 a ⟨A14,c15,rfl,hS,hg⟩ hE
 refine plc hE (.r 1 1 .nil) (fun a hE=>pld (hK12 _ _ (sq fun K17 hK17=>rr hE fun a hE=>(wp_block ?_))))
 replace hS:=hS.front 1 rfl
 refine wp_loop_ghost (fun kq25 a w'=>∃(G:Nat→Value)(A20:Option Addr)(c21:Nat)(l22:List Int)(x23:Int),kq25≤k∧Env 40 G a∧At G [(2,.pointer (pb b2)),(5,.slice A9 t6.length c10),(6,.slice A20 l22.length c21),(7,iv x23)]∧St W (mine W []) F w' F8 [box b2 #[iv x0_.f0,iv x0_.f1,iv x0_.f2,iv x0_.f3,.slice A0_4 x0_.f4.length c0_4,.slice A0_5 x0_.f5.length c0_5,.slice A0_6 x0_.f6.length c0_6] 26,row ki 3 (.slice A20 l22.length c21) l22]∧qAJ.l24 kq25 x0_ t6 l22 x23=some r) k ⟨_,A14,c15,([]:List Int),0,Nat.le_refl _,hE,.of,hS,H⟩ ?_
 rintro kq25 a u27 ⟨G,A20,c21,l22,x23,hkq,hE,hA,hS,H⟩
 obtain _ | k26:=kq25
 ·
  exact zz H
 rw [qAJ.l24_s]at H
 obtain ⟨J,hE⟩:=hE.at hA
 refine sq fun K28 hK28=>rr hE fun a hE=>?_
 refine hE.ik 17 H (fun c30 hE H=>?_) fun c30 hE H=>?_
 ·
  refine wp_skip (hK28 _ _ (sq fun K31 hK31=>wp_block (sq fun K32 hK32=>?_)))
  refine drawn 13 ⟨[11],[],fun q=>False⟩ mixed rfl (by kernel_rfl) (fun hst=>?_)
  replace hS:=hS.drew
  have hb2:=hS.ba 0
  obtain ⟨c33,H⟩:=gd H
  have hE_:=hE
  obtain ⟨ad34,rfl⟩:=g11.addr c33.1 c33.2
  replace hE:=hE_
  obtain ⟨cs36,rfl,hc37⟩:=g11.el 0 x23 c33.1 c33.2
  refine mny 7 hst hE (.r 0 1<|.b 1 4 hb2<|.r 2 2<|.x 4 c33<|.c 5 (hS.fc hc37 0)<|.nil) (fun a hE=>?_)
  obtain ⟨t38,h39,H⟩:=bd H
  refine meet2 (fun a w'=>∃(G:Nat→Value)(b41:Nat),Env 40 G a∧At G [(2,.pointer (pb b2)),(5,.slice (some ad34) t6.length c10),(6,.slice A20 l22.length c21),(7,iv x23),(8,.pointer (pb b41)),(28,.agg #[iv t38.1.f0,iv t38.1.f1,iv t38.1.f2,iv t38.1.f3,.bool t38.1.f4,.bool t38.1.f5]),(29,.bool t38.2)]∧St W (mine W []) F w' F8 [box b41 #[iv 0,iv 0,iv 0,iv 0,.bool false,.bool false] 104,box b2 #[iv x0_.f0,iv x0_.f1,iv x0_.f2,iv x0_.f3,.slice A0_4 x0_.f4.length c0_4,.slice A0_5 x0_.f5.length c0_5,.slice A0_6 x0_.f6.length c0_6] 26,row ki 3 (.slice A20 l22.length c21) l22]) 2 2047 ?_ (fun hJ=>?_)
  ·
   rintro a u44 ⟨G,b41,hE,hA,hS⟩
   obtain ⟨J,hE⟩:=hE.at hA
   refine on1 11 hE (.sto hS [iv t38.1.f0,iv t38.1.f1,iv t38.1.f2,iv t38.1.f3,.bool t38.1.f4,.bool t38.1.f5]) ?_
   rintro _ u45 a ⟨rfl,hb41,hS,hz⟩ hE
   refine ⟨.d,?_⟩
   refine mny 0 hst hE (.r 12 1 .nil) (fun a hE=>?_)
   refine dn ?_
   refine hK32 _ _ (rg hE (.r 0 1<|.b 1 4 hb41<|.nil) fun a hE=>?_)
   refine hE.ib 31 H (fun c47 hE H=>?_) fun c47 hE H=>?_
   ·
    refine pl0 ?_
    obtain ⟨cs49,rfl,hc50⟩:=g11.el 0 x23 c33.1 c33.2
    refine plc hE (.r 0 3<|.x 3 c33<|.c 4 (hS.fc hc50 0)<|.nil) (fun a hE=>ple hE (.lit (d:=ki) (e:=3) hS [(nth 0 t6 x23)] (.cons rfl .nil)) ?_)
    rintro _ u51 a ⟨A52,c53,rfl,hS,hg⟩ hE
    obtain ⟨c55,H⟩:=gd H
    replace hS:=hS.front 3 rfl
    refine ple hE (.ap (d:=ki) 8 hS (qCO (hS.row_at (i:=1) rfl)) c55 c53) ?_
    rintro _ u58 a ⟨A56,c57,rfl,hS,hz⟩ hE
    refine plc hE (.r 7 1 .nil) (fun a hE=>pld ?_)
    refine qCF ?_
    refine hK31 _ _ (pl0 (plc hE (.r 0 3 .nil) (fun a hE=>pld ?_)))
    replace hS:=hS.pm [3,0] 4
    exact qCG ⟨k26,by omega,_,A56,c57,(l22++[(nth 0 t6 x23)]),(w64 (x23+1)),by omega,hE,.of,hS,H⟩
   refine wp_skip ?_
   refine qCF ?_
   refine hK31 _ _ (pl0 (plc hE (.r 0 3 .nil) (fun a hE=>pld ?_)))
   replace hS:=hS.tail
   exact qCG ⟨k26,by omega,_,A20,c21,l22,(w64 (x23+1)),by omega,hE,.of,hS,H⟩
  refine pk2 6 10 ?_ ?_
  ·
   refine pk1 6 hE (.cl en75 (qAA.calls k26 x0_.f4 (nth 0 t6 x23) _ _ _ _ _ hS.own.sub g0_4 h39)) ?_
   rintro _ u40 a ⟨_,rfl,hC⟩ hE
   refine ⟨.of hC.agr,?_⟩
   replace hS:=hS.lent hC
   refine mny 3 hst hE (.r 7 3 .nil) (fun a hE=>?_)
   refine on1 10 hE (.al (t:=104) hS [iv 0,iv 0,iv 0,iv 0,.bool false,.bool false]) ?_
   rintro _ u42 a ⟨b41,rfl,hb41,hS,hg⟩ hE
   refine ⟨.of hg,?_⟩
   exact hJ _ _ ⟨_,b41,hE,.of,hS⟩
  refine pk1 10 hE (.al (t:=104) hS [iv 0,iv 0,iv 0,iv 0,.bool false,.bool false]) ?_
  rintro _ u42 a ⟨b41,rfl,hb41,hS,hg⟩ hE
  refine ⟨.of hg,?_⟩
  refine on1 6 hE (.cl en75 (qAA.calls k26 x0_.f4 (nth 0 t6 x23) _ _ _ _ _ hS.own.sub g0_4 h39)) ?_
  rintro _ u40 a ⟨_,rfl,hC⟩ hE
  refine ⟨.of hC.agr,?_⟩
  replace hS:=hS.lent hC
  refine mny 2 hst hE (.r 7 3 .nil) (fun a hE=>?_)
  exact hJ _ _ ⟨_,b41,hE,.of,hS⟩
 refine wp_exit ?_
 refine hK17 _ _ (rr hE fun a hE=>(wp_ret ?_))
 replace hS:=hS.tail
 obtain rfl:=si H
 exact rt1 hE ⟨_,rfl,_,_,_,rfl,hS⟩
mutual
def qk.l9:Nat→qJ→Int→List qC→Int→Int→Option (List qE)
 | 0,_,_,_,_,_=>none
 | k+1,x0_,x1_,x2_,x7,x8=>if x8<(x2_.length:Int) then (if 0≤x8∧x8<(x2_.length:Int) then (if (nth qC.z x2_ x8).f1>x7 then (qk.l9 k x0_ x1_ x2_ ((nth qC.z x2_ x8).f1) (w64 (x8+1))) else (qk.l9 k x0_ x1_ x2_ x7 (w64 (x8+1)))) else (none)) else (if 0≤x1_∧x1_<(x0_.f6.length:Int) then (qk.l48 k x0_ x1_ x7 ([]:List qE) 0) else (none))
def qk.l48:Nat→qJ→Int→Int→List qE→Int→Option (List qE)
 | 0,_,_,_,_,_=>none
 | k+1,x0_,x1_,x7,l46,x47=>if x47<(((nth qF.z x0_.f6 x1_).f1).length:Int) then (if 0≤x47∧x47<(((nth qF.z x0_.f6 x1_).f1).length:Int) then (if (nth qE.z ((nth qF.z x0_.f6 x1_).f1) x47).f0≥x7 then (if ((l46.length:Int)+((1:Nat):Int)) * 32≤140737488355328 then (qk.l48 k x0_ x1_ x7 (l46++[(⟨(nth qE.z ((nth qF.z x0_.f6 x1_).f1) x47).f0,(nth qE.z ((nth qF.z x0_.f6 x1_).f1) x47).f1⟩:qE)]) (w64 (x47+1))) else (none)) else (qk.l48 k x0_ x1_ x7 l46 (w64 (x47+1)))) else (none)) else (some l46)
end
theorem qk.l9_s k x0_ x1_ x2_ x7 x8:type_of% (qk.l9.eq_2 x0_ x1_ x2_ x7 x8 k):=qk.l9.eq_2 x0_ x1_ x2_ x7 x8 k
theorem qk.l48_s k x0_ x1_ x7 l46 x47:type_of% (qk.l48.eq_2 x0_ x1_ x7 l46 x47 k):=qk.l48.eq_2 x0_ x1_ x7 l46 x47 k
def qk.f(k:Nat)(x0_:qJ)(x1_:Int)(x2_:List qC):Option (List qE):=qk.l9 k x0_ x1_ x2_ 0 0
def qk.Post(W F:World)(r:List qE)(v:Value)(w':World):Prop:=∃(F':World)(RA0_0:Option Addr)(rc0_0:Nat),v = .slice RA0_0 r.length rc0_0∧St W (mine W []) F w' F' [row qE.k 51 (.slice RA0_0 r.length rc0_0) r]
theorem qk.calls(k:Nat)(x0_:qJ)(x1_:Int)(x2_:List qC)(A0_4:Option Addr)(c0_4:Nat)(A0_5:Option Addr)(c0_5:Nat)(A0_6:Option Addr)(c0_6:Nat)(A2_0:Option Addr)(c2_0:Nat)(r:List qE)(W F:World)(hown:Sub F W)(g0_4:Rd qA.k F A0_4 c0_4 x0_.f4)(g0_5:Rd qM.k F A0_5 c0_5 x0_.f5)(g0_6:Rd qF.k F A0_6 c0_6 x0_.f6)(g2_0:Rd qC.k F A2_0 c2_0 x2_)(H:qk.f k x0_ x1_ x2_=some r):
    Calls Tryz.prog 55 #[.agg #[iv x0_.f0,iv x0_.f1,iv x0_.f2,iv x0_.f3,.slice A0_4 x0_.f4.length c0_4,.slice A0_5 x0_.f5.length c0_5,.slice A0_6 x0_.f6.length c0_6],iv x1_,.slice A2_0 x2_.length c2_0] W fun e w'=>∃ v,e = .returned v∧qk.Post W F r v w':=by
 have hS:=St.start (Own.nil hown)
 unfold qk.f at H
 refine enter (n:=58) rfl rfl rfl (Nat.le_of_ble_eq_true rfl) (fun a hE=>?_)
 refine sq fun K1 hK1=>pl0 (ple hE (.bx (t:=26) hS [iv x0_.f0,iv x0_.f1,iv x0_.f2,iv x0_.f3,.slice A0_4 x0_.f4.length c0_4,.slice A0_5 x0_.f5.length c0_5,.slice A0_6 x0_.f6.length c0_6]) ?_)
 rintro _ u3 a ⟨b2,rfl,hb2,hS,hg⟩ hE
 refine plc hE (.r 1 1 .nil) (fun a hE=>pld (hK1 _ _ (rr hE fun a hE=>(sq fun K5 hK5=>rr hE fun a hE=>(wp_block ?_)))))
 refine wp_loop_ghost (fun kq10 a w'=>∃(G:Nat→Value)(x7:Int)(x8:Int),kq10≤k∧Env 58 G a∧At G [(1,iv x1_),(2,.slice A2_0 x2_.length c2_0),(3,.pointer (pb b2)),(7,iv x7),(8,iv x8)]∧St W (mine W []) F w' F [box b2 #[iv x0_.f0,iv x0_.f1,iv x0_.f2,iv x0_.f3,.slice A0_4 x0_.f4.length c0_4,.slice A0_5 x0_.f5.length c0_5,.slice A0_6 x0_.f6.length c0_6] 26]∧qk.l9 kq10 x0_ x1_ x2_ x7 x8=some r) k ⟨_,0,0,Nat.le_refl _,hE,.of,hS,H⟩ ?_
 rintro kq10 a u12 ⟨G,x7,x8,hkq,hE,hA,hS,H⟩
 obtain _ | k11:=kq10
 ·
  exact zz H
 rw [qk.l9_s]at H
 obtain ⟨J,hE⟩:=hE.at hA
 refine sq fun K13 hK13=>rr hE fun a hE=>?_
 refine hE.ik 15 H (fun c15 hE H=>?_) fun c15 hE H=>?_
 ·
  refine wp_skip (hK13 _ _ (sq fun K16 hK16=>wp_block (sq fun K17 hK17=>pl0 ?_)))
  obtain ⟨c18,H⟩:=gd H
  have hE_:=hE
  obtain ⟨ad19,rfl⟩:=g2_0.addr c18.1 c18.2
  replace hE:=hE_
  obtain ⟨cs21,rfl,hc22⟩:=g2_0.el qC.z x8 c18.1 c18.2
  refine plc hE (.r 0 2<|.x 2 c18<|.r 3 1<|.c 4 (hS.fc hc22 1)<|.r 5 2<|.nil) (fun a hE=>pld (hK17 _ _ ?_))
  refine hE.ik 24 H (fun c23 hE H=>?_) fun c23 hE H=>?_
  ·
   refine pl0 (plc hE (.r 0 2<|.x 2 c18<|.r 3 1<|.c 4 (hS.fc hc22 1)<|.r 5 1<|.nil) (fun a hE=>pld ?_))
   refine qCF ?_
   refine hK16 _ _ (pl0 (plc hE (.r 0 3 .nil) (fun a hE=>pld ?_)))
   exact qCG ⟨k11,by omega,_,(nth qC.z x2_ x8).f1,(w64 (x8+1)),by omega,hE,.of,hS,H⟩
  refine wp_skip ?_
  refine qCF ?_
  refine hK16 _ _ (pl0 (plc hE (.r 0 3 .nil) (fun a hE=>pld ?_)))
  exact qCG ⟨k11,by omega,_,x7,(w64 (x8+1)),by omega,hE,.of,hS,H⟩
 refine wp_exit ?_
 refine hK5 _ _ (sq fun K27 hK27=>pl0 (ple hE (.lit (d:=qE.k) (e:=51) hS ([]:List qE) (.nil)) ?_))
 rintro _ u28 a ⟨A29,c30,rfl,hS,hg⟩ hE
 refine plc hE (.r 1 1 .nil) (fun a hE=>pld (hK27 _ _ (sq fun K32 hK32=>pl0 ?_)))
 have hb2:=hS.ba 1
 obtain ⟨c33,H⟩:=gd H
 have hE_:=hE
 obtain ⟨ad34,rfl⟩:=g0_6.addr c33.1 c33.2
 replace hE:=hE_
 obtain ⟨cs36,⟨A38,c39,rfl,g40⟩,hc37⟩:=g0_6.el qF.z x1_ c33.1 c33.2
 refine plc hE (.r 0 1<|.b 1 6 hb2<|.r 2 1<|.x 3 c33<|.r 4 1<|.c 5 (hS.fc hc37 1)<|.r 6 1<|.nil) (fun a hE=>pld (hK32 _ _ (sq fun K41 hK41=>rr hE fun a hE=>(wp_block ?_))))
 replace hS:=hS.front 1 rfl
 refine wp_loop_ghost (fun kq49 a w'=>∃(G:Nat→Value)(A44:Option Addr)(c45:Nat)(l46:List qE)(x47:Int),kq49≤k11∧Env 58 G a∧At G [(7,iv x7),(9,.slice A44 l46.length c45),(10,.slice A38 (((nth qF.z x0_.f6 x1_).f1).length) c39),(11,iv x47)]∧St W (mine W []) F w' F [box b2 #[iv x0_.f0,iv x0_.f1,iv x0_.f2,iv x0_.f3,.slice A0_4 x0_.f4.length c0_4,.slice A0_5 x0_.f5.length c0_5,.slice (some ad34) x0_.f6.length c0_6] 26,row qE.k 51 (.slice A44 l46.length c45) l46]∧qk.l48 kq49 x0_ x1_ x7 l46 x47=some r) k11 ⟨_,A29,c30,([]:List qE),0,Nat.le_refl _,hE,.of,hS,H⟩ ?_
 rintro kq49 a u51 ⟨G,A44,c45,l46,x47,hkq,hE,hA,hS,H⟩
 obtain _ | k50:=kq49
 ·
  exact zz H
 rw [qk.l48_s]at H
 obtain ⟨J,hE⟩:=hE.at hA
 refine sq fun K52 hK52=>rr hE fun a hE=>?_
 refine hE.ik 40 H (fun c54 hE H=>?_) fun c54 hE H=>?_
 ·
  refine wp_skip (hK52 _ _ (sq fun K55 hK55=>wp_block (sq fun K56 hK56=>pl0 ?_)))
  obtain ⟨c57,H⟩:=gd H
  have hE_:=hE
  obtain ⟨ad58,rfl⟩:=g40.addr c57.1 c57.2
  replace hE:=hE_
  obtain ⟨cs60,⟨A62,c63,rfl,g64⟩,hc61⟩:=g40.el qE.z x47 c57.1 c57.2
  refine plc hE (.r 0 2<|.x 2 c57<|.r 3 1<|.c 4 (hS.fc hc61 0)<|.r 5 2<|.nil) (fun a hE=>pld (hK56 _ _ ?_))
  refine hE.ik 49 H (fun c65 hE H=>?_) fun c65 hE H=>?_
  ·
   refine pl0 (plc hE (.r 0 3<|.x 3 c57<|.cs 4 (hS.fcs hc61)<|.nil) (fun a hE=>ple hE (.lit (d:=qE.k) (e:=51) hS [(⟨(nth qE.z ((nth qF.z x0_.f6 x1_).f1) x47).f0,(nth qE.z ((nth qF.z x0_.f6 x1_).f1) x47).f1⟩:qE)] (.cons ⟨_,_,rfl,g64⟩ .nil)) ?_))
   rintro _ u69 a ⟨A70,c71,rfl,hS,hg⟩ hE
   obtain ⟨c73,H⟩:=gd H
   replace hS:=hS.front 2 rfl
   refine ple hE (.ap (d:=qE.k) 32 hS (qCO (hS.row_at (i:=1) rfl)) c73 c71) ?_
   rintro _ u76 a ⟨A74,c75,rfl,hS,hz⟩ hE
   refine plc hE (.r 7 1 .nil) (fun a hE=>pld ?_)
   refine qCF ?_
   refine hK55 _ _ (pl0 (plc hE (.r 0 3 .nil) (fun a hE=>pld ?_)))
   replace hS:=hS.pm [2,0] 3
   exact qCG ⟨k50,by omega,_,A74,c75,(l46++[(⟨(nth qE.z ((nth qF.z x0_.f6 x1_).f1) x47).f0,(nth qE.z ((nth qF.z x0_.f6 x1_).f1) x47).f1⟩:qE)]),(w64 (x47+1)),by omega,hE,.of,hS,H⟩
  refine wp_skip ?_
  refine qCF ?_
  refine hK55 _ _ (pl0 (plc hE (.r 0 3 .nil) (fun a hE=>pld ?_)))
  exact qCG ⟨k50,by omega,_,A44,c45,l46,(w64 (x47+1)),by omega,hE,.of,hS,H⟩
 refine wp_exit ?_
 refine hK41 _ _ (rr hE fun a hE=>(wp_ret ?_))
 replace hS:=hS.tail
 obtain rfl:=si H
 exact rt1 hE ⟨_,rfl,_,_,_,rfl,hS⟩
def qAI.l5:Nat→List qC→Int→Int→Option Bool
 | 0,_,_,_=>none
 | k+1,x0_,x1_,x4=>if x4<(x0_.length:Int) then (if 0≤x4∧x4<(x0_.length:Int) then (if (nth qC.z x0_ x4).f0=x1_ then (some true) else (qAI.l5 k x0_ x1_ (w64 (x4+1)))) else (none)) else (some false)
theorem qAI.l5_s k x0_ x1_ x4:type_of% (qAI.l5.eq_2 x0_ x1_ x4 k):=qAI.l5.eq_2 x0_ x1_ x4 k
def qAI.f(k:Nat)(x0_:List qC)(x1_:Int):Option Bool:=qAI.l5 k x0_ x1_ 0
def qAI.Post(W F:World)(r:Bool)(v:Value)(w':World):Prop:=∃(F':World),v = .bool r∧St W (mine W []) F w' F' []
theorem qAI.calls(k:Nat)(x0_:List qC)(x1_:Int)(A0_0:Option Addr)(c0_0:Nat)(r:Bool)(W F:World)(hown:Sub F W)(g0_0:Rd qC.k F A0_0 c0_0 x0_)(H:qAI.f k x0_ x1_=some r):
    Calls Tryz.prog 113 #[.slice A0_0 x0_.length c0_0,iv x1_] W fun e w'=>∃ v,e = .returned v∧qAI.Post W F r v w':=by
 have hS:=St.start (Own.nil hown)
 unfold qAI.f at H
 refine enter (n:=19) rfl rfl rfl (Nat.le_of_ble_eq_true rfl) (fun a hE=>?_)
 refine rr hE fun a hE=>(sq fun K2 hK2=>rr hE fun a hE=>(wp_block ?_))
 refine wp_loop_ghost (fun kq6 a w'=>∃(G:Nat→Value)(x4:Int),kq6≤k∧Env 19 G a∧At G [(0,.slice A0_0 x0_.length c0_0),(1,iv x1_),(5,iv x4)]∧St W (mine W []) F w' F []∧qAI.l5 kq6 x0_ x1_ x4=some r) k ⟨_,0,Nat.le_refl _,hE,.of,hS,H⟩ ?_
 rintro kq6 a u8 ⟨G,x4,hkq,hE,hA,hS,H⟩
 obtain _ | k7:=kq6
 ·
  exact zz H
 rw [qAI.l5_s]at H
 obtain ⟨J,hE⟩:=hE.at hA
 refine sq fun K9 hK9=>rr hE fun a hE=>?_
 refine hE.ik 9 H (fun c11 hE H=>?_) fun c11 hE H=>?_
 ·
  refine wp_skip (hK9 _ _ (sq fun K12 hK12=>wp_block (sq fun K13 hK13=>pl0 ?_)))
  obtain ⟨c14,H⟩:=gd H
  have hE_:=hE
  obtain ⟨ad15,rfl⟩:=g0_0.addr c14.1 c14.2
  replace hE:=hE_
  obtain ⟨cs17,rfl,hc18⟩:=g0_0.el qC.z x4 c14.1 c14.2
  refine plc hE (.r 0 2<|.x 2 c14<|.r 3 1<|.c 4 (hS.fc hc18 0)<|.r 5 2<|.nil) (fun a hE=>pld (hK13 _ _ ?_))
  refine hE.ik 18 H (fun c19 hE H=>?_) fun c19 hE H=>?_
  ·
   refine rr hE fun a hE=>(wp_ret (qCE (qCD (qCD (qCE (qCD ?_))))))
   obtain rfl:=si H
   exact rt1 hE ⟨_,rfl,_,rfl,hS⟩
  refine wp_skip ?_
  refine qCF ?_
  refine hK12 _ _ (pl0 (plc hE (.r 0 3 .nil) (fun a hE=>pld ?_)))
  exact qCG ⟨k7,by omega,_,(w64 (x4+1)),by omega,hE,.of,hS,H⟩
 refine wp_exit ?_
 refine hK2 _ _ (rr hE fun a hE=>(wp_ret ?_))
 obtain rfl:=si H
 exact rt1 hE ⟨_,rfl,_,rfl,hS⟩
def qAw.f(k:Nat)(x0_:qJ)(x1_:Int):Option Bool:=(qAA.f k x0_.f4 x1_).bind fun t6=>(if t6.2=true then (some t6.1.f4) else (some false))
def qAw.Post(W F:World)(r:Bool)(v:Value)(w':World):Prop:=∃(F':World),v = .bool r∧St W (mine W []) F w' F' []
theorem qAw.calls(k:Nat)(x0_:qJ)(x1_:Int)(A0_4:Option Addr)(c0_4:Nat)(A0_5:Option Addr)(c0_5:Nat)(A0_6:Option Addr)(c0_6:Nat)(r:Bool)(W F:World)(hown:Sub F W)(g0_4:Rd qA.k F A0_4 c0_4 x0_.f4)(g0_5:Rd qM.k F A0_5 c0_5 x0_.f5)(g0_6:Rd qF.k F A0_6 c0_6 x0_.f6)(H:qAw.f k x0_ x1_=some r):
    Calls Tryz.prog 56 #[.agg #[iv x0_.f0,iv x0_.f1,iv x0_.f2,iv x0_.f3,.slice A0_4 x0_.f4.length c0_4,.slice A0_5 x0_.f5.length c0_5,.slice A0_6 x0_.f6.length c0_6],iv x1_] W fun e w'=>∃ v,e = .returned v∧qAw.Post W F r v w':=by
 have hS:=St.start (Own.nil hown)
 unfold qAw.f at H
 refine enter (n:=19) rfl rfl rfl (Nat.le_of_ble_eq_true rfl) (fun a hE=>?_)
 refine sq fun K1 hK1=>pl0 (ple hE (.bx (t:=26) hS [iv x0_.f0,iv x0_.f1,iv x0_.f2,iv x0_.f3,.slice A0_4 x0_.f4.length c0_4,.slice A0_5 x0_.f5.length c0_5,.slice A0_6 x0_.f6.length c0_6]) ?_)
 rintro _ u3 a ⟨b2,rfl,hb2,hS,hg⟩ hE
 refine plc hE (.r 1 1 .nil) (fun a hE=>pld (hK1 _ _ (sq fun K4 hK4=>pl0 (plc hE (.r 0 1<|.b 1 4 hb2<|.r 2 1<|.nil) (fun a hE=>?_)))))
 obtain ⟨t6,h7,H⟩:=bd H
 refine ple hE (.cl en75 (qAA.calls k x0_.f4 x1_ _ _ _ _ _ hS.own.sub g0_4 h7)) ?_
 rintro _ u5 a ⟨_,rfl,hC⟩ hE
 replace hS:=hS.lent hC
 refine plc hE (.r 4 3 .nil) (fun a hE=>ple hE (.al (t:=104) hS [iv 0,iv 0,iv 0,iv 0,.bool false,.bool false]) ?_)
 rintro _ u9 a ⟨b8,rfl,hb8,hS,hg⟩ hE
 refine ple hE (.sto hS [iv t6.1.f0,iv t6.1.f1,iv t6.1.f2,iv t6.1.f3,.bool t6.1.f4,.bool t6.1.f5]) ?_
 rintro _ u10 a ⟨rfl,hb8,hS,hz⟩ hE
 refine plc hE (.r 9 1 .nil) (fun a hE=>pld (hK4 _ _ (sq fun K11 hK11=>pl0 (plc hE (.r 0 2 .nil) (fun a hE=>?_)))))
 rcases sp H with ⟨c12,H⟩ | ⟨c12,H⟩
 ·
  replace hE:=hE.bt 15 c12
  refine plc hE (.r 2 1<|.b 3 4 hb8<|.r 4 2<|.nil) (fun a hE=>pld (hK11 _ _ (wp_ret ?_)))
  replace hS:=hS.pm [] 2
  obtain rfl:=si H
  exact rt1 hE ⟨_,rfl,_,rfl,hS⟩
 replace hE:=hE.bf 15 c12
 refine plc hE (.r 2 4 .nil) (fun a hE=>pld (hK11 _ _ (wp_ret ?_)))
 replace hS:=hS.pm [] 2
 obtain rfl:=si H
 exact rt1 hE ⟨_,rfl,_,rfl,hS⟩
def qAr.f(x0_:qC)(x1_:qC):Option Bool:=if x0_.f1=x1_.f1 then (if x0_.f2=x1_.f2 then (if x0_.f3=x1_.f3 then (some (decide (x0_.f0<x1_.f0))) else (some (decide (x0_.f3>x1_.f3)))) else (some (decide (x0_.f2>x1_.f2)))) else (some (decide (x0_.f1>x1_.f1)))
def qAr.Post(W F:World)(r:Bool)(v:Value)(w':World):Prop:=∃(F':World),v = .bool r∧St W (mine W []) F w' F' []
theorem qAr.calls(x0_:qC)(x1_:qC)(r:Bool)(W F:World)(hown:Sub F W)(H:qAr.f x0_ x1_=some r):
    Calls Tryz.prog 61 #[.agg #[iv x0_.f0,iv x0_.f1,iv x0_.f2,iv x0_.f3,iv x0_.f4],.agg #[iv x1_.f0,iv x1_.f1,iv x1_.f2,iv x1_.f3,iv x1_.f4]] W fun e w'=>∃ v,e = .returned v∧qAr.Post W F r v w':=by
 have hS:=St.start (Own.nil hown)
 unfold qAr.f at H
 refine enter (n:=40) rfl rfl rfl (Nat.le_of_ble_eq_true rfl) (fun a hE=>?_)
 refine sq fun K1 hK1=>pl0 (ple hE (.bx (t:=86) hS [iv x0_.f0,iv x0_.f1,iv x0_.f2,iv x0_.f3,iv x0_.f4]) ?_)
 rintro _ u3 a ⟨b2,rfl,hb2,hS,hg⟩ hE
 refine ple hE (.bx (t:=86) hS [iv x1_.f0,iv x1_.f1,iv x1_.f2,iv x1_.f3,iv x1_.f4]) ?_
 rintro _ u5 a ⟨b4,rfl,hb4,hS,hg⟩ hE
 refine plc hE (.r 2 1 .nil) (fun a hE=>pld (hK1 _ _ (sq fun K6 hK6=>sq fun K7 hK7=>pl0 ?_)))
 have hb2:=hS.ba 1
 refine plc hE (.r 0 1<|.b 1 1 hb2<|.r 2 1<|.b 3 1 hb4<|.r 4 1<|.nil) (fun a hE=>pld (hK7 _ _ ?_))
 refine hE.ikn 9 H (fun c8 hE H=>?_) fun c8 hE H=>?_
 ·
  refine wp_skip (hK6 _ _ (sq fun K10 hK10=>rg hE (.r 0 1<|.b 1 2 hb2<|.r 2 1<|.b 3 2 hb4<|.r 4 1<|.nil) fun a hE=>?_))
  refine hE.ikn 19 H (fun c12 hE H=>?_) fun c12 hE H=>?_
  ·
   refine wp_skip (hK10 _ _ (sq fun K14 hK14=>rg hE (.r 0 1<|.b 1 3 hb2<|.r 2 1<|.b 3 3 hb4<|.r 4 1<|.nil) fun a hE=>?_))
   refine hE.ikn 29 H (fun c16 hE H=>?_) fun c16 hE H=>?_
   ·
    refine wp_skip (hK14 _ _ (rg hE (.r 0 1<|.b 1 0 hb2<|.r 2 1<|.b 3 0 hb4<|.r 4 2<|.nil) fun a hE=>(wp_ret ?_)))
    replace hS:=hS.pm [] 2
    obtain rfl:=si H
    exact rt1 hE ⟨_,rfl,_,rfl,hS⟩
   refine rg hE (.r 0 1<|.b 1 3 hb2<|.r 2 1<|.b 3 3 hb4<|.r 4 2<|.nil) fun a hE=>(wp_ret (qCD ?_))
   replace hS:=hS.pm [] 2
   obtain rfl:=si H
   exact rt1 hE ⟨_,rfl,_,rfl,hS⟩
  refine rg hE (.r 0 1<|.b 1 2 hb2<|.r 2 1<|.b 3 2 hb4<|.r 4 2<|.nil) fun a hE=>(wp_ret (qCD ?_))
  replace hS:=hS.pm [] 2
  obtain rfl:=si H
  exact rt1 hE ⟨_,rfl,_,rfl,hS⟩
 refine rg hE (.r 0 1<|.b 1 1 hb2<|.r 2 1<|.b 3 1 hb4<|.r 4 2<|.nil) fun a hE=>(wp_ret (qCD ?_))
 replace hS:=hS.pm [] 2
 obtain rfl:=si H
 exact rt1 hE ⟨_,rfl,_,rfl,hS⟩
def qAR.l21:Nat→List qC→Int→Int→Int→Int→Int→Int→Option qC
 | 0,_,_,_,_,_,_,_=>none
 | k+1,x0_,x15,x16,x17,x18,x19,x20=>if x15<(x0_.length:Int) then (if 0≤x15∧x15<(x0_.length:Int) then ((qAr.f (⟨(nth qC.z x0_ x15).f0,(nth qC.z x0_ x15).f1,(nth qC.z x0_ x15).f2,(nth qC.z x0_ x15).f3,(nth qC.z x0_ x15).f4⟩:qC) (⟨x16,x17,x18,x19,x20⟩:qC)).bind fun t35=>(if t35=true then (qAR.l21 k x0_ (w64 (x15+1)) ((nth qC.z x0_ x15).f0) ((nth qC.z x0_ x15).f1) ((nth qC.z x0_ x15).f2) ((nth qC.z x0_ x15).f3) ((nth qC.z x0_ x15).f4)) else (qAR.l21 k x0_ (w64 (x15+1)) x16 x17 x18 x19 x20))) else (none)) else (some (⟨x16,x17,x18,x19,x20⟩:qC))
theorem qAR.l21_s k x0_ x15 x16 x17 x18 x19 x20:type_of% (qAR.l21.eq_2 x0_ x15 x16 x17 x18 x19 x20 k):=qAR.l21.eq_2 x0_ x15 x16 x17 x18 x19 x20 k
def qAR.f(k:Nat)(x0_:List qC):Option qC:=if 0≤(0:Int)∧0<(x0_.length:Int) then (qAR.l21 k x0_ 0 ((nth qC.z x0_ 0).f0) ((nth qC.z x0_ 0).f1) ((nth qC.z x0_ 0).f2) ((nth qC.z x0_ 0).f3) ((nth qC.z x0_ 0).f4)) else (none)
def qAR.Post(W F:World)(r:qC)(v:Value)(w':World):Prop:=∃(F':World),v = .agg #[iv r.f0,iv r.f1,iv r.f2,iv r.f3,iv r.f4]∧St W (mine W []) F w' F' []
theorem qAR.calls(k:Nat)(x0_:List qC)(A0_0:Option Addr)(c0_0:Nat)(r:qC)(W F:World)(hown:Sub F W)(g0_0:Rd qC.k F A0_0 c0_0 x0_)(H:qAR.f k x0_=some r):
    Calls Tryz.prog 62 #[.slice A0_0 x0_.length c0_0] W fun e w'=>∃ v,e = .returned v∧qAR.Post W F r v w':=by
 have hS:=St.start (Own.nil hown)
 unfold qAR.f at H
 refine enter (n:=25) rfl rfl rfl (Nat.le_of_ble_eq_true rfl) (fun a hE=>?_)
 refine sq fun K1 hK1=>pl0 (ple hE (.al (t:=86) hS [iv 0,iv 0,iv 0,iv 0,iv 0]) ?_)
 rintro _ u3 a ⟨b2,rfl,hb2,hS,hg⟩ hE
 refine pld (hK1 _ _ (sq fun K4 hK4=>pl0 ?_))
 obtain ⟨c5,H⟩:=gd H
 have hE_:=hE
 obtain ⟨ad6,rfl⟩:=g0_0.addr c5.1 c5.2
 replace hE:=hE_
 obtain ⟨cs8,rfl,hc9⟩:=g0_0.el qC.z 0 c5.1 c5.2
 refine plc hE (.r 0 1<|.x 1 c5<|.cs 2 (hS.fcs hc9)<|.nil) (fun a hE=>ple hE (.al (t:=86) hS [iv 0,iv 0,iv 0,iv 0,iv 0]) ?_)
 rintro _ u11 a ⟨b10,rfl,hb10,hS,hg⟩ hE
 refine ple hE (.sto hS [iv ((nth qC.z x0_ 0).f0),iv ((nth qC.z x0_ 0).f1),iv ((nth qC.z x0_ 0).f2),iv ((nth qC.z x0_ 0).f3),iv ((nth qC.z x0_ 0).f4)]) ?_
 rintro _ u12 a ⟨rfl,hb10,hS,hz⟩ hE
 refine pld (hK4 _ _ (sq fun K13 hK13=>rr hE fun a hE=>(wp_block ?_)))
 refine wp_loop_ghost (fun kq22 a w'=>∃(G:Nat→Value)(x15:Int)(x16:Int)(x17:Int)(x18:Int)(x19:Int)(x20:Int),kq22≤k∧Env 25 G a∧At G [(0,.slice (some ad6) x0_.length c0_0),(2,.pointer (pb b2)),(3,.pointer (pb b10)),(4,iv x15)]∧St W (mine W []) F w' F [box b10 #[iv x16,iv x17,iv x18,iv x19,iv x20] 86,box b2 #[iv 0,iv 0,iv 0,iv 0,iv 0] 86]∧qAR.l21 kq22 x0_ x15 x16 x17 x18 x19 x20=some r) k ⟨_,0,(nth qC.z x0_ 0).f0,(nth qC.z x0_ 0).f1,(nth qC.z x0_ 0).f2,(nth qC.z x0_ 0).f3,(nth qC.z x0_ 0).f4,Nat.le_refl _,hE,.of,hS,H⟩ ?_
 rintro kq22 a u24 ⟨G,x15,x16,x17,x18,x19,x20,hkq,hE,hA,hS,H⟩
 obtain _ | k23:=kq22
 ·
  exact zz H
 rw [qAR.l21_s]at H
 obtain ⟨J,hE⟩:=hE.at hA
 refine sq fun K25 hK25=>rr hE fun a hE=>?_
 refine hE.ik 11 H (fun c27 hE H=>?_) fun c27 hE H=>?_
 ·
  refine wp_skip (hK25 _ _ (sq fun K28 hK28=>wp_block (sq fun K29 hK29=>?_)))
  refine drawn 6 ⟨[],[],fun q=>False⟩ mixed rfl (by kernel_rfl) (fun hst=>?_)
  replace hS:=hS.drew
  obtain ⟨c30,H⟩:=gd H
  obtain ⟨cs32,rfl,hc33⟩:=g0_0.el qC.z x15 c30.1 c30.2
  have hb10:=hS.ba 0
  refine mny 1 hst hE (.r 0 2<|.x 2 c30<|.cs 3 (hS.fcs hc33)<|.bn 4 0 5 hb10<|.nil) (fun a hE=>?_)
  obtain ⟨t35,h36,H⟩:=bd H
  refine on1 5 hE (.cl en61 (qAr.calls (⟨(nth qC.z x0_ x15).f0,(nth qC.z x0_ x15).f1,(nth qC.z x0_ x15).f2,(nth qC.z x0_ x15).f3,(nth qC.z x0_ x15).f4⟩:qC) (⟨x16,x17,x18,x19,x20⟩:qC) _ _ _ hS.own.sub h36)) ?_
  rintro _ u34 a ⟨_,rfl,hC⟩ hE
  refine ⟨.of hC.agr,?_⟩
  replace hS:=hS.lent hC
  refine dn ?_
  refine hK29 _ _ ?_
  refine hE.ib 19 H (fun c37 hE H=>?_) fun c37 hE H=>?_
  ·
   refine pl0 (plc hE (.r 0 2<|.x 2 c30<|.cs 3 (hS.fcs hc33)<|.nil) (fun a hE=>ple hE (.sto hS [iv ((nth qC.z x0_ x15).f0),iv ((nth qC.z x0_ x15).f1),iv ((nth qC.z x0_ x15).f2),iv ((nth qC.z x0_ x15).f3),iv ((nth qC.z x0_ x15).f4)]) ?_))
   rintro _ u41 a ⟨rfl,hb10,hS,hz⟩ hE
   refine pld ?_
   refine qCF ?_
   refine hK28 _ _ (pl0 (plc hE (.r 0 3 .nil) (fun a hE=>pld ?_)))
   exact qCG ⟨k23,by omega,_,(w64 (x15+1)),(nth qC.z x0_ x15).f0,(nth qC.z x0_ x15).f1,(nth qC.z x0_ x15).f2,(nth qC.z x0_ x15).f3,(nth qC.z x0_ x15).f4,by omega,hE,.of,hS,H⟩
  refine wp_skip ?_
  refine qCF ?_
  refine hK28 _ _ (pl0 (plc hE (.r 0 3 .nil) (fun a hE=>pld ?_)))
  exact qCG ⟨k23,by omega,_,(w64 (x15+1)),x16,x17,x18,x19,x20,by omega,hE,.of,hS,H⟩
 refine wp_exit ?_
 refine hK13 _ _ (sq fun K42 hK42=>pl0 ?_)
 have hb10:=hS.ba 0
 refine plc hE (.bn 0 0 5 hb10 .nil) (fun a hE=>?_)
 replace hS:=hS.front 1 rfl
 refine ple hE (.sto hS [iv x16,iv x17,iv x18,iv x19,iv x20]) ?_
 rintro _ u43 a ⟨rfl,hb2,hS,hz⟩ hE
 refine pld (hK42 _ _ (wp_ret ?_))
 replace hS:=hS.pm [] 2
 obtain rfl:=si H
 exact ret1 hE rfl (.cell (by kernel_rfl) (qCJ [iv x16,iv x17,iv x18,iv x19,iv x20] ag86 sz86 hb2 rfl) .nil) ⟨_,rfl,_,rfl,hS⟩
mutual
def qD.l32:Nat→qJ→List qC→List Int→List qE→Int→Bool→Option qAF
 | 0,_,_,_,_,_,_=>none
 | k+1,x0_,x2_,t8,t17,x30,y31=>if x30<(t8.length:Int) then (if y31=true then (if 0≤x30∧x30<(t8.length:Int) then ((qAI.f k x2_ (nth 0 t8 x30)).bind fun t48=>(qD.l32 k x0_ x2_ t8 t17 (w64 (x30+1)) t48)) else (none)) else (qD.l32 k x0_ x2_ t8 t17 (w64 (x30+1)) false)) else (qD.l59 k x0_ x2_ t8 t17 y31 1 [])
def qD.l59:Nat→qJ→List qC→List Int→List qE→Bool→Int→List Int→Option qAF
 | 0,_,_,_,_,_,_,_=>none
 | k+1,x0_,x2_,t8,t17,y31,x55,l58=>if x55≤999 then (qD.l72 k x0_ x2_ t8 t17 y31 x55 l58 false 0) else (qD.l163 k x0_ x2_ t17 l58 0 y31 [])
def qD.l72:Nat→qJ→List qC→List Int→List qE→Bool→Int→List Int→Bool→Int→Option qAF
 | 0,_,_,_,_,_,_,_,_,_=>none
 | k+1,x0_,x2_,t8,t17,y31,x55,l58,y70,x71=>if x71<(t8.length:Int) then (if y70=true then (qD.l72 k x0_ x2_ t8 t17 y31 x55 l58 true (w64 (x71+1))) else (if 0≤x71∧x71<(t8.length:Int) then (qD.l72 k x0_ x2_ t8 t17 y31 x55 l58 ((nth 0 t8 x71) == x55) (w64 (x71+1))) else (none))) else (qD.l91 k x0_ x2_ t8 t17 y31 x55 l58 y70 0)
def qD.l91:Nat→qJ→List qC→List Int→List qE→Bool→Int→List Int→Bool→Int→Option qAF
 | 0,_,_,_,_,_,_,_,_,_=>none
 | k+1,x0_,x2_,t8,t17,y31,x55,l58,y89,x90=>if x90<(t17.length:Int) then (qD.l102 k x0_ x2_ t8 t17 y31 x55 l58 x90 y89 0) else (if y89=true then ((qAw.f k x0_ x55).bind fun t132=>(if t132=true then ((qAI.f k x2_ x55).bind fun t136=>(qD.j139 k x0_ x2_ t8 t17 y31 x55 l58 (!t136))) else (qD.j139 k x0_ x2_ t8 t17 y31 x55 l58 false))) else (qD.j139 k x0_ x2_ t8 t17 y31 x55 l58 false))
def qD.l102:Nat→qJ→List qC→List Int→List qE→Bool→Int→List Int→Int→Bool→Int→Option qAF
 | 0,_,_,_,_,_,_,_,_,_,_=>none
 | k+1,x0_,x2_,t8,t17,y31,x55,l58,x90,y100,x101=>if 0≤x90∧x90<(t17.length:Int) then (if x101<(((nth qE.z t17 x90).f1).length:Int) then (if y100=true then (qD.l102 k x0_ x2_ t8 t17 y31 x55 l58 x90 true (w64 (x101+1))) else (if 0≤x101∧x101<(((nth qE.z t17 x90).f1).length:Int) then (qD.l102 k x0_ x2_ t8 t17 y31 x55 l58 x90 ((nth 0 ((nth qE.z t17 x90).f1) x101) == x55) (w64 (x101+1))) else (none))) else (qD.l91 k x0_ x2_ t8 t17 y31 x55 l58 y100 (w64 (x90+1)))) else (none)
def qD.j139:Nat→qJ→List qC→List Int→List qE→Bool→Int→List Int→Bool→Option qAF
 | 0,_,_,_,_,_,_,_,_=>none
 | k+1,x0_,x2_,t8,t17,y31,x55,l58,y138=>if y138=true then (if ((l58.length:Int)+((1:Nat):Int)) * 8≤140737488355328 then (qD.l59 k x0_ x2_ t8 t17 y31 (w64 (x55+1)) (l58++[x55])) else (none)) else (qD.l59 k x0_ x2_ t8 t17 y31 (w64 (x55+1)) l58)
def qD.l163:Nat→qJ→List qC→List qE→List Int→Int→Bool→List Int→Option qAF
 | 0,_,_,_,_,_,_,_=>none
 | k+1,x0_,x2_,t17,l58,x158,y159,l162=>if x158<(t17.length:Int) then (qD.l177 k x0_ x2_ t17 l58 x158 y159 l162 false false 0) else (if y159=true then ((qAR.f k x2_).bind fun t270=>(qD.j274 k l58 y159 l162 t270.f0)) else (qD.j274 k l58 y159 l162 0))
def qD.l177:Nat→qJ→List qC→List qE→List Int→Int→Bool→List Int→Bool→Bool→Int→Option qAF
 | 0,_,_,_,_,_,_,_,_,_,_=>none
 | k+1,x0_,x2_,t17,l58,x158,y159,l162,y174,y175,x176=>if 0≤x158∧x158<(t17.length:Int) then (if x176<(((nth qE.z t17 x158).f1).length:Int) then (if y174=true then (qD.j209 k x0_ x2_ t17 l58 x158 y159 l162 y175 x176 true) else (if 0≤x176∧x176<(((nth qE.z t17 x158).f1).length:Int) then ((qAI.f k x2_ (nth 0 ((nth qE.z t17 x158).f1) x176)).bind fun t206=>(qD.j209 k x0_ x2_ t17 l58 x158 y159 l162 y175 x176 t206)) else (none))) else (if y159=true then (qD.j235 k x0_ x2_ t17 l58 x158 l162 y174 y175 y174) else (qD.j235 k x0_ x2_ t17 l58 x158 l162 y174 y175 false))) else (none)
def qD.j209:Nat→qJ→List qC→List qE→List Int→Int→Bool→List Int→Bool→Int→Bool→Option qAF
 | 0,_,_,_,_,_,_,_,_,_,_=>none
 | k+1,x0_,x2_,t17,l58,x158,y159,l162,y175,x176,y208=>if y175=true then (qD.l177 k x0_ x2_ t17 l58 x158 y159 l162 y208 true (w64 (x176+1))) else (if 0≤x176∧x176<(((nth qE.z t17 x158).f1).length:Int) then ((qAw.f k x0_ (nth 0 ((nth qE.z t17 x158).f1) x176)).bind fun t228=>(qD.l177 k x0_ x2_ t17 l58 x158 y159 l162 y208 t228 (w64 (x176+1)))) else (none))
def qD.j235:Nat→qJ→List qC→List qE→List Int→Int→List Int→Bool→Bool→Bool→Option qAF
 | 0,_,_,_,_,_,_,_,_,_=>none
 | k+1,x0_,x2_,t17,l58,x158,l162,y174,y175,y234=>if y174=true then (qD.j243 k x0_ x2_ t17 l58 x158 l162 y234 false) else (qD.j243 k x0_ x2_ t17 l58 x158 l162 y234 (!y175))
def qD.j243:Nat→qJ→List qC→List qE→List Int→Int→List Int→Bool→Bool→Option qAF
 | 0,_,_,_,_,_,_,_,_=>none
 | k+1,x0_,x2_,t17,l58,x158,l162,y234,y242=>if y242=true then (if ((l162.length:Int)+((1:Nat):Int)) * 8≤140737488355328 then (qD.l163 k x0_ x2_ t17 l58 (w64 (x158+1)) y234 (l162++[(nth qE.z t17 x158).f0])) else (none)) else (qD.l163 k x0_ x2_ t17 l58 (w64 (x158+1)) y234 l162)
def qD.j274:Nat→List Int→Bool→List Int→Int→Option qAF
 | 0,_,_,_,_=>none
 | k+1,l58,y159,l162,x273=>some (⟨y159,x273,l58,l162⟩:qAF)
end
theorem qD.l32_s k x0_ x2_ t8 t17 x30 y31:type_of% (qD.l32.eq_2 x0_ x2_ t8 t17 x30 y31 k):=qD.l32.eq_2 x0_ x2_ t8 t17 x30 y31 k
theorem qD.l59_s k x0_ x2_ t8 t17 y31 x55 l58:type_of% (qD.l59.eq_2 x0_ x2_ t8 t17 y31 x55 l58 k):=qD.l59.eq_2 x0_ x2_ t8 t17 y31 x55 l58 k
theorem qD.l72_s k x0_ x2_ t8 t17 y31 x55 l58 y70 x71:type_of% (qD.l72.eq_2 x0_ x2_ t8 t17 y31 x55 l58 y70 x71 k):=qD.l72.eq_2 x0_ x2_ t8 t17 y31 x55 l58 y70 x71 k
theorem qD.l91_s k x0_ x2_ t8 t17 y31 x55 l58 y89 x90:type_of% (qD.l91.eq_2 x0_ x2_ t8 t17 y31 x55 l58 y89 x90 k):=qD.l91.eq_2 x0_ x2_ t8 t17 y31 x55 l58 y89 x90 k
theorem qD.l102_s k x0_ x2_ t8 t17 y31 x55 l58 x90 y100 x101:type_of% (qD.l102.eq_2 x0_ x2_ t8 t17 y31 x55 l58 x90 y100 x101 k):=qD.l102.eq_2 x0_ x2_ t8 t17 y31 x55 l58 x90 y100 x101 k
theorem qD.j139_s k x0_ x2_ t8 t17 y31 x55 l58 y138:type_of% (qD.j139.eq_2 x0_ x2_ t8 t17 y31 x55 l58 y138 k):=qD.j139.eq_2 x0_ x2_ t8 t17 y31 x55 l58 y138 k
theorem qD.l163_s k x0_ x2_ t17 l58 x158 y159 l162:type_of% (qD.l163.eq_2 x0_ x2_ t17 l58 x158 y159 l162 k):=qD.l163.eq_2 x0_ x2_ t17 l58 x158 y159 l162 k
theorem qD.l177_s k x0_ x2_ t17 l58 x158 y159 l162 y174 y175 x176:type_of% (qD.l177.eq_2 x0_ x2_ t17 l58 x158 y159 l162 y174 y175 x176 k):=qD.l177.eq_2 x0_ x2_ t17 l58 x158 y159 l162 y174 y175 x176 k
theorem qD.j209_s k x0_ x2_ t17 l58 x158 y159 l162 y175 x176 y208:type_of% (qD.j209.eq_2 x0_ x2_ t17 l58 x158 y159 l162 y175 x176 y208 k):=qD.j209.eq_2 x0_ x2_ t17 l58 x158 y159 l162 y175 x176 y208 k
theorem qD.j235_s k x0_ x2_ t17 l58 x158 l162 y174 y175 y234:type_of% (qD.j235.eq_2 x0_ x2_ t17 l58 x158 l162 y174 y175 y234 k):=qD.j235.eq_2 x0_ x2_ t17 l58 x158 l162 y174 y175 y234 k
theorem qD.j243_s k x0_ x2_ t17 l58 x158 l162 y234 y242:type_of% (qD.j243.eq_2 x0_ x2_ t17 l58 x158 l162 y234 y242 k):=qD.j243.eq_2 x0_ x2_ t17 l58 x158 l162 y234 y242 k
theorem qD.j274_s k l58 y159 l162 x273:type_of% (qD.j274.eq_2 l58 y159 l162 x273 k):=qD.j274.eq_2 l58 y159 l162 x273 k
def qD.f(k:Nat)(x0_:qJ)(x1_:Int)(x2_:List qC):Option qAF:=(qAJ.f k x0_ x1_).bind fun t8=>((qk.f k x0_ x1_ x2_).bind fun t17=>(qD.l32 k x0_ x2_ t8 t17 0 (decide ((t8.length:Int)≥x0_.f2))))
def qD.Post(W F:World)(r:qAF)(v:Value)(w':World):Prop:=∃(F':World)(RA0_2:Option Addr)(rc0_2:Nat)(RA0_3:Option Addr)(rc0_3:Nat),v = .agg #[.bool r.f0,iv r.f1,.slice RA0_2 r.f2.length rc0_2,.slice RA0_3 r.f3.length rc0_3]∧St W (mine W []) F w' F' [row ki 3 (.slice RA0_2 r.f2.length rc0_2) r.f2,row ki 3 (.slice RA0_3 r.f3.length rc0_3) r.f3]
theorem qD.calls(k:Nat)(x0_:qJ)(x1_:Int)(x2_:List qC)(A0_4:Option Addr)(c0_4:Nat)(A0_5:Option Addr)(c0_5:Nat)(A0_6:Option Addr)(c0_6:Nat)(A2_0:Option Addr)(c2_0:Nat)(r:qAF)(W F:World)(hown:Sub F W)(g0_4:Rd qA.k F A0_4 c0_4 x0_.f4)(g0_5:Rd qM.k F A0_5 c0_5 x0_.f5)(g0_6:Rd qF.k F A0_6 c0_6 x0_.f6)(g2_0:Rd qC.k F A2_0 c2_0 x2_)(H:qD.f k x0_ x1_ x2_=some r):
    Calls Tryz.prog 53 #[.agg #[iv x0_.f0,iv x0_.f1,iv x0_.f2,iv x0_.f3,.slice A0_4 x0_.f4.length c0_4,.slice A0_5 x0_.f5.length c0_5,.slice A0_6 x0_.f6.length c0_6],iv x1_,.slice A2_0 x2_.length c2_0] W fun e w'=>∃ v,e = .returned v∧qD.Post W F r v w':=by
 have hS:=St.start (Own.nil hown)
 unfold qD.f at H
 refine enter (n:=187) rfl rfl rfl (Nat.le_of_ble_eq_true rfl) (fun a hE=>?_)
 refine sq fun K1 hK1=>pl0 (ple hE (.bx (t:=26) hS [iv x0_.f0,iv x0_.f1,iv x0_.f2,iv x0_.f3,.slice A0_4 x0_.f4.length c0_4,.slice A0_5 x0_.f5.length c0_5,.slice A0_6 x0_.f6.length c0_6]) ?_)
 rintro _ u3 a ⟨b2,rfl,hb2,hS,hg⟩ hE
 refine ple hE (.al (t:=74) hS [.bool false,iv 0,.slice none 0 0,.slice none 0 0]) ?_
 rintro _ u5 a ⟨b4,rfl,hb4,hS,hg⟩ hE
 refine pld (hK1 _ _ (sq fun K6 hK6=>pl0 ?_))
 have hb2:=hS.ba 1
 refine plc hE (.bn 0 0 7 hb2<|.r 1 1<|.nil) (fun a hE=>?_)
 obtain ⟨t8,h9,H⟩:=bd H
 refine ple hE (.cl en25 (qAJ.calls k x0_ x1_ _ _ _ _ _ _ _ _ _ hS.own.sub g0_4 g0_5 g0_6 h9)) ?_
 rintro _ u7 a ⟨F10,A11,c12,rfl,hC⟩ hE
 have hs:=hC.sub
 replace hS:=hS.called (X:=[]) hC
 replace g0_4:=g0_4.mono hs
 replace g0_5:=g0_5.mono hs
 replace g0_6:=g0_6.mono hs
 replace g2_0:=g2_0.mono hs
 refine plc hE (.r 3 1 .nil) (fun a hE=>pld (hK6 _ _ (sq fun K15 hK15=>pl0 ?_)))
 have hb2:=hS.ba 2
 refine plc hE (.bn 0 0 7 hb2<|.r 1 2<|.nil) (fun a hE=>?_)
 obtain ⟨t17,h18,H⟩:=bd H
 refine ple hE (.cl en55 (qk.calls k x0_ x1_ x2_ _ _ _ _ _ _ _ _ _ _ _ hS.own.sub g0_4 g0_5 g0_6 g2_0 h18)) ?_
 rintro _ u16 a ⟨F19,A20,c21,rfl,hC⟩ hE
 have hs:=hC.sub
 replace hS:=hS.called (X:=[]) hC
 replace g0_4:=g0_4.mono hs
 replace g0_5:=g0_5.mono hs
 replace g0_6:=g0_6.mono hs
 replace g2_0:=g2_0.mono hs
 refine plc hE (.r 4 1 .nil) (fun a hE=>pld (hK15 _ _ (sq fun K24 hK24=>pl0 ?_)))
 have hb2:=hS.ba 3
 refine plc hE (.r 0 3<|.b 3 2 hb2<|.r 4 2<|.nil) (fun a hE=>ple hE (.al (t:=74) hS [.bool false,iv 0,.slice none 0 0,.slice none 0 0]) ?_)
 rintro _ u26 a ⟨b25,rfl,hb25,hS,hg⟩ hE
 refine ple hE (.sto hS [.bool (decide ((t8.length:Int)≥x0_.f2)),iv 0,.slice none 0 0,.slice none 0 0]) ?_
 rintro _ u27 a ⟨rfl,hb25,hS,hz⟩ hE
 refine pld (hK24 _ _ (sq fun K28 hK28=>rr hE fun a hE=>(wp_block ?_)))
 replace hS:=hS.pm [0,3,4,1,2] 5
 refine wp_loop_ghost (fun kq33 a w'=>∃(G:Nat→Value)(x30:Int)(y31:Bool),kq33≤k∧Env 187 G a∧At G [(2,.slice A2_0 x2_.length c2_0),(3,.pointer (pb b2)),(6,.pointer (pb b4)),(7,.slice A11 t8.length c12),(8,.slice A20 t17.length c21),(9,.pointer (pb b25)),(10,iv x30)]∧St W (mine W []) F w' F19 [box b25 #[.bool y31,iv 0,.slice none 0 0,.slice none 0 0] 74,box b4 #[.bool false,iv 0,.slice none 0 0,.slice none 0 0] 74,box b2 #[iv x0_.f0,iv x0_.f1,iv x0_.f2,iv x0_.f3,.slice A0_4 x0_.f4.length c0_4,.slice A0_5 x0_.f5.length c0_5,.slice A0_6 x0_.f6.length c0_6] 26,row qE.k 51 (.slice A20 t17.length c21) t17,row ki 3 (.slice A11 t8.length c12) t8]∧qD.l32 kq33 x0_ x2_ t8 t17 x30 y31=some r) k ⟨_,0,(decide ((t8.length:Int)≥x0_.f2)),Nat.le_refl _,hE,.of,hS,H⟩ ?_
 rintro kq33 a u35 ⟨G,x30,y31,hkq,hE,hA,hS,H⟩
 obtain _ | k34:=kq33
 ·
  exact zz H
 rw [qD.l32_s]at H
 obtain ⟨J,hE⟩:=hE.at hA
 refine sq fun K36 hK36=>rr hE fun a hE=>?_
 refine hE.ik 36 H (fun c38 hE H=>?_) fun c38 hE H=>?_
 ·
  refine wp_skip (hK36 _ _ (sq fun K39 hK39=>wp_block (pl0 ?_)))
  have hb25:=hS.ba 0
  refine plc hE (.r 0 1<|.b 1 0 hb25<|.r 2 1<|.nil) (fun a hE=>?_)
  rcases sp H with ⟨c40,H⟩ | ⟨c40,H⟩
  ·
   replace hE:=hE.bt 41 c40
   obtain ⟨c41,H⟩:=gd H
   have hr42:=hS.ra 4
   have hE_:=hE
   obtain ⟨b43,rfl⟩:=qCK hr42 c41.1 c41.2
   replace hE:=hE_
   have hr_:=hS.ra 4
   obtain ⟨cs45,rfl,hc46⟩:=qCI hr_ 0 x30 c41.1 c41.2
   refine plc hE (.r 3 3<|.x 6 c41<|.c 7 (hc46 0 _ rfl)<|.nil) (fun a hE=>?_)
   obtain ⟨t48,h49,H⟩:=bd H
   refine ple hE (.cl en113 (qAI.calls k34 x2_ (nth 0 t8 x30) _ _ _ _ _ hS.own.sub g2_0 h49)) ?_
   rintro _ u47 a ⟨_,rfl,hC⟩ hE
   replace hS:=hS.lent hC
   refine plc hE (.r 9 2 .nil) (fun a hE=>ple hE (.sto hS [.bool t48,iv 0,.slice none 0 0,.slice none 0 0]) ?_)
   rintro _ u50 a ⟨rfl,hb25,hS,hz⟩ hE
   refine pld ?_
   refine qCF ?_
   refine hK39 _ _ (pl0 (plc hE (.r 0 3 .nil) (fun a hE=>pld ?_)))
   exact qCG ⟨k34,by omega,_,(w64 (x30+1)),t48,by omega,hE,.of,hS,H⟩
  replace hE:=hE.bf 41 c40
  refine plc hE (.r 3 8 .nil) (fun a hE=>ple hE (.sto hS [.bool false,iv 0,.slice none 0 0,.slice none 0 0]) ?_)
  rintro _ u51 a ⟨rfl,hb25,hS,hz⟩ hE
  refine pld ?_
  refine qCF ?_
  refine hK39 _ _ (pl0 (plc hE (.r 0 3 .nil) (fun a hE=>pld ?_)))
  exact qCG ⟨k34,by omega,_,(w64 (x30+1)),false,by omega,hE,.of,hS,H⟩
 refine wp_exit ?_
 refine hK28 _ _ (sq fun K52 hK52=>rr hE fun a hE=>(wp_block ?_))
 replace hS:=hS.nilrow ki 3
 replace hS:=hS.pm [1,2,3,4,5,0] 6
 refine wp_loop_ghost (fun kq60 a w'=>∃(G:Nat→Value)(x55:Int)(A56:Option Addr)(c57:Nat)(l58:List Int),kq60≤k34∧Env 187 G a∧At G [(2,.slice A2_0 x2_.length c2_0),(3,.pointer (pb b2)),(6,.pointer (pb b4)),(7,.slice A11 t8.length c12),(8,.slice A20 t17.length c21),(9,.pointer (pb b25)),(11,iv x55)]∧St W (mine W []) F w' F19 [box b25 #[.bool y31,iv 0,.slice A56 l58.length c57,.slice none 0 0] 74,box b4 #[.bool false,iv 0,.slice none 0 0,.slice none 0 0] 74,box b2 #[iv x0_.f0,iv x0_.f1,iv x0_.f2,iv x0_.f3,.slice A0_4 x0_.f4.length c0_4,.slice A0_5 x0_.f5.length c0_5,.slice A0_6 x0_.f6.length c0_6] 26,row qE.k 51 (.slice A20 t17.length c21) t17,row ki 3 (.slice A11 t8.length c12) t8,row ki 3 (.slice A56 l58.length c57) l58]∧qD.l59 kq60 x0_ x2_ t8 t17 y31 x55 l58=some r) k34 ⟨_,1,none,0,[],Nat.le_refl _,hE,.of,hS,H⟩ ?_
 rintro kq60 a u62 ⟨G,x55,A56,c57,l58,hkq,hE,hA,hS,H⟩
 obtain _ | k61:=kq60
 ·
  exact zz H
 rw [qD.l59_s]at H
 obtain ⟨J,hE⟩:=hE.at hA
 refine sq fun K63 hK63=>rr hE fun a hE=>?_
 refine hE.ik 51 H (fun c65 hE H=>?_) fun c65 hE H=>?_
 ·
  refine wp_skip (hK63 _ _ (sq fun K66 hK66=>wp_block (rr hE fun a hE=>(sq fun K68 hK68=>rr hE fun a hE=>(wp_block ?_)))))
  refine wp_loop_ghost (fun kq73 a w'=>∃(G:Nat→Value)(y70:Bool)(x71:Int),kq73≤k61∧Env 187 G a∧At G [(2,.slice A2_0 x2_.length c2_0),(3,.pointer (pb b2)),(6,.pointer (pb b4)),(7,.slice A11 t8.length c12),(8,.slice A20 t17.length c21),(9,.pointer (pb b25)),(11,iv x55),(12,.bool y70),(13,iv x71)]∧St W (mine W []) F w' F19 [box b25 #[.bool y31,iv 0,.slice A56 l58.length c57,.slice none 0 0] 74,box b4 #[.bool false,iv 0,.slice none 0 0,.slice none 0 0] 74,box b2 #[iv x0_.f0,iv x0_.f1,iv x0_.f2,iv x0_.f3,.slice A0_4 x0_.f4.length c0_4,.slice A0_5 x0_.f5.length c0_5,.slice A0_6 x0_.f6.length c0_6] 26,row qE.k 51 (.slice A20 t17.length c21) t17,row ki 3 (.slice A11 t8.length c12) t8,row ki 3 (.slice A56 l58.length c57) l58]∧qD.l72 kq73 x0_ x2_ t8 t17 y31 x55 l58 y70 x71=some r) k61 ⟨_,false,0,Nat.le_refl _,hE,.of,hS,H⟩ ?_
  rintro kq73 a u75 ⟨G,y70,x71,hkq,hE,hA,hS,H⟩
  obtain _ | k74:=kq73
  ·
   exact zz H
  rw [qD.l72_s]at H
  obtain ⟨J,hE⟩:=hE.at hA
  refine sq fun K76 hK76=>rr hE fun a hE=>?_
  refine hE.ik 57 H (fun c78 hE H=>?_) fun c78 hE H=>?_
  ·
   refine wp_skip (hK76 _ _ (sq fun K79 hK79=>wp_block (pl0 (plc hE (.r 0 2 .nil) (fun a hE=>?_)))))
   rcases sp H with ⟨c80,H⟩ | ⟨c80,H⟩
   ·
    replace hE:=hE.bt 12 c80
    replace hE:=hE.bt 61 c80
    refine plc hE (.r 2 8 .nil) (fun a hE=>pld ?_)
    refine qCF ?_
    refine hK79 _ _ (pl0 (plc hE (.r 0 3 .nil) (fun a hE=>pld ?_)))
    exact qCG ⟨k74,by omega,_,true,(w64 (x71+1)),by omega,hE,.of,hS,H⟩
   replace hE:=hE.bf 12 c80
   replace hE:=hE.bf 61 c80
   obtain ⟨c81,H⟩:=gd H
   have hr82:=hS.ra 4
   have hE_:=hE
   obtain ⟨b83,rfl⟩:=qCK hr82 c81.1 c81.2
   replace hE:=hE_
   have hr_:=hS.ra 4
   obtain ⟨cs85,rfl,hc86⟩:=qCI hr_ 0 x71 c81.1 c81.2
   refine plc hE (.r 2 2<|.x 4 c81<|.c 5 (hc86 0 _ rfl)<|.r 6 4<|.nil) (fun a hE=>pld ?_)
   refine qCF ?_
   refine hK79 _ _ (pl0 (plc hE (.r 0 3 .nil) (fun a hE=>pld ?_)))
   exact qCG ⟨k74,by omega,_,((nth 0 t8 x71) == x55),(w64 (x71+1)),by omega,hE,.of,hS,H⟩
  refine wp_exit ?_
  refine hK68 _ _ (sq fun K87 hK87=>rr hE fun a hE=>(wp_block ?_))
  refine wp_loop_ghost (fun kq92 a w'=>∃(G:Nat→Value)(y89:Bool)(x90:Int),kq92≤k74∧Env 187 G a∧At G [(2,.slice A2_0 x2_.length c2_0),(3,.pointer (pb b2)),(6,.pointer (pb b4)),(7,.slice A11 t8.length c12),(8,.slice A20 t17.length c21),(9,.pointer (pb b25)),(11,iv x55),(12,.bool y89),(14,iv x90)]∧St W (mine W []) F w' F19 [box b25 #[.bool y31,iv 0,.slice A56 l58.length c57,.slice none 0 0] 74,box b4 #[.bool false,iv 0,.slice none 0 0,.slice none 0 0] 74,box b2 #[iv x0_.f0,iv x0_.f1,iv x0_.f2,iv x0_.f3,.slice A0_4 x0_.f4.length c0_4,.slice A0_5 x0_.f5.length c0_5,.slice A0_6 x0_.f6.length c0_6] 26,row qE.k 51 (.slice A20 t17.length c21) t17,row ki 3 (.slice A11 t8.length c12) t8,row ki 3 (.slice A56 l58.length c57) l58]∧qD.l91 kq92 x0_ x2_ t8 t17 y31 x55 l58 y89 x90=some r) k74 ⟨_,y70,0,Nat.le_refl _,hE,.of,hS,H⟩ ?_
  rintro kq92 a u94 ⟨G,y89,x90,hkq,hE,hA,hS,H⟩
  obtain _ | k93:=kq92
  ·
   exact zz H
  rw [qD.l91_s]at H
  obtain ⟨J,hE⟩:=hE.at hA
  refine sq fun K95 hK95=>rr hE fun a hE=>?_
  refine hE.ik 72 H (fun c97 hE H=>?_) fun c97 hE H=>?_
  ·
   refine wp_skip (hK95 _ _ (sq fun K98 hK98=>wp_block (rr hE fun a hE=>(wp_block ?_))))
   refine wp_loop_ghost (fun kq103 a w'=>∃(G:Nat→Value)(y100:Bool)(x101:Int),kq103≤k93∧Env 187 G a∧At G [(2,.slice A2_0 x2_.length c2_0),(3,.pointer (pb b2)),(6,.pointer (pb b4)),(7,.slice A11 t8.length c12),(8,.slice A20 t17.length c21),(9,.pointer (pb b25)),(11,iv x55),(12,.bool y100),(14,iv x90),(15,iv x101)]∧St W (mine W []) F w' F19 [box b25 #[.bool y31,iv 0,.slice A56 l58.length c57,.slice none 0 0] 74,box b4 #[.bool false,iv 0,.slice none 0 0,.slice none 0 0] 74,box b2 #[iv x0_.f0,iv x0_.f1,iv x0_.f2,iv x0_.f3,.slice A0_4 x0_.f4.length c0_4,.slice A0_5 x0_.f5.length c0_5,.slice A0_6 x0_.f6.length c0_6] 26,row qE.k 51 (.slice A20 t17.length c21) t17,row ki 3 (.slice A11 t8.length c12) t8,row ki 3 (.slice A56 l58.length c57) l58]∧qD.l102 kq103 x0_ x2_ t8 t17 y31 x55 l58 x90 y100 x101=some r) k93 ⟨_,y89,0,Nat.le_refl _,hE,.of,hS,H⟩ ?_
   rintro kq103 a u105 ⟨G,y100,x101,hkq,hE,hA,hS,H⟩
   obtain _ | k104:=kq103
   ·
    exact zz H
   rw [qD.l102_s]at H
   obtain ⟨J,hE⟩:=hE.at hA
   refine sq fun K106 hK106=>sq fun K107 hK107=>pl0 ?_
   obtain ⟨c108,H⟩:=gd H
   have hr109:=hS.ra 3
   have hE_:=hE
   obtain ⟨b110,rfl⟩:=qCK hr109 c108.1 c108.2
   replace hE:=hE_
   have hr_:=hS.ra 3
   obtain ⟨cs112,⟨A114,c115,rfl,g116⟩,hc113⟩:=qCI hr_ qE.z x90 c108.1 c108.2
   refine plc hE (.r 0 3<|.x 3 c108<|.r 4 1<|.c 5 (hc113 1 _ rfl)<|.r 6 2<|.nil) (fun a hE=>pld (hK107 _ _ ?_))
   refine hE.ik 82 H (fun c117 hE H=>?_) fun c117 hE H=>?_
   ·
    refine wp_skip (hK106 _ _ (sq fun K118 hK118=>wp_block (pl0 (plc hE (.r 0 2 .nil) (fun a hE=>?_)))))
    rcases sp H with ⟨c119,H⟩ | ⟨c119,H⟩
    ·
     replace hE:=hE.bt 12 c119
     replace hE:=hE.bt 86 c119
     refine plc hE (.r 2 12 .nil) (fun a hE=>pld ?_)
     refine qCF ?_
     refine hK118 _ _ (pl0 (plc hE (.r 0 3 .nil) (fun a hE=>pld ?_)))
     exact qCG ⟨k104,by omega,_,true,(w64 (x101+1)),by omega,hE,.of,hS,H⟩
    replace hE:=hE.bf 12 c119
    replace hE:=hE.bf 86 c119
    have hr120:=hS.ra 3
    obtain ⟨c124,H⟩:=gd H
    have hE_:=hE
    obtain ⟨ad125,rfl⟩:=g116.addr c124.1 c124.2
    replace hE:=hE_
    obtain ⟨cs127,rfl,hc128⟩:=g116.el 0 x101 c124.1 c124.2
    refine plc hE (.r 2 2<|.x 4 c108<|.r 5 1<|.c 6 (hc113 1 _ rfl)<|.r 7 1<|.x 8 c124<|.c 9 (hS.fc hc128 0)<|.r 10 4<|.nil) (fun a hE=>pld ?_)
    refine qCF ?_
    refine hK118 _ _ (pl0 (plc hE (.r 0 3 .nil) (fun a hE=>pld ?_)))
    exact qCG ⟨k104,by omega,_,((nth 0 ((nth qE.z t17 x90).f1) x101) == x55),(w64 (x101+1)),by omega,hE,.of,hS,H⟩
   refine wp_exit ?_
   refine hK98 _ _ (pl0 (plc hE (.r 0 3 .nil) (fun a hE=>pld ?_)))
   exact qCG ⟨k104,by omega,_,y100,(w64 (x90+1)),by omega,hE,.of,hS,H⟩
  refine wp_exit ?_
  refine hK87 _ _ (sq fun K129 hK129=>?_)
  have J142:∀ kq140,kq140≤k93→∀(G:Nat→Value)(y138:Bool)(a:Act)(w':World),Env 187 G a→At G [(2,.slice A2_0 x2_.length c2_0),(3,.pointer (pb b2)),(6,.pointer (pb b4)),(7,.slice A11 t8.length c12),(8,.slice A20 t17.length c21),(9,.pointer (pb b25)),(11,iv x55),(109,.bool y138)]→St W (mine W []) F w' F19 [box b25 #[.bool y31,iv 0,.slice A56 l58.length c57,.slice none 0 0] 74,box b4 #[.bool false,iv 0,.slice none 0 0,.slice none 0 0] 74,box b2 #[iv x0_.f0,iv x0_.f1,iv x0_.f2,iv x0_.f3,.slice A0_4 x0_.f4.length c0_4,.slice A0_5 x0_.f5.length c0_5,.slice A0_6 x0_.f6.length c0_6] 26,row qE.k 51 (.slice A20 t17.length c21) t17,row ki 3 (.slice A11 t8.length c12) t8,row ki 3 (.slice A56 l58.length c57) l58]→qD.j139 kq140 x0_ x2_ t8 t17 y31 x55 l58 y138=some r→K129 a w':=by
   intro kq140 hkq G y138 a u143 hE hA hS H
   obtain _ | k141:=kq140
   ·
    exact zz H
   rw [qD.j139_s]at H
   obtain ⟨J,hE⟩:=hE.at hA
   refine hK129 _ _ ?_
   refine hE.ib 109 H (fun c144 hE H=>?_) fun c144 hE H=>?_
   ·
    refine pl0 ?_
    have hb25:=hS.ba 0
    refine plc hE (.r 0 1<|.b 1 2 hb25<|.r 2 1<|.nil) (fun a hE=>ple hE (.lit (d:=ki) (e:=3) hS [x55] (.cons rfl .nil)) ?_)
    rintro _ u145 a ⟨A146,c147,rfl,hS,hg⟩ hE
    obtain ⟨c149,H⟩:=gd H
    replace hS:=hS.front 6 rfl
    refine ple hE (.ap (d:=ki) 8 hS (qCO (hS.row_at (i:=1) rfl)) c149 c147) ?_
    rintro _ u152 a ⟨A150,c151,rfl,hS,hz⟩ hE
    refine plc hE (.r 5 1 .nil) (fun a hE=>?_)
    replace hS:=hS.front 2 rfl
    refine ple hE (.sto hS [.bool y31,iv 0,.slice A150 ((l58++[x55]).length) c151,.slice none 0 0]) ?_
    rintro _ u153 a ⟨rfl,hb25,hS,hz⟩ hE
    refine pld ?_
    refine qCF ?_
    refine hK66 _ _ (pl0 (plc hE (.r 0 3 .nil) (fun a hE=>pld ?_)))
    replace hS:=hS.pm [0,3,4,5,6,1] 7
    exact qCG ⟨k141,by omega,_,(w64 (x55+1)),A150,c151,(l58++[x55]),by omega,hE,.of,hS,H⟩
   refine wp_skip ?_
   refine qCF ?_
   refine hK66 _ _ (pl0 (plc hE (.r 0 3 .nil) (fun a hE=>pld ?_)))
   exact qCG ⟨k141,by omega,_,(w64 (x55+1)),A56,c57,l58,by omega,hE,.of,hS,H⟩
  refine pl0 (plc hE (.r 0 2 .nil) (fun a hE=>?_))
  rcases sp H with ⟨c130,H⟩ | ⟨c130,H⟩
  ·
   replace hE:=hE.bt 99 c130
   have hb2:=hS.ba 2
   refine plc hE (.bn 2 0 7 hb2<|.r 3 1<|.nil) (fun a hE=>?_)
   obtain ⟨t132,h133,H⟩:=bd H
   refine ple hE (.cl en56 (qAw.calls k93 x0_ x55 _ _ _ _ _ _ _ _ _ hS.own.sub g0_4 g0_5 g0_6 h133)) ?_
   rintro _ u131 a ⟨_,rfl,hC⟩ hE
   replace hS:=hS.lent hC
   refine plc hE (.r 5 2 .nil) (fun a hE=>?_)
   rcases sp H with ⟨c134,H⟩ | ⟨c134,H⟩
   ·
    replace hE:=hE.bt 104 c134
    refine plc hE (.r 7 2 .nil) (fun a hE=>?_)
    obtain ⟨t136,h137,H⟩:=bd H
    refine ple hE (.cl en113 (qAI.calls k93 x2_ x55 _ _ _ _ _ hS.own.sub g2_0 h137)) ?_
    rintro _ u135 a ⟨_,rfl,hC⟩ hE
    replace hS:=hS.lent hC
    refine plc hE (.r 10 2 .nil) (fun a hE=>pld ?_)
    exact J142 _ (by omega) _ (!t136) _ _ hE .of hS H
   replace hE:=hE.bf 104 c134
   refine plc hE (.r 7 5 .nil) (fun a hE=>pld ?_)
   exact J142 _ (by omega) _ false _ _ hE .of hS H
  replace hE:=hE.bf 99 c130
  refine plc hE (.r 2 10 .nil) (fun a hE=>pld ?_)
  exact J142 _ (by omega) _ false _ _ hE .of hS H
 refine wp_exit ?_
 refine hK52 _ _ (sq fun K155 hK155=>rr hE fun a hE=>(wp_block ?_))
 replace hS:=hS.nilrow ki 3
 replace hS:=hS.pm [1,2,3,4,6,0] 7
 refine wp_loop_ghost (fun kq164 a w'=>∃(G:Nat→Value)(x158:Int)(y159:Bool)(A160:Option Addr)(c161:Nat)(l162:List Int),kq164≤k61∧Env 187 G a∧At G [(2,.slice A2_0 x2_.length c2_0),(3,.pointer (pb b2)),(6,.pointer (pb b4)),(8,.slice A20 t17.length c21),(9,.pointer (pb b25)),(16,iv x158)]∧St W (mine W []) F w' F19 [box b25 #[.bool y159,iv 0,.slice A56 l58.length c57,.slice A160 l162.length c161] 74,box b4 #[.bool false,iv 0,.slice none 0 0,.slice none 0 0] 74,box b2 #[iv x0_.f0,iv x0_.f1,iv x0_.f2,iv x0_.f3,.slice A0_4 x0_.f4.length c0_4,.slice A0_5 x0_.f5.length c0_5,.slice A0_6 x0_.f6.length c0_6] 26,row qE.k 51 (.slice A20 t17.length c21) t17,row ki 3 (.slice A56 l58.length c57) l58,row ki 3 (.slice A160 l162.length c161) l162]∧qD.l163 kq164 x0_ x2_ t17 l58 x158 y159 l162=some r) k61 ⟨_,0,y31,none,0,[],Nat.le_refl _,hE,.of,hS,H⟩ ?_
 rintro kq164 a u166 ⟨G,x158,y159,A160,c161,l162,hkq,hE,hA,hS,H⟩
 obtain _ | k165:=kq164
 ·
  exact zz H
 rw [qD.l163_s]at H
 obtain ⟨J,hE⟩:=hE.at hA
 refine sq fun K167 hK167=>rr hE fun a hE=>?_
 refine hE.ik 119 H (fun c169 hE H=>?_) fun c169 hE H=>?_
 ·
  refine wp_skip (hK167 _ _ (sq fun K170 hK170=>wp_block (rr hE fun a hE=>(sq fun K172 hK172=>rr hE fun a hE=>(wp_block ?_)))))
  refine wp_loop_ghost (fun kq178 a w'=>∃(G:Nat→Value)(y174:Bool)(y175:Bool)(x176:Int),kq178≤k165∧Env 187 G a∧At G [(2,.slice A2_0 x2_.length c2_0),(3,.pointer (pb b2)),(6,.pointer (pb b4)),(8,.slice A20 t17.length c21),(9,.pointer (pb b25)),(16,iv x158),(17,.bool y174),(18,.bool y175),(19,iv x176)]∧St W (mine W []) F w' F19 [box b25 #[.bool y159,iv 0,.slice A56 l58.length c57,.slice A160 l162.length c161] 74,box b4 #[.bool false,iv 0,.slice none 0 0,.slice none 0 0] 74,box b2 #[iv x0_.f0,iv x0_.f1,iv x0_.f2,iv x0_.f3,.slice A0_4 x0_.f4.length c0_4,.slice A0_5 x0_.f5.length c0_5,.slice A0_6 x0_.f6.length c0_6] 26,row qE.k 51 (.slice A20 t17.length c21) t17,row ki 3 (.slice A56 l58.length c57) l58,row ki 3 (.slice A160 l162.length c161) l162]∧qD.l177 kq178 x0_ x2_ t17 l58 x158 y159 l162 y174 y175 x176=some r) k165 ⟨_,false,false,0,Nat.le_refl _,hE,.of,hS,H⟩ ?_
  rintro kq178 a u180 ⟨G,y174,y175,x176,hkq,hE,hA,hS,H⟩
  obtain _ | k179:=kq178
  ·
   exact zz H
  rw [qD.l177_s]at H
  obtain ⟨J,hE⟩:=hE.at hA
  refine sq fun K181 hK181=>sq fun K182 hK182=>pl0 ?_
  obtain ⟨c183,H⟩:=gd H
  have hr184:=hS.ra 3
  have hE_:=hE
  obtain ⟨b185,rfl⟩:=qCK hr184 c183.1 c183.2
  replace hE:=hE_
  have hr_:=hS.ra 3
  obtain ⟨cs187,⟨A189,c190,rfl,g191⟩,hc188⟩:=qCI hr_ qE.z x158 c183.1 c183.2
  refine plc hE (.r 0 3<|.x 3 c183<|.r 4 1<|.c 5 (hc188 1 _ rfl)<|.r 6 2<|.nil) (fun a hE=>pld (hK182 _ _ ?_))
  refine hE.ik 129 H (fun c192 hE H=>?_) fun c192 hE H=>?_
  ·
   refine wp_skip (hK181 _ _ (sq fun K193 hK193=>wp_block (sq fun K194 hK194=>?_)))
   have J212:∀ kq210,kq210≤k179→∀(G:Nat→Value)(y208:Bool)(a:Act)(w':World),Env 187 G a→At G [(2,.slice A2_0 x2_.length c2_0),(3,.pointer (pb b2)),(6,.pointer (pb b4)),(8,.slice (pb b185) t17.length c21),(9,.pointer (pb b25)),(16,iv x158),(17,.bool y208),(18,.bool y175),(19,iv x176)]→St W (mine W []) F w' F19 [box b25 #[.bool y159,iv 0,.slice A56 l58.length c57,.slice A160 l162.length c161] 74,box b4 #[.bool false,iv 0,.slice none 0 0,.slice none 0 0] 74,box b2 #[iv x0_.f0,iv x0_.f1,iv x0_.f2,iv x0_.f3,.slice A0_4 x0_.f4.length c0_4,.slice A0_5 x0_.f5.length c0_5,.slice A0_6 x0_.f6.length c0_6] 26,row qE.k 51 (.slice (pb b185) t17.length c21) t17,row ki 3 (.slice A56 l58.length c57) l58,row ki 3 (.slice A160 l162.length c161) l162]→qD.j209 kq210 x0_ x2_ t17 l58 x158 y159 l162 y175 x176 y208=some r→K194 a w':=by
    intro kq210 hkq G y208 a u213 hE hA hS H
    obtain _ | k211:=kq210
    ·
     exact zz H
    rw [qD.j209_s]at H
    obtain ⟨J,hE⟩:=hE.at hA
    refine hK194 _ _ ?_
    refine drawn 14 ⟨[],[],fun q=>False⟩ mixed rfl (by kernel_rfl) (fun hst=>?_)
    replace hS:=hS.drew
    refine mny 12 hst hE (.r 0 2 .nil) (fun a hE=>?_)
    rcases sp H with ⟨c214,H⟩ | ⟨c214,H⟩
    ·
     replace hE:=hE.bt 18 c214
     replace hE:=hE.bt 146 c214
     refine mny 0 hst hE (.r 2 12 .nil) (fun a hE=>?_)
     refine dn ?_
     refine qCF ?_
     refine hK193 _ _ (pl0 (plc hE (.r 0 3 .nil) (fun a hE=>pld ?_)))
     exact qCG ⟨k211,by omega,_,y208,true,(w64 (x176+1)),by omega,hE,.of,hS,H⟩
    replace hE:=hE.bf 18 c214
    replace hE:=hE.bf 146 c214
    have hb2:=hS.ba 2
    have hr215:=hS.ra 3
    have hr_:=hS.ra 3
    obtain ⟨cs217,⟨A219,c220,rfl,g221⟩,hc218⟩:=qCI hr_ qE.z x158 c183.1 c183.2
    obtain ⟨c222,H⟩:=gd H
    have hE_:=hE
    obtain ⟨ad223,rfl⟩:=g221.addr c222.1 c222.2
    replace hE:=hE_
    obtain ⟨cs225,rfl,hc226⟩:=g221.el 0 x176 c222.1 c222.2
    refine mny 3 hst hE (.bn 2 0 7 hb2<|.r 3 2<|.x 5 c183<|.r 6 1<|.c 7 (hc218 1 _ rfl)<|.r 8 1<|.x 9 c222<|.c 10 (hS.fc hc226 0)<|.nil) (fun a hE=>?_)
    obtain ⟨t228,h229,H⟩:=bd H
    refine on1 11 hE (.cl en56 (qAw.calls k211 x0_ (nth 0 ((nth qE.z t17 x158).f1) x176) _ _ _ _ _ _ _ _ _ hS.own.sub g0_4 g0_5 g0_6 h229)) ?_
    rintro _ u227 a ⟨_,rfl,hC⟩ hE
    refine ⟨.of hC.agr,?_⟩
    replace hS:=hS.lent hC
    refine mny 0 hst hE (.r 12 2 .nil) (fun a hE=>?_)
    refine dn ?_
    refine qCF ?_
    refine hK193 _ _ (pl0 (plc hE (.r 0 3 .nil) (fun a hE=>pld ?_)))
    exact qCG ⟨k211,by omega,_,y208,t228,(w64 (x176+1)),by omega,hE,.of,hS,H⟩
   refine pl0 (plc hE (.r 0 2 .nil) (fun a hE=>?_))
   rcases sp H with ⟨c195,H⟩ | ⟨c195,H⟩
   ·
    replace hE:=hE.bt 17 c195
    replace hE:=hE.bt 133 c195
    refine plc hE (.r 2 12 .nil) (fun a hE=>pld ?_)
    exact J212 _ (by omega) _ true _ _ hE .of hS H
   replace hE:=hE.bf 17 c195
   replace hE:=hE.bf 133 c195
   have hr196:=hS.ra 3
   obtain ⟨c200,H⟩:=gd H
   have hE_:=hE
   obtain ⟨ad201,rfl⟩:=g191.addr c200.1 c200.2
   replace hE:=hE_
   obtain ⟨cs203,rfl,hc204⟩:=g191.el 0 x176 c200.1 c200.2
   refine plc hE (.r 2 3<|.x 5 c183<|.r 6 1<|.c 7 (hc188 1 _ rfl)<|.r 8 1<|.x 9 c200<|.c 10 (hS.fc hc204 0)<|.nil) (fun a hE=>?_)
   obtain ⟨t206,h207,H⟩:=bd H
   refine ple hE (.cl en113 (qAI.calls k179 x2_ (nth 0 ((nth qE.z t17 x158).f1) x176) _ _ _ _ _ hS.own.sub g2_0 h207)) ?_
   rintro _ u205 a ⟨_,rfl,hC⟩ hE
   replace hS:=hS.lent hC
   refine plc hE (.r 12 2 .nil) (fun a hE=>pld ?_)
   exact J212 _ (by omega) _ t206 _ _ hE .of hS H
  refine wp_exit ?_
  refine hK172 _ _ (sq fun K230 hK230=>?_)
  have J238:∀ kq236,kq236≤k179→∀(G:Nat→Value)(y234:Bool)(a:Act)(w':World),Env 187 G a→At G [(2,.slice A2_0 x2_.length c2_0),(3,.pointer (pb b2)),(6,.pointer (pb b4)),(8,.slice (pb b185) t17.length c21),(9,.pointer (pb b25)),(16,iv x158),(17,.bool y174),(18,.bool y175)]→St W (mine W []) F w' F19 [box b25 #[.bool y234,iv 0,.slice A56 l58.length c57,.slice A160 l162.length c161] 74,box b4 #[.bool false,iv 0,.slice none 0 0,.slice none 0 0] 74,box b2 #[iv x0_.f0,iv x0_.f1,iv x0_.f2,iv x0_.f3,.slice A0_4 x0_.f4.length c0_4,.slice A0_5 x0_.f5.length c0_5,.slice A0_6 x0_.f6.length c0_6] 26,row qE.k 51 (.slice (pb b185) t17.length c21) t17,row ki 3 (.slice A56 l58.length c57) l58,row ki 3 (.slice A160 l162.length c161) l162]→qD.j235 kq236 x0_ x2_ t17 l58 x158 l162 y174 y175 y234=some r→K230 a w':=by
   intro kq236 hkq G y234 a u239 hE hA hS H
   obtain _ | k237:=kq236
   ·
    exact zz H
   rw [qD.j235_s]at H
   obtain ⟨J,hE⟩:=hE.at hA
   refine hK230 _ _ (sq fun K240 hK240=>?_)
   have J246:∀ kq244,kq244≤k237→∀(G:Nat→Value)(y242:Bool)(a:Act)(w':World),Env 187 G a→At G [(2,.slice A2_0 x2_.length c2_0),(3,.pointer (pb b2)),(6,.pointer (pb b4)),(8,.slice (pb b185) t17.length c21),(9,.pointer (pb b25)),(16,iv x158),(169,.bool y242)]→St W (mine W []) F w' F19 [box b25 #[.bool y234,iv 0,.slice A56 l58.length c57,.slice A160 l162.length c161] 74,box b4 #[.bool false,iv 0,.slice none 0 0,.slice none 0 0] 74,box b2 #[iv x0_.f0,iv x0_.f1,iv x0_.f2,iv x0_.f3,.slice A0_4 x0_.f4.length c0_4,.slice A0_5 x0_.f5.length c0_5,.slice A0_6 x0_.f6.length c0_6] 26,row qE.k 51 (.slice (pb b185) t17.length c21) t17,row ki 3 (.slice A56 l58.length c57) l58,row ki 3 (.slice A160 l162.length c161) l162]→qD.j243 kq244 x0_ x2_ t17 l58 x158 l162 y234 y242=some r→K240 a w':=by
    intro kq244 hkq G y242 a u247 hE hA hS H
    obtain _ | k245:=kq244
    ·
     exact zz H
    rw [qD.j243_s]at H
    obtain ⟨J,hE⟩:=hE.at hA
    refine hK240 _ _ ?_
    refine hE.ib 169 H (fun c248 hE H=>?_) fun c248 hE H=>?_
    ·
     refine drawn 11 ⟨[8,10],[],fun q=>False⟩ mixed rfl (by kernel_rfl) (fun hst=>?_)
     replace hS:=hS.drew
     have hb25:=hS.ba 0
     have hr249:=hS.ra 3
     have hr_:=hS.ra 3
     obtain ⟨cs251,⟨A253,c254,rfl,g255⟩,hc252⟩:=qCI hr_ qE.z x158 c183.1 c183.2
     refine mny 4 hst hE (.r 0 1<|.b 1 3 hb25<|.r 2 2<|.x 4 c183<|.r 5 1<|.c 6 (hc252 0 _ rfl)<|.nil) (fun a hE=>?_)
     refine on1 7 hE (.lit (d:=ki) (e:=3) hS [(nth qE.z t17 x158).f0] (.cons rfl .nil)) ?_
     rintro _ u256 a ⟨A257,c258,rfl,hS,hg⟩ hE
     refine ⟨.of hg,?_⟩
     obtain ⟨c260,H⟩:=gd H
     replace hS:=hS.front 6 rfl
     refine on1 8 hE (.ap (d:=ki) 8 hS (qCO (hS.row_at (i:=1) rfl)) c260 c258) ?_
     rintro _ u263 a ⟨A261,c262,rfl,hS,hz⟩ hE
     refine ⟨.d,?_⟩
     refine mny 1 hst hE (.r 9 1 .nil) (fun a hE=>?_)
     replace hS:=hS.front 2 rfl
     refine on1 10 hE (.sto hS [.bool y234,iv 0,.slice A56 l58.length c57,.slice A261 ((l162++[(nth qE.z t17 x158).f0]).length) c262]) ?_
     rintro _ u264 a ⟨rfl,hb25,hS,hz⟩ hE
     refine ⟨.d,?_⟩
     refine dn ?_
     refine qCF ?_
     refine hK170 _ _ (pl0 (plc hE (.r 0 3 .nil) (fun a hE=>pld ?_)))
     replace hS:=hS.pm [0,3,4,5,6,1] 7
     exact qCG ⟨k245,by omega,_,(w64 (x158+1)),y234,A261,c262,(l162++[(nth qE.z t17 x158).f0]),by omega,hE,.of,hS,H⟩
    refine wp_skip ?_
    refine qCF ?_
    refine hK170 _ _ (pl0 (plc hE (.r 0 3 .nil) (fun a hE=>pld ?_)))
    exact qCG ⟨k245,by omega,_,(w64 (x158+1)),y234,A160,c161,l162,by omega,hE,.of,hS,H⟩
   refine pl0 (plc hE (.r 0 3 .nil) (fun a hE=>?_))
   rcases sp H with ⟨c241,H⟩ | ⟨c241,H⟩
   ·
    replace hE:=hE.btn 166 c241
    refine plc hE (.r 3 3 .nil) (fun a hE=>pld ?_)
    exact J246 _ (by omega) _ false _ _ hE .of hS H
   replace hE:=hE.bfn 166 c241
   refine plc hE (.r 3 3 .nil) (fun a hE=>pld ?_)
   exact J246 _ (by omega) _ (!y175) _ _ hE .of hS H
  refine pl0 ?_
  have hb25:=hS.ba 0
  refine plc hE (.r 0 1<|.b 1 0 hb25<|.r 2 1<|.nil) (fun a hE=>?_)
  rcases sp H with ⟨c231,H⟩ | ⟨c231,H⟩
  ·
   replace hE:=hE.bt 160 c231
   refine plc hE (.r 3 3 .nil) (fun a hE=>ple hE (.sto hS [.bool y174,iv 0,.slice A56 l58.length c57,.slice A160 l162.length c161]) ?_)
   rintro _ u232 a ⟨rfl,hb25,hS,hz⟩ hE
   refine pld ?_
   exact J238 _ (by omega) _ y174 _ _ hE .of hS H
  replace hE:=hE.bf 160 c231
  refine plc hE (.r 3 3 .nil) (fun a hE=>ple hE (.sto hS [.bool false,iv 0,.slice A56 l58.length c57,.slice A160 l162.length c161]) ?_)
  rintro _ u233 a ⟨rfl,hb25,hS,hz⟩ hE
  refine pld ?_
  exact J238 _ (by omega) _ false _ _ hE .of hS H
 refine wp_exit ?_
 refine hK155 _ _ (sq fun K266 hK266=>?_)
 have J277:∀ kq275,kq275≤k165→∀(G:Nat→Value)(x273:Int)(a:Act)(w':World),Env 187 G a→At G [(6,.pointer (pb b4)),(9,.pointer (pb b25))]→St W (mine W []) F w' F19 [box b25 #[.bool y159,iv x273,.slice A56 l58.length c57,.slice A160 l162.length c161] 74,box b4 #[.bool false,iv 0,.slice none 0 0,.slice none 0 0] 74,box b2 #[iv x0_.f0,iv x0_.f1,iv x0_.f2,iv x0_.f3,.slice A0_4 x0_.f4.length c0_4,.slice A0_5 x0_.f5.length c0_5,.slice A0_6 x0_.f6.length c0_6] 26,row ki 3 (.slice A56 l58.length c57) l58,row ki 3 (.slice A160 l162.length c161) l162]→qD.j274 kq275 l58 y159 l162 x273=some r→K266 a w':=by
  intro kq275 hkq G x273 a u278 hE hA hS H
  obtain _ | k276:=kq275
  ·
   exact zz H
  rw [qD.j274_s]at H
  obtain ⟨J,hE⟩:=hE.at hA
  refine hK266 _ _ (sq fun K279 hK279=>pl0 ?_)
  have hb25:=hS.ba 0
  refine plc hE (.bn 0 0 4 hb25 .nil) (fun a hE=>?_)
  replace hS:=hS.front 1 rfl
  refine ple hE (.sto hS [.bool y159,iv x273,.slice A56 l58.length c57,.slice A160 l162.length c161]) ?_
  rintro _ u280 a ⟨rfl,hb4,hS,hz⟩ hE
  refine pld (hK279 _ _ (wp_ret ?_))
  replace hS:=hS.pm [] 3
  obtain rfl:=si H
  exact ret1 hE rfl (.cell (by kernel_rfl) (qCJ [.bool y159,iv x273,.slice A56 l58.length c57,.slice A160 l162.length c161] ag74 sz74 hb4 rfl) .nil) ⟨_,rfl,_,_,_,_,_,rfl,hS⟩
 refine sq fun K267 hK267=>pl0 ?_
 have hb25:=hS.ba 0
 refine plc hE (.r 0 1<|.b 1 0 hb25<|.nil) (fun a hE=>pld (hK267 _ _ ?_))
 refine hE.ib 181 H (fun c268 hE H=>?_) fun c268 hE H=>?_
 ·
  refine pl0 (plc hE (.r 0 1 .nil) (fun a hE=>?_))
  obtain ⟨t270,h271,H⟩:=bd H
  refine ple hE (.cl en62 (qAR.calls k165 x2_ _ _ _ _ _ hS.own.sub g2_0 h271)) ?_
  rintro _ u269 a ⟨_,rfl,hC⟩ hE
  replace hS:=hS.lent hC
  refine plc hE (.r 2 2 .nil) (fun a hE=>ple hE (.sto hS [.bool y159,iv t270.f0,.slice A56 l58.length c57,.slice A160 l162.length c161]) ?_)
  rintro _ u272 a ⟨rfl,hb25,hS,hz⟩ hE
  refine pld ?_
  replace hS:=hS.pm [0,1,2] 4
  exact J277 _ (by omega) _ t270.f0 _ _ hE .of hS H
 refine wp_skip ?_
 replace hS:=hS.pm [0,1,2] 4
 exact J277 _ (by omega) _ 0 _ _ hE .of hS H
mutual
def qp.l9:Nat→List qE→List qE→Int→Option Bool
 | 0,_,_,_=>none
 | k+1,x0_,x1_,x8=>if x8<(x0_.length:Int) then (if 0≤x8∧x8<(x0_.length:Int) then (if 0≤x8∧x8<(x1_.length:Int) then (if (nth qE.z x0_ x8).f0=(nth qE.z x1_ x8).f0 then ((qz.f k ((nth qE.z x0_ x8).f1) ((nth qE.z x1_ x8).f1)).bind fun t42=>(qp.j45 k x0_ x1_ x8 (!t42))) else (qp.j45 k x0_ x1_ x8 true)) else (none)) else (none)) else (some true)
def qp.j45:Nat→List qE→List qE→Int→Bool→Option Bool
 | 0,_,_,_,_=>none
 | k+1,x0_,x1_,x8,y44=>if y44=true then (some false) else (qp.l9 k x0_ x1_ (w64 (x8+1)))
end
theorem qp.l9_s k x0_ x1_ x8:type_of% (qp.l9.eq_2 x0_ x1_ x8 k):=qp.l9.eq_2 x0_ x1_ x8 k
theorem qp.j45_s k x0_ x1_ x8 y44:type_of% (qp.j45.eq_2 x0_ x1_ x8 y44 k):=qp.j45.eq_2 x0_ x1_ x8 y44 k
def qp.f(k:Nat)(x0_:List qE)(x1_:List qE):Option Bool:=if (x0_.length:Int)=(x1_.length:Int) then (qp.l9 k x0_ x1_ 0) else (some false)
def qp.Post(W F:World)(r:Bool)(v:Value)(w':World):Prop:=∃(F':World),v = .bool r∧St W (mine W []) F w' F' []
theorem qp.calls(k:Nat)(x0_:List qE)(x1_:List qE)(A0_0:Option Addr)(c0_0:Nat)(A1_0:Option Addr)(c1_0:Nat)(r:Bool)(W F:World)(hown:Sub F W)(g0_0:Rd qE.k F A0_0 c0_0 x0_)(g1_0:Rd qE.k F A1_0 c1_0 x1_)(H:qp.f k x0_ x1_=some r):
    Calls Tryz.prog 54 #[.slice A0_0 x0_.length c0_0,.slice A1_0 x1_.length c1_0] W fun e w'=>∃ v,e = .returned v∧qp.Post W F r v w':=by
 have hS:=St.start (Own.nil hown)
 unfold qp.f at H
 refine enter (n:=42) rfl rfl rfl (Nat.le_of_ble_eq_true rfl) (fun a hE=>?_)
 refine rr hE fun a hE=>(sq fun K2 hK2=>rr hE fun a hE=>?_)
 refine hE.ikn 10 H (fun c4 hE H=>?_) fun c4 hE H=>?_
 ·
  refine wp_skip (hK2 _ _ (sq fun K6 hK6=>rr hE fun a hE=>(wp_block ?_)))
  refine wp_loop_ghost (fun kq10 a w'=>∃(G:Nat→Value)(x8:Int),kq10≤k∧Env 42 G a∧At G [(0,.slice A0_0 x0_.length c0_0),(1,.slice A1_0 x1_.length c1_0),(5,iv x8)]∧St W (mine W []) F w' F []∧qp.l9 kq10 x0_ x1_ x8=some r) k ⟨_,0,Nat.le_refl _,hE,.of,hS,H⟩ ?_
  rintro kq10 a u12 ⟨G,x8,hkq,hE,hA,hS,H⟩
  obtain _ | k11:=kq10
  ·
   exact zz H
  rw [qp.l9_s]at H
  obtain ⟨J,hE⟩:=hE.at hA
  refine sq fun K13 hK13=>rr hE fun a hE=>?_
  refine hE.ik 14 H (fun c15 hE H=>?_) fun c15 hE H=>?_
  ·
   refine wp_skip (hK13 _ _ (sq fun K16 hK16=>wp_block (sq fun K17 hK17=>?_)))
   have J48:∀ kq46,kq46≤k11→∀(G:Nat→Value)(y44:Bool)(a:Act)(w':World),Env 42 G a→At G [(0,.slice A0_0 x0_.length c0_0),(1,.slice A1_0 x1_.length c1_0),(5,iv x8),(41,.bool y44)]→St W (mine W []) F w' F []→qp.j45 kq46 x0_ x1_ x8 y44=some r→K17 a w':=by
    intro kq46 hkq G y44 a u49 hE hA hS H
    obtain _ | k47:=kq46
    ·
     exact zz H
    rw [qp.j45_s]at H
    obtain ⟨J,hE⟩:=hE.at hA
    refine hK17 _ _ ?_
    refine hE.ib 41 H (fun c50 hE H=>?_) fun c50 hE H=>?_
    ·
     refine rr hE fun a hE=>(wp_ret (qCE (qCD (qCD (qCE (qCD ?_))))))
     obtain rfl:=si H
     exact rt1 hE ⟨_,rfl,_,rfl,hS⟩
    refine wp_skip ?_
    refine qCF ?_
    refine hK16 _ _ (pl0 (plc hE (.r 0 3 .nil) (fun a hE=>pld ?_)))
    exact qCG ⟨k47,by omega,_,(w64 (x8+1)),by omega,hE,.of,hS,H⟩
   refine drawn 25 ⟨[],[],fun q=>False⟩ mixed rfl (by kernel_rfl) (fun hst=>?_)
   replace hS:=hS.drew
   obtain ⟨c18,H⟩:=gd H
   have hE_:=hE
   obtain ⟨ad19,rfl⟩:=g0_0.addr c18.1 c18.2
   replace hE:=hE_
   obtain ⟨cs21,⟨A23,c24,rfl,g25⟩,hc22⟩:=g0_0.el qE.z x8 c18.1 c18.2
   obtain ⟨c26,H⟩:=gd H
   have hE_:=hE
   obtain ⟨ad27,rfl⟩:=g1_0.addr c26.1 c26.2
   replace hE:=hE_
   obtain ⟨cs29,⟨A31,c32,rfl,g33⟩,hc30⟩:=g1_0.el qE.z x8 c26.1 c26.2
   refine mny 13 hst hE (.r 0 2<|.x 2 c18<|.r 3 1<|.c 4 (hS.fc hc22 0)<|.r 5 2<|.x 7 c26<|.r 8 1<|.c 9 (hS.fc hc30 0)<|.r 10 2<|.nil) (fun a hE=>?_)
   rcases sp H with ⟨c34,H⟩ | ⟨c34,H⟩
   ·
    replace hE:=hE.ktn 28 c34
    refine mny 3 hst hE (.r 12 2<|.x 14 c18<|.r 15 1<|.c 16 (hS.fc hc22 1)<|.r 17 2<|.x 19 c26<|.r 20 1<|.c 21 (hS.fc hc30 1)<|.nil) (fun a hE=>?_)
    obtain ⟨t42,h43,H⟩:=bd H
    refine on1 22 hE (.cl en21 (qz.calls k11 ((nth qE.z x0_ x8).f1) ((nth qE.z x1_ x8).f1) _ _ _ _ _ _ _ hS.own.sub g25 g33 h43)) ?_
    rintro _ u41 a ⟨_,rfl,hC⟩ hE
    refine ⟨.of hC.agr,?_⟩
    replace hS:=hS.lent hC
    refine mny 0 hst hE (.r 23 2 .nil) (fun a hE=>?_)
    refine dn ?_
    exact J48 _ (by omega) _ (!t42) _ _ hE .of hS H
   replace hE:=hE.kfn 28 c34
   refine mny 0 hst hE (.r 12 13 .nil) (fun a hE=>?_)
   refine dn ?_
   exact J48 _ (by omega) _ true _ _ hE .of hS H
  refine wp_exit ?_
  refine hK6 _ _ (rr hE fun a hE=>(wp_ret ?_))
  obtain rfl:=si H
  exact rt1 hE ⟨_,rfl,_,rfl,hS⟩
 refine rr hE fun a hE=>(wp_ret (qCD ?_))
 obtain rfl:=si H
 exact rt1 hE ⟨_,rfl,_,rfl,hS⟩
def qq.j11:Nat→qJ→Int→List qC→Bool→Option Bool
 | 0,_,_,_,_=>none
 | k+1,x0_,x1_,x2_,y10=>if y10=true then ((qAe.f k).bind fun t19=>(some t19)) else ((qh.f k x0_ x1_ x2_).bind fun t23=>((qAk.f k x0_ x1_ x2_).bind fun t39=>((qAt.f k x0_ x1_ x2_).bind fun t49=>(if t49=true then ((qD.f k x0_ x1_ x2_).bind fun t64=>(if t23.2=0 then (if t23.1.f0=t64.f0 then (if t23.1.f1=t64.f1 then ((qz.f k t23.1.f2 t64.f2).bind fun t83=>(if t83=true then ((qz.f k t23.1.f3 t64.f3).bind fun t87=>(if t87=true then ((qk.f k x0_ x1_ x2_).bind fun t91=>((qp.f k t39 t91).bind fun t99=>(if t99=true then ((qAe.f k).bind fun t103=>(some t103)) else (some false)))) else (some false))) else (some false))) else (some false)) else (some false)) else (some false))) else (if t23.2=1 then (if t23.1.f0=true then (some false) else (if t23.1.f1=0 then (if (t23.1.f2.length:Int)=0 then (if (t23.1.f3.length:Int)=0 then (if (t39.length:Int)=0 then ((qAe.f k).bind fun t60=>(some t60)) else (some false)) else (some false)) else (some false)) else (some false))) else (some false))))))
theorem qq.j11_s k x0_ x1_ x2_ y10:type_of% (qq.j11.eq_2 x0_ x1_ x2_ y10 k):=qq.j11.eq_2 x0_ x1_ x2_ y10 k
def qq.f(k:Nat)(x0_:qJ)(x1_:Int)(x2_:List qC):Option Bool:=(qU.f k x0_).bind fun t7=>(if t7=true then (qq.j11 k x0_ x1_ x2_ (decide ((x2_.length:Int)>30))) else (qq.j11 k x0_ x1_ x2_ true))
def qq.Post(W F:World)(r:Bool)(v:Value)(w':World):Prop:=∃(F':World),v = .bool r∧St W (mine W []) F w' F' []
theorem qq.calls(k:Nat)(x0_:qJ)(x1_:Int)(x2_:List qC)(A0_4:Option Addr)(c0_4:Nat)(A0_5:Option Addr)(c0_5:Nat)(A0_6:Option Addr)(c0_6:Nat)(A2_0:Option Addr)(c2_0:Nat)(r:Bool)(W F:World)(hown:Sub F W)(g0_4:Rd qA.k F A0_4 c0_4 x0_.f4)(g0_5:Rd qM.k F A0_5 c0_5 x0_.f5)(g0_6:Rd qF.k F A0_6 c0_6 x0_.f6)(g2_0:Rd qC.k F A2_0 c2_0 x2_)(H:qq.f k x0_ x1_ x2_=some r):
    Calls Tryz.prog 11 #[.agg #[iv x0_.f0,iv x0_.f1,iv x0_.f2,iv x0_.f3,.slice A0_4 x0_.f4.length c0_4,.slice A0_5 x0_.f5.length c0_5,.slice A0_6 x0_.f6.length c0_6],iv x1_,.slice A2_0 x2_.length c2_0] W fun e w'=>∃ v,e = .returned v∧qq.Post W F r v w':=by
 have hS:=St.start (Own.nil hown)
 unfold qq.f at H
 refine enter (n:=113) rfl rfl rfl (Nat.le_of_ble_eq_true rfl) (fun a hE=>?_)
 refine sq fun K1 hK1=>pl0 (ple hE (.bx (t:=26) hS [iv x0_.f0,iv x0_.f1,iv x0_.f2,iv x0_.f3,.slice A0_4 x0_.f4.length c0_4,.slice A0_5 x0_.f5.length c0_5,.slice A0_6 x0_.f6.length c0_6]) ?_)
 rintro _ u3 a ⟨b2,rfl,hb2,hS,hg⟩ hE
 refine plc hE (.r 1 1 .nil) (fun a hE=>pld (hK1 _ _ (sq fun K4 hK4=>sq fun K5 hK5=>?_)))
 have J14:∀ kq12,kq12≤k→∀(G:Nat→Value)(y10:Bool)(a:Act)(w':World),Env 113 G a→At G [(1,iv x1_),(2,.slice A2_0 x2_.length c2_0),(3,.pointer (pb b2)),(18,.bool y10)]→St W (mine W []) F w' F [box b2 #[iv x0_.f0,iv x0_.f1,iv x0_.f2,iv x0_.f3,.slice A0_4 x0_.f4.length c0_4,.slice A0_5 x0_.f5.length c0_5,.slice A0_6 x0_.f6.length c0_6] 26]→qq.j11 kq12 x0_ x1_ x2_ y10=some r→K5 a w':=by
  intro kq12 hkq G y10 a u15 hE hA hS H
  obtain _ | k13:=kq12
  ·
   exact zz H
  rw [qq.j11_s]at H
  obtain ⟨J,hE⟩:=hE.at hA
  refine hK5 _ _ ?_
  refine hE.ib 18 H (fun c16 hE H=>?_) fun c16 hE H=>?_
  ·
   refine sq fun K17 hK17=>pl0 ?_
   obtain ⟨t19,h20,H⟩:=bd H
   refine ple hE (.cl en49 (qAe.calls k13 _ _ _ hS.own.sub h20)) ?_
   rintro _ u18 a ⟨_,rfl,hC⟩ hE
   replace hS:=hS.lent hC
   refine plc hE (.r 1 1 .nil) (fun a hE=>pld (hK17 _ _ (wp_ret (qCD ?_))))
   replace hS:=hS.tail
   obtain rfl:=si H
   exact rt1 hE ⟨_,rfl,_,rfl,hS⟩
  refine wp_skip (hK4 _ _ (sq fun K21 hK21=>pl0 ?_))
  have hb2:=hS.ba 0
  refine plc hE (.bn 0 0 7 hb2<|.r 1 2<|.nil) (fun a hE=>?_)
  obtain ⟨t23,h24,H⟩:=bd H
  refine ple hE (.cl en50 (qh.calls k13 x0_ x1_ x2_ _ _ _ _ _ _ _ _ _ _ _ hS.own.sub g0_4 g0_5 g0_6 g2_0 h24)) ?_
  rintro _ u22 a ⟨F25,A26,c27,A30,c31,rfl,hC⟩ hE
  have hs:=hC.sub
  replace hS:=hS.called (X:=[]) hC
  replace g2_0:=g2_0.mono hs
  replace g0_4:=g0_4.mono hs
  replace g0_5:=g0_5.mono hs
  replace g0_6:=g0_6.mono hs
  refine plc hE (.r 4 3 .nil) (fun a hE=>ple hE (.al (t:=74) hS [.bool false,iv 0,.slice none 0 0,.slice none 0 0]) ?_)
  rintro _ u35 a ⟨b34,rfl,hb34,hS,hg⟩ hE
  refine ple hE (.sto hS [.bool t23.1.f0,iv t23.1.f1,.slice A26 t23.1.f2.length c27,.slice A30 t23.1.f3.length c31]) ?_
  rintro _ u36 a ⟨rfl,hb34,hS,hz⟩ hE
  refine plc hE (.r 9 1 .nil) (fun a hE=>pld (hK21 _ _ (sq fun K37 hK37=>pl0 ?_)))
  have hb2:=hS.ba 3
  refine plc hE (.bn 0 0 7 hb2<|.r 1 2<|.nil) (fun a hE=>?_)
  obtain ⟨t39,h40,H⟩:=bd H
  refine ple hE (.cl en51 (qAk.calls k13 x0_ x1_ x2_ _ _ _ _ _ _ _ _ _ _ _ hS.own.sub g0_4 g0_5 g0_6 g2_0 h40)) ?_
  rintro _ u38 a ⟨F41,A42,c43,rfl,hC⟩ hE
  have hs:=hC.sub
  replace hS:=hS.called (X:=[]) hC
  replace g2_0:=g2_0.mono hs
  replace g0_4:=g0_4.mono hs
  replace g0_5:=g0_5.mono hs
  replace g0_6:=g0_6.mono hs
  refine plc hE (.r 4 1 .nil) (fun a hE=>pld (hK37 _ _ (sq fun K46 hK46=>sq fun K47 hK47=>pl0 ?_)))
  have hb2:=hS.ba 4
  refine plc hE (.bn 0 0 7 hb2<|.r 1 2<|.nil) (fun a hE=>?_)
  obtain ⟨t49,h50,H⟩:=bd H
  refine ple hE (.cl en52 (qAt.calls k13 x0_ x1_ x2_ _ _ _ _ _ _ _ _ _ _ _ hS.own.sub g0_4 g0_5 g0_6 g2_0 h50)) ?_
  rintro _ u48 a ⟨_,rfl,hC⟩ hE
  replace hS:=hS.lent hC
  refine plc hE (.r 4 1 .nil) (fun a hE=>pld (hK47 _ _ ?_))
  refine hE.ibn 35 H (fun c51 hE H=>?_) fun c51 hE H=>?_
  ·
   refine wp_skip (hK46 _ _ (sq fun K62 hK62=>pl0 ?_))
   have hb2:=hS.ba 4
   refine plc hE (.bn 0 0 7 hb2<|.r 1 2<|.nil) (fun a hE=>?_)
   obtain ⟨t64,h65,H⟩:=bd H
   refine ple hE (.cl en53 (qD.calls k13 x0_ x1_ x2_ _ _ _ _ _ _ _ _ _ _ _ hS.own.sub g0_4 g0_5 g0_6 g2_0 h65)) ?_
   rintro _ u63 a ⟨F66,A67,c68,A71,c72,rfl,hC⟩ hE
   have hs:=hC.sub
   replace hS:=hS.called (X:=[]) hC
   replace g2_0:=g2_0.mono hs
   replace g0_4:=g0_4.mono hs
   replace g0_5:=g0_5.mono hs
   replace g0_6:=g0_6.mono hs
   refine ple hE (.al (t:=74) hS [.bool false,iv 0,.slice none 0 0,.slice none 0 0]) ?_
   rintro _ u76 a ⟨b75,rfl,hb75,hS,hg⟩ hE
   refine ple hE (.sto hS [.bool t64.f0,iv t64.f1,.slice A67 t64.f2.length c68,.slice A71 t64.f3.length c72]) ?_
   rintro _ u77 a ⟨rfl,hb75,hS,hz⟩ hE
   refine pld (hK62 _ _ (sq fun K78 hK78=>pl0 (plc hE (.r 0 3 .nil) (fun a hE=>?_))))
   rcases sp H with ⟨c79,H⟩ | ⟨c79,H⟩
   ·
    replace hE:=hE.kt 74 c79
    have hb34:=hS.ba 4
    refine plc hE (.r 3 1<|.b 4 0 hb34<|.r 5 1<|.b 6 0 hb75<|.r 7 3<|.nil) (fun a hE=>?_)
    rcases sp H with ⟨c80,H⟩ | ⟨c80,H⟩
    ·
     replace hE:=hE.kt 81 c80
     refine plc hE (.r 10 1<|.b 11 1 hb34<|.r 12 1<|.b 13 1 hb75<|.r 14 3<|.nil) (fun a hE=>?_)
     rcases sp H with ⟨c81,H⟩ | ⟨c81,H⟩
     ·
      replace hE:=hE.kt 88 c81
      refine plc hE (.r 17 1<|.b 18 2 hb34<|.r 19 1<|.b 20 2 hb75<|.nil) (fun a hE=>?_)
      obtain ⟨t83,h84,H⟩:=bd H
      refine ple hE (.cl en21 (qz.calls k13 t23.1.f2 t64.f2 _ _ _ _ _ _ _ (Sub.refl _) (hS.rd_at (i:=5) rfl) (hS.rd_at (i:=1) rfl) h84)) ?_
      rintro _ u82 a ⟨_,rfl,hC⟩ hE
      replace hS:=hS.lent hC
      refine plc hE (.r 22 2 .nil) (fun a hE=>?_)
      rcases sp H with ⟨c85,H⟩ | ⟨c85,H⟩
      ·
       replace hE:=hE.bt 95 c85
       have hb34:=hS.ba 4
       have hb75:=hS.ba 0
       refine plc hE (.r 24 1<|.b 25 3 hb34<|.r 26 1<|.b 27 3 hb75<|.nil) (fun a hE=>?_)
       obtain ⟨t87,h88,H⟩:=bd H
       refine ple hE (.cl en21 (qz.calls k13 t23.1.f3 t64.f3 _ _ _ _ _ _ _ (Sub.refl _) (hS.rd_at (i:=6) rfl) (hS.rd_at (i:=2) rfl) h88)) ?_
       rintro _ u86 a ⟨_,rfl,hC⟩ hE
       replace hS:=hS.lent hC
       refine plc hE (.r 29 2 .nil) (fun a hE=>?_)
       rcases sp H with ⟨c89,H⟩ | ⟨c89,H⟩
       ·
        replace hE:=hE.bt 102 c89
        have hb2:=hS.ba 7
        refine plc hE (.r 31 1<|.bn 32 0 7 hb2<|.r 33 2<|.nil) (fun a hE=>?_)
        obtain ⟨t91,h92,H⟩:=bd H
        refine ple hE (.cl en55 (qk.calls k13 x0_ x1_ x2_ _ _ _ _ _ _ _ _ _ _ _ hS.own.sub g0_4 g0_5 g0_6 g2_0 h92)) ?_
        rintro _ u90 a ⟨F93,A94,c95,rfl,hC⟩ hE
        have hs:=hC.sub
        replace hS:=hS.called (X:=[]) hC
        replace g2_0:=g2_0.mono hs
        replace g0_4:=g0_4.mono hs
        replace g0_5:=g0_5.mono hs
        replace g0_6:=g0_6.mono hs
        obtain ⟨t99,h100,H⟩:=bd H
        refine ple hE (.cl en54 (qp.calls k13 t39 t91 _ _ _ _ _ _ _ (Sub.refl _) (hS.rd_at (i:=4) rfl) (hS.rd_at (i:=0) rfl) h100)) ?_
        rintro _ u98 a ⟨_,rfl,hC⟩ hE
        replace hS:=hS.lent hC
        refine plc hE (.r 37 2 .nil) (fun a hE=>?_)
        rcases sp H with ⟨c101,H⟩ | ⟨c101,H⟩
        ·
         replace hE:=hE.bt 110 c101
         obtain ⟨t103,h104,H⟩:=bd H
         refine ple hE (.cl en49 (qAe.calls k13 _ _ _ hS.own.sub h104)) ?_
         rintro _ u102 a ⟨_,rfl,hC⟩ hE
         replace hS:=hS.lent hC
         refine plc hE (.r 40 2 .nil) (fun a hE=>pld (hK78 _ _ (wp_ret ?_)))
         replace hS:=hS.pm [] 9
         obtain rfl:=si H
         exact rt1 hE ⟨_,rfl,_,rfl,hS⟩
        replace hE:=hE.bf 110 c101
        refine plc hE (.r 39 3 .nil) (fun a hE=>pld (hK78 _ _ (wp_ret ?_)))
        replace hS:=hS.pm [] 9
        obtain rfl:=si H
        exact rt1 hE ⟨_,rfl,_,rfl,hS⟩
       replace hE:=hE.bf 102 c89
       refine plc hE (.r 31 11 .nil) (fun a hE=>pld (hK78 _ _ (wp_ret ?_)))
       replace hS:=hS.pm [] 8
       obtain rfl:=si H
       exact rt1 hE ⟨_,rfl,_,rfl,hS⟩
      replace hE:=hE.bf 95 c85
      refine plc hE (.r 24 18 .nil) (fun a hE=>pld (hK78 _ _ (wp_ret ?_)))
      replace hS:=hS.pm [] 8
      obtain rfl:=si H
      exact rt1 hE ⟨_,rfl,_,rfl,hS⟩
     replace hE:=hE.kf 88 c81
     refine plc hE (.r 17 25 .nil) (fun a hE=>pld (hK78 _ _ (wp_ret ?_)))
     replace hS:=hS.pm [] 8
     obtain rfl:=si H
     exact rt1 hE ⟨_,rfl,_,rfl,hS⟩
    replace hE:=hE.kf 81 c80
    refine plc hE (.r 10 32 .nil) (fun a hE=>pld (hK78 _ _ (wp_ret ?_)))
    replace hS:=hS.pm [] 8
    obtain rfl:=si H
    exact rt1 hE ⟨_,rfl,_,rfl,hS⟩
   replace hE:=hE.kf 74 c79
   refine plc hE (.r 3 39 .nil) (fun a hE=>pld (hK78 _ _ (wp_ret ?_)))
   replace hS:=hS.pm [] 8
   obtain rfl:=si H
   exact rt1 hE ⟨_,rfl,_,rfl,hS⟩
  refine sq fun K52 hK52=>pl0 (plc hE (.r 0 3 .nil) (fun a hE=>?_))
  rcases sp H with ⟨c53,H⟩ | ⟨c53,H⟩
  ·
   replace hE:=hE.kt 38 c53
   have hb34:=hS.ba 1
   refine plc hE (.r 3 1<|.b 4 0 hb34<|.r 5 3<|.nil) (fun a hE=>?_)
   rcases sp H with ⟨c54,H⟩ | ⟨c54,H⟩
   ·
    replace hE:=hE.btn 43 c54
    refine plc hE (.r 8 25 .nil) (fun a hE=>pld (hK52 _ _ (wp_ret (qCD ?_))))
    replace hS:=hS.pm [] 5
    obtain rfl:=si H
    exact rt1 hE ⟨_,rfl,_,rfl,hS⟩
   replace hE:=hE.bfn 43 c54
   refine plc hE (.r 8 1<|.b 9 1 hb34<|.r 10 3<|.nil) (fun a hE=>?_)
   rcases sp H with ⟨c55,H⟩ | ⟨c55,H⟩
   ·
    replace hE:=hE.kt 48 c55
    refine plc hE (.r 13 1<|.b 14 2 hb34<|.r 15 4<|.nil) (fun a hE=>?_)
    rcases sp H with ⟨c56,H⟩ | ⟨c56,H⟩
    ·
     replace hE:=hE.kt 54 c56
     refine plc hE (.r 19 1<|.b 20 3 hb34<|.r 21 4<|.nil) (fun a hE=>?_)
     rcases sp H with ⟨c57,H⟩ | ⟨c57,H⟩
     ·
      replace hE:=hE.kt 60 c57
      refine plc hE (.r 25 5 .nil) (fun a hE=>?_)
      rcases sp H with ⟨c58,H⟩ | ⟨c58,H⟩
      ·
       replace hE:=hE.kt 65 c58
       obtain ⟨t60,h61,H⟩:=bd H
       refine ple hE (.cl en49 (qAe.calls k13 _ _ _ hS.own.sub h61)) ?_
       rintro _ u59 a ⟨_,rfl,hC⟩ hE
       replace hS:=hS.lent hC
       refine plc hE (.r 31 2 .nil) (fun a hE=>pld (hK52 _ _ (wp_ret (qCD ?_))))
       replace hS:=hS.pm [] 5
       obtain rfl:=si H
       exact rt1 hE ⟨_,rfl,_,rfl,hS⟩
      replace hE:=hE.kf 65 c58
      refine plc hE (.r 30 3 .nil) (fun a hE=>pld (hK52 _ _ (wp_ret (qCD ?_))))
      replace hS:=hS.pm [] 5
      obtain rfl:=si H
      exact rt1 hE ⟨_,rfl,_,rfl,hS⟩
     replace hE:=hE.kf 60 c57
     refine plc hE (.r 25 8 .nil) (fun a hE=>pld (hK52 _ _ (wp_ret (qCD ?_))))
     replace hS:=hS.pm [] 5
     obtain rfl:=si H
     exact rt1 hE ⟨_,rfl,_,rfl,hS⟩
    replace hE:=hE.kf 54 c56
    refine plc hE (.r 19 14 .nil) (fun a hE=>pld (hK52 _ _ (wp_ret (qCD ?_))))
    replace hS:=hS.pm [] 5
    obtain rfl:=si H
    exact rt1 hE ⟨_,rfl,_,rfl,hS⟩
   replace hE:=hE.kf 48 c55
   refine plc hE (.r 13 20 .nil) (fun a hE=>pld (hK52 _ _ (wp_ret (qCD ?_))))
   replace hS:=hS.pm [] 5
   obtain rfl:=si H
   exact rt1 hE ⟨_,rfl,_,rfl,hS⟩
  replace hE:=hE.kf 38 c53
  refine plc hE (.r 3 30 .nil) (fun a hE=>pld (hK52 _ _ (wp_ret (qCD ?_))))
  replace hS:=hS.pm [] 5
  obtain rfl:=si H
  exact rt1 hE ⟨_,rfl,_,rfl,hS⟩
 refine pl0 (plc hE (.bn 0 0 7 hb2 .nil) (fun a hE=>?_))
 obtain ⟨t7,h8,H⟩:=bd H
 refine ple hE (.cl en20 (qU.calls k x0_ _ _ _ _ _ _ _ _ _ hS.own.sub g0_4 g0_5 g0_6 h8)) ?_
 rintro _ u6 a ⟨_,rfl,hC⟩ hE
 replace hS:=hS.lent hC
 refine plc hE (.r 2 2 .nil) (fun a hE=>?_)
 rcases sp H with ⟨c9,H⟩ | ⟨c9,H⟩
 ·
  replace hE:=hE.btn 14 c9
  refine plc hE (.r 4 4 .nil) (fun a hE=>pld ?_)
  exact J14 _ (by omega) _ (decide ((x2_.length:Int)>30)) _ _ hE .of hS H
 replace hE:=hE.bfn 14 c9
 refine plc hE (.r 4 4 .nil) (fun a hE=>pld ?_)
 exact J14 _ (by omega) _ true _ _ hE .of hS H
end Go.Proofs.YtpohepinmjmbkaaGreat.QD
