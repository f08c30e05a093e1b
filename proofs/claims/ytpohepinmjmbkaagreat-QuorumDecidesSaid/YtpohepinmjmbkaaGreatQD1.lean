import Derived.Test.YtpohepinmjmbkaaGreatQD0
namespace Go.Proofs.YtpohepinmjmbkaaGreat.QD
open Go Go.RowKit Go.Proofs.YtpohepinmjmbkaaGreat.Sl
set_option linter.unusedVariables false
set_option linter.unusedSimpArgs false
set_option maxHeartbeats 4000000
set_option maxRecDepth 100000
mutual
def qU.l7:Nat→qJ→Int→Option Bool
 | 0,_,_=>none
 | k+1,x0_,x6=>if x6<(x0_.f5.length:Int) then (qU.j15 k x0_ x6 (decide (x6<20))) else (qU.j15 k x0_ x6 false)
def qU.j15:Nat→qJ→Int→Bool→Option Bool
 | 0,_,_,_=>none
 | k+1,x0_,x6,y14=>if y14=true then (if 0≤x6∧x6<(x0_.f5.length:Int) then (if (((nth qM.z x0_.f5 x6).f1).length:Int)>20 then (some false) else (qU.l7 k x0_ (w64 (x6+1)))) else (none)) else (qU.l36 k x0_ 0)
def qU.l36:Nat→qJ→Int→Option Bool
 | 0,_,_=>none
 | k+1,x0_,x35=>if x35<(x0_.f6.length:Int) then (qU.j44 k x0_ x35 (decide (x35<20))) else (qU.j44 k x0_ x35 false)
def qU.j44:Nat→qJ→Int→Bool→Option Bool
 | 0,_,_,_=>none
 | k+1,x0_,x35,y43=>if y43=true then (if 0≤x35∧x35<(x0_.f6.length:Int) then (if (((nth qF.z x0_.f6 x35).f1).length:Int)>20 then (some false) else (qU.l65 k x0_ x35 0)) else (none)) else (if (x0_.f4.length:Int)≤30 then (if (x0_.f5.length:Int)≤20 then (some (decide ((x0_.f6.length:Int)≤20))) else (some false)) else (some false))
def qU.l65:Nat→qJ→Int→Int→Option Bool
 | 0,_,_,_=>none
 | k+1,x0_,x35,x64=>if x64<(((nth qF.z x0_.f6 x35).f1).length:Int) then (if 0≤x64∧x64<(((nth qF.z x0_.f6 x35).f1).length:Int) then (if (((nth qE.z ((nth qF.z x0_.f6 x35).f1) x64).f1).length:Int)>20 then (some false) else (qU.l65 k x0_ x35 (w64 (x64+1)))) else (none)) else (qU.l36 k x0_ (w64 (x35+1)))
end
theorem qU.l7_s k x0_ x6:type_of% (qU.l7.eq_2 x0_ x6 k):=qU.l7.eq_2 x0_ x6 k
theorem qU.j15_s k x0_ x6 y14:type_of% (qU.j15.eq_2 x0_ x6 y14 k):=qU.j15.eq_2 x0_ x6 y14 k
theorem qU.l36_s k x0_ x35:type_of% (qU.l36.eq_2 x0_ x35 k):=qU.l36.eq_2 x0_ x35 k
theorem qU.j44_s k x0_ x35 y43:type_of% (qU.j44.eq_2 x0_ x35 y43 k):=qU.j44.eq_2 x0_ x35 y43 k
theorem qU.l65_s k x0_ x35 x64:type_of% (qU.l65.eq_2 x0_ x35 x64 k):=qU.l65.eq_2 x0_ x35 x64 k
def qU.f(k:Nat)(x0_:qJ):Option Bool:=qU.l7 k x0_ 0
def qU.Post(W F:World)(r:Bool)(v:Value)(w':World):Prop:=∃(F':World),v = .bool r∧St W (mine W []) F w' F' []
theorem qU.calls(k:Nat)(x0_:qJ)(A0_4:Option Addr)(c0_4:Nat)(A0_5:Option Addr)(c0_5:Nat)(A0_6:Option Addr)(c0_6:Nat)(r:Bool)(W F:World)(hown:Sub F W)(g0_4:Rd qA.k F A0_4 c0_4 x0_.f4)(g0_5:Rd qM.k F A0_5 c0_5 x0_.f5)(g0_6:Rd qF.k F A0_6 c0_6 x0_.f6)(H:qU.f k x0_=some r):
    Calls Tryz.prog 20 #[.agg #[iv x0_.f0,iv x0_.f1,iv x0_.f2,iv x0_.f3,.slice A0_4 x0_.f4.length c0_4,.slice A0_5 x0_.f5.length c0_5,.slice A0_6 x0_.f6.length c0_6]] W fun e w'=>∃ v,e = .returned v∧qU.Post W F r v w':=by
 have hS:=St.start (Own.nil hown)
 unfold qU.f at H
 refine enter (n:=83) rfl rfl rfl (Nat.le_of_ble_eq_true rfl) (fun a hE=>?_)
 refine sq fun K1 hK1=>pl0 (ple hE (.bx (t:=26) hS [iv x0_.f0,iv x0_.f1,iv x0_.f2,iv x0_.f3,.slice A0_4 x0_.f4.length c0_4,.slice A0_5 x0_.f5.length c0_5,.slice A0_6 x0_.f6.length c0_6]) ?_)
 rintro _ u3 a ⟨b2,rfl,hb2,hS,hg⟩ hE
 refine plc hE (.r 1 1 .nil) (fun a hE=>pld (hK1 _ _ (sq fun K4 hK4=>rr hE fun a hE=>(wp_block ?_))))
 refine wp_loop_ghost (fun kq8 a w'=>∃(G:Nat→Value)(x6:Int),kq8≤k∧Env 83 G a∧At G [(1,.pointer (pb b2)),(3,iv x6)]∧St W (mine W []) F w' F [box b2 #[iv x0_.f0,iv x0_.f1,iv x0_.f2,iv x0_.f3,.slice A0_4 x0_.f4.length c0_4,.slice A0_5 x0_.f5.length c0_5,.slice A0_6 x0_.f6.length c0_6] 26]∧qU.l7 kq8 x0_ x6=some r) k ⟨_,0,Nat.le_refl _,hE,.of,hS,H⟩ ?_
 rintro kq8 a u10 ⟨G,x6,hkq,hE,hA,hS,H⟩
 obtain _ | k9:=kq8
 ·
  exact zz H
 rw [qU.l7_s]at H
 obtain ⟨J,hE⟩:=hE.at hA
 refine sq fun K11 hK11=>sq fun K12 hK12=>?_
 have J18:∀ kq16,kq16≤k9→∀(G:Nat→Value)(y14:Bool)(a:Act)(w':World),Env 83 G a→At G [(1,.pointer (pb b2)),(3,iv x6),(14,.bool y14)]→St W (mine W []) F w' F [box b2 #[iv x0_.f0,iv x0_.f1,iv x0_.f2,iv x0_.f3,.slice A0_4 x0_.f4.length c0_4,.slice A0_5 x0_.f5.length c0_5,.slice A0_6 x0_.f6.length c0_6] 26]→qU.j15 kq16 x0_ x6 y14=some r→K12 a w':=by
  intro kq16 hkq G y14 a u19 hE hA hS H
  obtain _ | k17:=kq16
  ·
   exact zz H
  rw [qU.j15_s]at H
  obtain ⟨J,hE⟩:=hE.at hA
  refine hK12 _ _ ?_
  refine hE.ib 14 H (fun c20 hE H=>?_) fun c20 hE H=>?_
  ·
   refine wp_skip (hK11 _ _ (sq fun K21 hK21=>wp_block (sq fun K22 hK22=>pl0 ?_)))
   have hb2:=hS.ba 0
   obtain ⟨c23,H⟩:=gd H
   have hE_:=hE
   obtain ⟨ad24,rfl⟩:=g0_5.addr c23.1 c23.2
   replace hE:=hE_
   obtain ⟨cs26,⟨A28,c29,rfl,g30⟩,hc27⟩:=g0_5.el qM.z x6 c23.1 c23.2
   refine plc hE (.r 0 1<|.b 1 5 hb2<|.r 2 1<|.x 3 c23<|.r 4 1<|.c 5 (hS.fc hc27 1)<|.r 6 2<|.nil) (fun a hE=>pld (hK22 _ _ ?_))
   refine hE.ik 24 H (fun c31 hE H=>?_) fun c31 hE H=>?_
   ·
    refine rr hE fun a hE=>(wp_ret (qCE (qCD (qCD (qCE (qCD ?_))))))
    replace hS:=hS.tail
    obtain rfl:=si H
    exact rt1 hE ⟨_,rfl,_,rfl,hS⟩
   refine wp_skip ?_
   refine qCF ?_
   refine hK21 _ _ (pl0 (plc hE (.r 0 3 .nil) (fun a hE=>pld ?_)))
   exact qCG ⟨k17,by omega,_,(w64 (x6+1)),by omega,hE,.of,hS,H⟩
  refine wp_exit ?_
  refine hK4 _ _ (sq fun K33 hK33=>rr hE fun a hE=>(wp_block ?_))
  refine wp_loop_ghost (fun kq37 a w'=>∃(G:Nat→Value)(x35:Int),kq37≤k17∧Env 83 G a∧At G [(1,.pointer (pb b2)),(4,iv x35)]∧St W (mine W []) F w' F [box b2 #[iv x0_.f0,iv x0_.f1,iv x0_.f2,iv x0_.f3,.slice A0_4 x0_.f4.length c0_4,.slice A0_5 x0_.f5.length c0_5,.slice A0_6 x0_.f6.length c0_6] 26]∧qU.l36 kq37 x0_ x35=some r) k17 ⟨_,0,Nat.le_refl _,hE,.of,hS,H⟩ ?_
  rintro kq37 a u39 ⟨G,x35,hkq,hE,hA,hS,H⟩
  obtain _ | k38:=kq37
  ·
   exact zz H
  rw [qU.l36_s]at H
  obtain ⟨J,hE⟩:=hE.at hA
  refine sq fun K40 hK40=>sq fun K41 hK41=>?_
  have J47:∀ kq45,kq45≤k38→∀(G:Nat→Value)(y43:Bool)(a:Act)(w':World),Env 83 G a→At G [(1,.pointer (pb b2)),(4,iv x35),(33,.bool y43)]→St W (mine W []) F w' F [box b2 #[iv x0_.f0,iv x0_.f1,iv x0_.f2,iv x0_.f3,.slice A0_4 x0_.f4.length c0_4,.slice A0_5 x0_.f5.length c0_5,.slice A0_6 x0_.f6.length c0_6] 26]→qU.j44 kq45 x0_ x35 y43=some r→K41 a w':=by
   intro kq45 hkq G y43 a u48 hE hA hS H
   obtain _ | k46:=kq45
   ·
    exact zz H
   rw [qU.j44_s]at H
   obtain ⟨J,hE⟩:=hE.at hA
   refine hK41 _ _ ?_
   refine hE.ib 33 H (fun c49 hE H=>?_) fun c49 hE H=>?_
   ·
    refine wp_skip (hK40 _ _ (sq fun K50 hK50=>wp_block (sq fun K51 hK51=>sq fun K52 hK52=>pl0 ?_)))
    have hb2:=hS.ba 0
    obtain ⟨c53,H⟩:=gd H
    have hE_:=hE
    obtain ⟨ad54,rfl⟩:=g0_6.addr c53.1 c53.2
    replace hE:=hE_
    obtain ⟨cs56,⟨A58,c59,rfl,g60⟩,hc57⟩:=g0_6.el qF.z x35 c53.1 c53.2
    refine plc hE (.r 0 1<|.b 1 6 hb2<|.r 2 1<|.x 3 c53<|.r 4 1<|.c 5 (hS.fc hc57 1)<|.r 6 2<|.nil) (fun a hE=>pld (hK52 _ _ ?_))
    refine hE.ik 43 H (fun c61 hE H=>?_) fun c61 hE H=>?_
    ·
     refine rr hE fun a hE=>(wp_ret (qCD (qCE (qCD (qCD (qCE (qCD ?_)))))))
     replace hS:=hS.tail
     obtain rfl:=si H
     exact rt1 hE ⟨_,rfl,_,rfl,hS⟩
    refine wp_skip (hK51 _ _ (rr hE fun a hE=>(wp_block ?_)))
    refine wp_loop_ghost (fun kq66 a w'=>∃(G:Nat→Value)(x64:Int),kq66≤k46∧Env 83 G a∧At G [(1,.pointer (pb b2)),(4,iv x35),(5,iv x64)]∧St W (mine W []) F w' F [box b2 #[iv x0_.f0,iv x0_.f1,iv x0_.f2,iv x0_.f3,.slice A0_4 x0_.f4.length c0_4,.slice A0_5 x0_.f5.length c0_5,.slice (some ad54) x0_.f6.length c0_6] 26]∧qU.l65 kq66 x0_ x35 x64=some r) k46 ⟨_,0,Nat.le_refl _,hE,.of,hS,H⟩ ?_
    rintro kq66 a u68 ⟨G,x64,hkq,hE,hA,hS,H⟩
    obtain _ | k67:=kq66
    ·
     exact zz H
    rw [qU.l65_s]at H
    obtain ⟨J,hE⟩:=hE.at hA
    refine sq fun K69 hK69=>sq fun K70 hK70=>pl0 ?_
    have hb2:=hS.ba 0
    obtain ⟨cs72,⟨A74,c75,rfl,g76⟩,hc73⟩:=g0_6.el qF.z x35 c53.1 c53.2
    refine plc hE (.r 0 2<|.b 2 6 hb2<|.r 3 1<|.x 4 c53<|.r 5 1<|.c 6 (hS.fc hc73 1)<|.r 7 2<|.nil) (fun a hE=>pld (hK70 _ _ ?_))
    refine hE.ik 52 H (fun c77 hE H=>?_) fun c77 hE H=>?_
    ·
     refine wp_skip (hK69 _ _ (sq fun K78 hK78=>wp_block (sq fun K79 hK79=>pl0 ?_)))
     obtain ⟨c83,H⟩:=gd H
     have hE_:=hE
     obtain ⟨ad84,rfl⟩:=g76.addr c83.1 c83.2
     replace hE:=hE_
     obtain ⟨cs86,⟨A88,c89,rfl,g90⟩,hc87⟩:=g76.el qE.z x64 c83.1 c83.2
     refine plc hE (.r 0 1<|.b 1 6 hb2<|.r 2 1<|.x 3 c53<|.r 4 1<|.c 5 (hS.fc hc73 1)<|.r 6 1<|.x 7 c83<|.r 8 1<|.c 9 (hS.fc hc87 1)<|.r 10 2<|.nil) (fun a hE=>pld (hK79 _ _ ?_))
     refine hE.ik 66 H (fun c91 hE H=>?_) fun c91 hE H=>?_
     ·
      refine rr hE fun a hE=>(wp_ret (qCE (qCD (qCD (qCE (qCE (qCD (qCD (qCE (qCD ?_))))))))))
      replace hS:=hS.tail
      obtain rfl:=si H
      exact rt1 hE ⟨_,rfl,_,rfl,hS⟩
     refine wp_skip ?_
     refine qCF ?_
     refine hK78 _ _ (pl0 (plc hE (.r 0 3 .nil) (fun a hE=>pld ?_)))
     exact qCG ⟨k67,by omega,_,(w64 (x64+1)),by omega,hE,.of,hS,H⟩
    refine wp_exit ?_
    refine hK50 _ _ (pl0 (plc hE (.r 0 3 .nil) (fun a hE=>pld ?_)))
    exact qCG ⟨k67,by omega,_,(w64 (x35+1)),by omega,hE,.of,hS,H⟩
   refine wp_exit ?_
   refine hK33 _ _ (sq fun K93 hK93=>pl0 ?_)
   have hb2:=hS.ba 0
   refine plc hE (.r 0 1<|.b 1 4 hb2<|.r 2 3<|.nil) (fun a hE=>?_)
   rcases sp H with ⟨c94,H⟩ | ⟨c94,H⟩
   ·
    replace hE:=hE.kt 71 c94
    refine plc hE (.r 5 1<|.b 6 5 hb2<|.r 7 4<|.nil) (fun a hE=>?_)
    rcases sp H with ⟨c95,H⟩ | ⟨c95,H⟩
    ·
     replace hE:=hE.kt 77 c95
     refine plc hE (.r 11 1<|.b 12 6 hb2<|.r 13 4<|.nil) (fun a hE=>pld (hK93 _ _ (wp_ret ?_)))
     replace hS:=hS.tail
     obtain rfl:=si H
     exact rt1 hE ⟨_,rfl,_,rfl,hS⟩
    replace hE:=hE.kf 77 c95
    refine plc hE (.r 11 6 .nil) (fun a hE=>pld (hK93 _ _ (wp_ret ?_)))
    replace hS:=hS.tail
    obtain rfl:=si H
    exact rt1 hE ⟨_,rfl,_,rfl,hS⟩
   replace hE:=hE.kf 71 c94
   refine plc hE (.r 5 12 .nil) (fun a hE=>pld (hK93 _ _ (wp_ret ?_)))
   replace hS:=hS.tail
   obtain rfl:=si H
   exact rt1 hE ⟨_,rfl,_,rfl,hS⟩
  refine pl0 ?_
  have hb2:=hS.ba 0
  refine plc hE (.r 0 2<|.b 2 6 hb2<|.r 3 3<|.nil) (fun a hE=>?_)
  rcases sp H with ⟨c42,H⟩ | ⟨c42,H⟩
  ·
   replace hE:=hE.kt 30 c42
   refine plc hE (.r 6 3 .nil) (fun a hE=>pld ?_)
   exact J47 _ (by omega) _ (decide (x35<20)) _ _ hE .of hS H
  replace hE:=hE.kf 30 c42
  refine plc hE (.r 6 3 .nil) (fun a hE=>pld ?_)
  exact J47 _ (by omega) _ false _ _ hE .of hS H
 refine pl0 ?_
 have hb2:=hS.ba 0
 refine plc hE (.r 0 2<|.b 2 5 hb2<|.r 3 3<|.nil) (fun a hE=>?_)
 rcases sp H with ⟨c13,H⟩ | ⟨c13,H⟩
 ·
  replace hE:=hE.kt 11 c13
  refine plc hE (.r 6 3 .nil) (fun a hE=>pld ?_)
  exact J18 _ (by omega) _ (decide (x6<20)) _ _ hE .of hS H
 replace hE:=hE.kf 11 c13
 refine plc hE (.r 6 3 .nil) (fun a hE=>pld ?_)
 exact J18 _ (by omega) _ false _ _ hE .of hS H
def qBC.f(x0_:Int)(x1_:Int)(x2_:Int):Option Bool:=if x0_≥x1_ then (some (decide (x0_≤x2_))) else (some false)
def qBC.Post(W F:World)(r:Bool)(v:Value)(w':World):Prop:=∃(F':World),v = .bool r∧St W (mine W []) F w' F' []
theorem qBC.calls(x0_:Int)(x1_:Int)(x2_:Int)(r:Bool)(W F:World)(hown:Sub F W)(H:qBC.f x0_ x1_ x2_=some r):
    Calls Tryz.prog 70 #[iv x0_,iv x1_,iv x2_] W fun e w'=>∃ v,e = .returned v∧qBC.Post W F r v w':=by
 have hS:=St.start (Own.nil hown)
 unfold qBC.f at H
 refine enter (n:=15) rfl rfl rfl (Nat.le_of_ble_eq_true rfl) (fun a hE=>?_)
 refine rr hE fun a hE=>(sq fun K2 hK2=>pl0 (plc hE (.r 0 4 .nil) (fun a hE=>?_)))
 rcases sp H with ⟨c3,H⟩ | ⟨c3,H⟩
 ·
  replace hE:=hE.kt 10 c3
  refine plc hE (.r 4 5 .nil) (fun a hE=>pld (hK2 _ _ (wp_ret ?_)))
  obtain rfl:=si H
  exact rt1 hE ⟨_,rfl,_,rfl,hS⟩
 replace hE:=hE.kf 10 c3
 refine plc hE (.r 4 5 .nil) (fun a hE=>pld (hK2 _ _ (wp_ret ?_)))
 obtain rfl:=si H
 exact rt1 hE ⟨_,rfl,_,rfl,hS⟩
def qBr.f(x0_:Int)(x1_:Int)(x2_:Int):Option Bool:=if x0_≥x1_ then (some (decide (x0_≤x2_))) else (some false)
def qBr.Post(W F:World)(r:Bool)(v:Value)(w':World):Prop:=∃(F':World),v = .bool r∧St W (mine W []) F w' F' []
theorem qBr.calls(x0_:Int)(x1_:Int)(x2_:Int)(r:Bool)(W F:World)(hown:Sub F W)(H:qBr.f x0_ x1_ x2_=some r):
    Calls Tryz.prog 141 #[iv x0_,iv x1_,iv x2_] W fun e w'=>∃ v,e = .returned v∧qBr.Post W F r v w':=by
 have hS:=St.start (Own.nil hown)
 unfold qBr.f at H
 refine enter (n:=15) rfl rfl rfl (Nat.le_of_ble_eq_true rfl) (fun a hE=>?_)
 refine rr hE fun a hE=>(sq fun K2 hK2=>pl0 (plc hE (.r 0 4 .nil) (fun a hE=>?_)))
 rcases sp H with ⟨c3,H⟩ | ⟨c3,H⟩
 ·
  replace hE:=hE.kt 10 c3
  refine plc hE (.r 4 5 .nil) (fun a hE=>pld (hK2 _ _ (wp_ret ?_)))
  obtain rfl:=si H
  exact rt1 hE ⟨_,rfl,_,rfl,hS⟩
 replace hE:=hE.kf 10 c3
 refine plc hE (.r 4 5 .nil) (fun a hE=>pld (hK2 _ _ (wp_ret ?_)))
 obtain rfl:=si H
 exact rt1 hE ⟨_,rfl,_,rfl,hS⟩
mutual
def qAM.l9:Nat→List qA→Int→Option Int
 | 0,_,_=>none
 | k+1,x0_,x8=>if x8<(x0_.length:Int) then (if 0≤x8∧x8<(x0_.length:Int) then ((qBr.f ((nth qA.z x0_ x8).f0) 1 999).bind fun t28=>(if t28=true then ((qBr.f ((nth qA.z x0_ x8).f1) 1 9).bind fun t32=>(if t32=true then ((qBr.f ((nth qA.z x0_ x8).f2) 1 9).bind fun t36=>(if t36=true then ((qBr.f ((nth qA.z x0_ x8).f3) 0 65536).bind fun t40=>(if t40=true then (if x8>0 then (if 0≤(w64 (x8 - 1))∧(w64 (x8 - 1))<(x0_.length:Int) then (qAM.j49 k x0_ x8 (decide ((nth qA.z x0_ x8).f0≤(nth qA.z x0_ (w64 (x8 - 1))).f0))) else (none)) else (qAM.j49 k x0_ x8 false)) else (qAM.j49 k x0_ x8 true))) else (qAM.j49 k x0_ x8 true))) else (qAM.j49 k x0_ x8 true))) else (qAM.j49 k x0_ x8 true))) else (none)) else (some 0)
def qAM.j49:Nat→List qA→Int→Bool→Option Int
 | 0,_,_,_=>none
 | k+1,x0_,x8,y48=>if y48=true then (some 1) else (qAM.l9 k x0_ (w64 (x8+1)))
end
theorem qAM.l9_s k x0_ x8:type_of% (qAM.l9.eq_2 x0_ x8 k):=qAM.l9.eq_2 x0_ x8 k
theorem qAM.j49_s k x0_ x8 y48:type_of% (qAM.j49.eq_2 x0_ x8 y48 k):=qAM.j49.eq_2 x0_ x8 y48 k
def qAM.f(k:Nat)(x0_:List qA):Option Int:=if (x0_.length:Int)>12 then (some 1) else (qAM.l9 k x0_ 0)
def qAM.Post(W F:World)(r:Int)(v:Value)(w':World):Prop:=∃(F':World),v=iv r∧St W (mine W []) F w' F' []
theorem qAM.calls(k:Nat)(x0_:List qA)(A0_0:Option Addr)(c0_0:Nat)(r:Int)(W F:World)(hown:Sub F W)(g0_0:Rd qA.k F A0_0 c0_0 x0_)(H:qAM.f k x0_=some r):
    Calls Tryz.prog 80 #[.slice A0_0 x0_.length c0_0] W fun e w'=>∃ v,e = .returned v∧qAM.Post W F r v w':=by
 have hS:=St.start (Own.nil hown)
 unfold qAM.f at H
 refine enter (n:=53) rfl rfl rfl (Nat.le_of_ble_eq_true rfl) (fun a hE=>?_)
 refine rr hE fun a hE=>(sq fun K2 hK2=>rr hE fun a hE=>?_)
 refine hE.ik 7 H (fun c4 hE H=>?_) fun c4 hE H=>?_
 ·
  refine rr hE fun a hE=>(wp_ret (qCD ?_))
  obtain rfl:=si H
  exact rt1 hE ⟨_,rfl,_,rfl,hS⟩
 refine wp_skip (hK2 _ _ (sq fun K6 hK6=>rr hE fun a hE=>(wp_block ?_)))
 refine wp_loop_ghost (fun kq10 a w'=>∃(G:Nat→Value)(x8:Int),kq10≤k∧Env 53 G a∧At G [(0,.slice A0_0 x0_.length c0_0),(8,.slice A0_0 x0_.length c0_0),(9,iv (x0_.length:Int)),(10,iv x8)]∧St W (mine W []) F w' F []∧qAM.l9 kq10 x0_ x8=some r) k ⟨_,0,Nat.le_refl _,hE,.of,hS,H⟩ ?_
 rintro kq10 a u12 ⟨G,x8,hkq,hE,hA,hS,H⟩
 obtain _ | k11:=kq10
 ·
  exact zz H
 rw [qAM.l9_s]at H
 obtain ⟨J,hE⟩:=hE.at hA
 refine rr hE fun a hE=>(sq fun K14 hK14=>?_)
 refine hE.ik 11 H (fun c15 hE H=>?_) fun c15 hE H=>?_
 ·
  refine wp_skip (hK14 _ _ (sq fun K16 hK16=>wp_block (sq fun K17 hK17=>pl0 ?_)))
  obtain ⟨c18,H⟩:=gd H
  have hE_:=hE
  obtain ⟨ad19,rfl⟩:=g0_0.addr c18.1 c18.2
  replace hE:=hE_
  obtain ⟨cs21,rfl,hc22⟩:=g0_0.el qA.z x8 c18.1 c18.2
  refine plc hE (.r 0 1<|.x 1 c18<|.cs 2 (hS.fcs hc22)<|.nil) (fun a hE=>ple hE (.al (t:=104) hS [iv 0,iv 0,iv 0,iv 0,.bool false,.bool false]) ?_)
  rintro _ u24 a ⟨b23,rfl,hb23,hS,hg⟩ hE
  refine plc hE (.r 4 1 .nil) (fun a hE=>ple hE (.sto hS [iv ((nth qA.z x0_ x8).f0),iv ((nth qA.z x0_ x8).f1),iv ((nth qA.z x0_ x8).f2),iv ((nth qA.z x0_ x8).f3),.bool ((nth qA.z x0_ x8).f4),.bool ((nth qA.z x0_ x8).f5)]) ?_)
  rintro _ u25 a ⟨rfl,hb23,hS,hz⟩ hE
  refine pld (hK17 _ _ (sq fun K26 hK26=>?_))
  have J52:∀ kq50,kq50≤k11→∀(G:Nat→Value)(y48:Bool)(a:Act)(w':World),Env 53 G a→At G [(0,.slice (some ad19) x0_.length c0_0),(8,.slice (some ad19) x0_.length c0_0),(9,iv (x0_.length:Int)),(10,iv x8),(51,.bool y48)]→St W (mine W []) F w' F [box b23 #[iv ((nth qA.z x0_ x8).f0),iv ((nth qA.z x0_ x8).f1),iv ((nth qA.z x0_ x8).f2),iv ((nth qA.z x0_ x8).f3),.bool ((nth qA.z x0_ x8).f4),.bool ((nth qA.z x0_ x8).f5)] 104]→qAM.j49 kq50 x0_ x8 y48=some r→K26 a w':=by
   intro kq50 hkq G y48 a u53 hE hA hS H
   obtain _ | k51:=kq50
   ·
    exact zz H
   rw [qAM.j49_s]at H
   obtain ⟨J,hE⟩:=hE.at hA
   refine hK26 _ _ ?_
   refine hE.ib 51 H (fun c54 hE H=>?_) fun c54 hE H=>?_
   ·
    refine rr hE fun a hE=>(wp_ret (qCE (qCD (qCD (qCE (qCD ?_))))))
    replace hS:=hS.tail
    obtain rfl:=si H
    exact rt1 hE ⟨_,rfl,_,rfl,hS⟩
   refine wp_skip ?_
   refine qCF ?_
   refine hK16 _ _ (pl0 (plc hE (.r 0 2 .nil) (fun a hE=>pld ?_)))
   replace hS:=hS.tail
   exact qCG ⟨k51,by omega,_,(w64 (x8+1)),by omega,hE,.of,hS,H⟩
  refine drawn 37 ⟨[],[],fun q=>False⟩ mixed rfl (by kernel_rfl) (fun hst=>?_)
  replace hS:=hS.drew
  have hb23:=hS.ba 0
  refine mny 35 hst hE (.r 0 1<|.b 1 0 hb23<|.nil) (fun a hE=>?_)
  obtain ⟨t28,h29,H⟩:=bd H
  refine on1 2 hE (.cl en141 (qBr.calls ((nth qA.z x0_ x8).f0) 1 999 _ _ _ hS.own.sub h29)) ?_
  rintro _ u27 a ⟨_,rfl,hC⟩ hE
  refine ⟨.of hC.agr,?_⟩
  replace hS:=hS.lent hC
  refine mny 32 hst hE (.r 3 2 .nil) (fun a hE=>?_)
  rcases sp H with ⟨c30,H⟩ | ⟨c30,H⟩
  ·
   replace hE:=hE.btn 19 c30
   have hb23:=hS.ba 0
   refine mny 30 hst hE (.r 5 1<|.b 6 1 hb23<|.nil) (fun a hE=>?_)
   obtain ⟨t32,h33,H⟩:=bd H
   refine on1 7 hE (.cl en141 (qBr.calls ((nth qA.z x0_ x8).f1) 1 9 _ _ _ hS.own.sub h33)) ?_
   rintro _ u31 a ⟨_,rfl,hC⟩ hE
   refine ⟨.of hC.agr,?_⟩
   replace hS:=hS.lent hC
   refine mny 26 hst hE (.r 8 3 .nil) (fun a hE=>?_)
   rcases sp H with ⟨c34,H⟩ | ⟨c34,H⟩
   ·
    replace hE:=hE.btn 25 c34
    have hb23:=hS.ba 0
    refine mny 24 hst hE (.r 11 1<|.b 12 2 hb23<|.nil) (fun a hE=>?_)
    obtain ⟨t36,h37,H⟩:=bd H
    refine on1 13 hE (.cl en141 (qBr.calls ((nth qA.z x0_ x8).f2) 1 9 _ _ _ hS.own.sub h37)) ?_
    rintro _ u35 a ⟨_,rfl,hC⟩ hE
    refine ⟨.of hC.agr,?_⟩
    replace hS:=hS.lent hC
    refine mny 20 hst hE (.r 14 3 .nil) (fun a hE=>?_)
    rcases sp H with ⟨c38,H⟩ | ⟨c38,H⟩
    ·
     replace hE:=hE.btn 31 c38
     have hb23:=hS.ba 0
     refine mny 18 hst hE (.r 17 1<|.b 18 3 hb23<|.nil) (fun a hE=>?_)
     obtain ⟨t40,h41,H⟩:=bd H
     refine on1 19 hE (.cl en141 (qBr.calls ((nth qA.z x0_ x8).f3) 0 65536 _ _ _ hS.own.sub h41)) ?_
     rintro _ u39 a ⟨_,rfl,hC⟩ hE
     refine ⟨.of hC.agr,?_⟩
     replace hS:=hS.lent hC
     refine mny 14 hst hE (.r 20 3 .nil) (fun a hE=>?_)
     rcases sp H with ⟨c42,H⟩ | ⟨c42,H⟩
     ·
      replace hE:=hE.btn 37 c42
      refine mny 11 hst hE (.r 23 3 .nil) (fun a hE=>?_)
      rcases sp H with ⟨c43,H⟩ | ⟨c43,H⟩
      ·
       replace hE:=hE.kt 40 c43
       have hb23:=hS.ba 0
       obtain ⟨c44,H⟩:=gd H
       obtain ⟨cs46,rfl,hc47⟩:=g0_0.el qA.z (w64 (x8 - 1)) c44.1 c44.2
       refine mny 0 hst hE (.r 26 1<|.b 27 0 hb23<|.r 28 3<|.x 31 c44<|.r 32 1<|.c 33 (hS.fc hc47 0)<|.r 34 3<|.nil) (fun a hE=>?_)
       refine dn ?_
       exact J52 _ (by omega) _ (decide ((nth qA.z x0_ x8).f0≤(nth qA.z x0_ (w64 (x8 - 1))).f0)) _ _ hE .of hS H
      replace hE:=hE.kf 40 c43
      refine mny 0 hst hE (.r 26 11 .nil) (fun a hE=>?_)
      refine dn ?_
      exact J52 _ (by omega) _ false _ _ hE .of hS H
     replace hE:=hE.bfn 37 c42
     refine mny 0 hst hE (.r 23 14 .nil) (fun a hE=>?_)
     refine dn ?_
     exact J52 _ (by omega) _ true _ _ hE .of hS H
    replace hE:=hE.bfn 31 c38
    refine mny 0 hst hE (.r 17 20 .nil) (fun a hE=>?_)
    refine dn ?_
    exact J52 _ (by omega) _ true _ _ hE .of hS H
   replace hE:=hE.bfn 25 c34
   refine mny 0 hst hE (.r 11 26 .nil) (fun a hE=>?_)
   refine dn ?_
   exact J52 _ (by omega) _ true _ _ hE .of hS H
  replace hE:=hE.bfn 19 c30
  refine mny 0 hst hE (.r 5 32 .nil) (fun a hE=>?_)
  refine dn ?_
  exact J52 _ (by omega) _ true _ _ hE .of hS H
 refine wp_exit ?_
 refine hK6 _ _ (rr hE fun a hE=>(wp_ret ?_))
 obtain rfl:=si H
 exact rt1 hE ⟨_,rfl,_,rfl,hS⟩
def qAG.l5:Nat→List Int→Int→Int→Option Int
 | 0,_,_,_=>none
 | k+1,x0_,x1_,x4=>if x4<(x0_.length:Int) then (if 0≤x4∧x4<(x0_.length:Int) then (if x1_=(nth 0 x0_ x4) then (some x4) else (qAG.l5 k x0_ x1_ (w64 (x4+1)))) else (none)) else (some (-1))
theorem qAG.l5_s k x0_ x1_ x4:type_of% (qAG.l5.eq_2 x0_ x1_ x4 k):=qAG.l5.eq_2 x0_ x1_ x4 k
def qAG.f(k:Nat)(x0_:List Int)(x1_:Int):Option Int:=qAG.l5 k x0_ x1_ 0
def qAG.Post(W F:World)(r:Int)(v:Value)(w':World):Prop:=∃(F':World),v=iv r∧St W (mine W []) F w' F' []
theorem qAG.calls(k:Nat)(x0_:List Int)(x1_:Int)(A0_0:Option Addr)(c0_0:Nat)(r:Int)(W F:World)(hown:Sub F W)(g0_0:Rd ki F A0_0 c0_0 x0_)(H:qAG.f k x0_ x1_=some r):
    Calls Tryz.prog 162 #[.slice A0_0 x0_.length c0_0,iv x1_] W fun e w'=>∃ v,e = .returned v∧qAG.Post W F r v w':=by
 have hS:=St.start (Own.nil hown)
 unfold qAG.f at H
 refine enter (n:=19) rfl rfl rfl (Nat.le_of_ble_eq_true rfl) (fun a hE=>?_)
 refine rr hE fun a hE=>(sq fun K2 hK2=>rr hE fun a hE=>(wp_block ?_))
 refine wp_loop_ghost (fun kq6 a w'=>∃(G:Nat→Value)(x4:Int),kq6≤k∧Env 19 G a∧At G [(0,.slice A0_0 x0_.length c0_0),(1,iv x1_),(7,iv (x0_.length:Int)),(8,iv x4)]∧St W (mine W []) F w' F []∧qAG.l5 kq6 x0_ x1_ x4=some r) k ⟨_,0,Nat.le_refl _,hE,.of,hS,H⟩ ?_
 rintro kq6 a u8 ⟨G,x4,hkq,hE,hA,hS,H⟩
 obtain _ | k7:=kq6
 ·
  exact zz H
 rw [qAG.l5_s]at H
 obtain ⟨J,hE⟩:=hE.at hA
 refine rr hE fun a hE=>(sq fun K10 hK10=>?_)
 refine hE.ik 9 H (fun c11 hE H=>?_) fun c11 hE H=>?_
 ·
  refine wp_skip (hK10 _ _ (sq fun K12 hK12=>wp_block (rr hE fun a hE=>(sq fun K14 hK14=>pl0 ?_))))
  obtain ⟨c15,H⟩:=gd H
  have hE_:=hE
  obtain ⟨ad16,rfl⟩:=g0_0.addr c15.1 c15.2
  replace hE:=hE_
  obtain ⟨cs18,rfl,hc19⟩:=g0_0.el 0 x4 c15.1 c15.2
  refine plc hE (.r 0 3<|.x 3 c15<|.c 4 (hS.fc hc19 0)<|.r 5 1<|.nil) (fun a hE=>pld (hK14 _ _ ?_))
  refine hE.ik 16 H (fun c20 hE H=>?_) fun c20 hE H=>?_
  ·
   refine rr hE fun a hE=>(wp_ret (qCE (qCD (qCD (qCE (qCD ?_))))))
   obtain rfl:=si H
   exact rt1 hE ⟨_,rfl,_,rfl,hS⟩
  refine wp_skip ?_
  refine qCF ?_
  refine hK12 _ _ (pl0 (plc hE (.r 0 2 .nil) (fun a hE=>pld ?_)))
  exact qCG ⟨k7,by omega,_,(w64 (x4+1)),by omega,hE,.of,hS,H⟩
 refine wp_exit ?_
 refine hK2 _ _ (rr hE fun a hE=>(wp_ret ?_))
 obtain rfl:=si H
 exact rt1 hE ⟨_,rfl,_,rfl,hS⟩
def qAb.f(k:Nat)(x0_:List Int)(x1_:Int):Option Bool:=(qAG.f k x0_ x1_).bind fun t4=>(some (decide (t4≥0)))
def qAb.Post(W F:World)(r:Bool)(v:Value)(w':World):Prop:=∃(F':World),v = .bool r∧St W (mine W []) F w' F' []
theorem qAb.calls(k:Nat)(x0_:List Int)(x1_:Int)(A0_0:Option Addr)(c0_0:Nat)(r:Bool)(W F:World)(hown:Sub F W)(g0_0:Rd ki F A0_0 c0_0 x0_)(H:qAb.f k x0_ x1_=some r):
    Calls Tryz.prog 118 #[.slice A0_0 x0_.length c0_0,iv x1_] W fun e w'=>∃ v,e = .returned v∧qAb.Post W F r v w':=by
 have hS:=St.start (Own.nil hown)
 unfold qAb.f at H
 refine enter (n:=9) rfl rfl rfl (Nat.le_of_ble_eq_true rfl) (fun a hE=>?_)
 refine rr hE fun a hE=>(sq fun K2 hK2=>pl0 (plc hE (.r 0 2 .nil) (fun a hE=>?_)))
 obtain ⟨t4,h5,H⟩:=bd H
 refine ple hE (.cl en162 (qAG.calls k x0_ x1_ _ _ _ _ _ hS.own.sub g0_0 h5)) ?_
 rintro _ u3 a ⟨_,rfl,hC⟩ hE
 replace hS:=hS.lent hC
 refine plc hE (.r 3 2 .nil) (fun a hE=>pld (hK2 _ _ (wp_ret ?_)))
 obtain rfl:=si H
 exact rt1 hE ⟨_,rfl,_,rfl,hS⟩
mutual
def qAS.l18:Nat→List qA→List Int→List Int→Int→Option Bool
 | 0,_,_,_,_=>none
 | k+1,x0_,x1_,l16,x17=>if x17<(x1_.length:Int) then (if 0≤x17∧x17<(x1_.length:Int) then (qAS.l35 k x0_ x1_ l16 x17 0) else (none)) else (some true)
def qAS.l35:Nat→List qA→List Int→List Int→Int→Int→Option Bool
 | 0,_,_,_,_,_=>none
 | k+1,x0_,x1_,l16,x17,x34=>if x34<(x0_.length:Int) then (if 0≤x34∧x34<(x0_.length:Int) then (if (nth qA.z x0_ x34).f0=(nth 0 x1_ x17) then ((qAb.f k l16 ((nth qA.z x0_ x34).f1)).bind fun t55=>(qAS.j58 k x0_ x1_ l16 x17 x34 (!t55))) else (qAS.j58 k x0_ x1_ l16 x17 x34 false)) else (none)) else (some false)
def qAS.j58:Nat→List qA→List Int→List Int→Int→Int→Bool→Option Bool
 | 0,_,_,_,_,_,_=>none
 | k+1,x0_,x1_,l16,x17,x34,y57=>if y57=true then (if ((l16.length:Int)+((1:Nat):Int)) * 8≤140737488355328 then (qAS.l18 k x0_ x1_ (l16++[(nth qA.z x0_ x34).f1]) (w64 (x17+1))) else (none)) else (qAS.l35 k x0_ x1_ l16 x17 (w64 (x34+1)))
end
theorem qAS.l18_s k x0_ x1_ l16 x17:type_of% (qAS.l18.eq_2 x0_ x1_ l16 x17 k):=qAS.l18.eq_2 x0_ x1_ l16 x17 k
theorem qAS.l35_s k x0_ x1_ l16 x17 x34:type_of% (qAS.l35.eq_2 x0_ x1_ l16 x17 x34 k):=qAS.l35.eq_2 x0_ x1_ l16 x17 x34 k
theorem qAS.j58_s k x0_ x1_ l16 x17 x34 y57:type_of% (qAS.j58.eq_2 x0_ x1_ l16 x17 x34 y57 k):=qAS.j58.eq_2 x0_ x1_ l16 x17 x34 y57 k
def qAS.f(k:Nat)(x0_:List qA)(x1_:List Int):Option Bool:=(qAM.f k x0_).bind fun t5=>(if t5=0 then (qAS.l18 k x0_ x1_ [] 0) else (some false))
def qAS.Post(W F:World)(r:Bool)(v:Value)(w':World):Prop:=∃(F':World),v = .bool r∧St W (mine W []) F w' F' []
theorem qAS.calls(k:Nat)(x0_:List qA)(x1_:List Int)(A0_0:Option Addr)(c0_0:Nat)(A1_0:Option Addr)(c1_0:Nat)(r:Bool)(W F:World)(hown:Sub F W)(g0_0:Rd qA.k F A0_0 c0_0 x0_)(g1_0:Rd ki F A1_0 c1_0 x1_)(H:qAS.f k x0_ x1_=some r):
    Calls Tryz.prog 81 #[.slice A0_0 x0_.length c0_0,.slice A1_0 x1_.length c1_0] W fun e w'=>∃ v,e = .returned v∧qAS.Post W F r v w':=by
 have hS:=St.start (Own.nil hown)
 unfold qAS.f at H
 refine enter (n:=43) rfl rfl rfl (Nat.le_of_ble_eq_true rfl) (fun a hE=>?_)
 refine rr hE fun a hE=>?_
 refine wp_scope_straight ?_
 refine sq fun K2 hK2=>sq fun K3 hK3=>pl0 (plc hE (.r 0 1 .nil) (fun a hE=>?_))
 obtain ⟨t5,h6,H⟩:=bd H
 refine ple hE (.cl en80 (qAM.calls k x0_ _ _ _ _ _ hS.own.sub g0_0 h6)) ?_
 rintro _ u4 a ⟨_,rfl,hC⟩ hE
 replace hS:=hS.lent hC
 refine plc hE (.r 2 1 .nil) (fun a hE=>pld (hK3 _ _ ?_))
 refine hE.ikn 12 H (fun c7 hE H=>?_) fun c7 hE H=>?_
 ·
  refine wp_skip (hK2 _ _ (rr hE fun a hE=>(sq fun K10 hK10=>?_)))
  refine wp_label ?_
  refine hK10 _ _ (sq fun K11 hK11=>rr hE fun a hE=>(wp_block ?_))
  replace hS:=hS.nilrow ki 3
  refine wp_loop_ghost (fun kq19 a w'=>∃(G:Nat→Value)(A14:Option Addr)(c15:Nat)(l16:List Int)(x17:Int),kq19≤k∧Env 43 G a∧At G [(0,.slice A0_0 x0_.length c0_0),(5,.slice A14 l16.length c15),(13,.slice A1_0 x1_.length c1_0),(14,iv (x1_.length:Int)),(15,iv x17)]∧St W (mine W []) F w' F [row ki 3 (.slice A14 l16.length c15) l16]∧qAS.l18 kq19 x0_ x1_ l16 x17=some r) k ⟨_,none,0,[],0,Nat.le_refl _,hE,.of,hS,H⟩ ?_
  rintro kq19 a u21 ⟨G,A14,c15,l16,x17,hkq,hE,hA,hS,H⟩
  obtain _ | k20:=kq19
  ·
   exact zz H
  rw [qAS.l18_s]at H
  obtain ⟨J,hE⟩:=hE.at hA
  refine rr hE fun a hE=>(sq fun K23 hK23=>?_)
  refine hE.ik 16 H (fun c24 hE H=>?_) fun c24 hE H=>?_
  ·
   refine wp_skip (hK23 _ _ (sq fun K25 hK25=>wp_block (sq fun K26 hK26=>pl0 ?_)))
   obtain ⟨c27,H⟩:=gd H
   have hE_:=hE
   obtain ⟨ad28,rfl⟩:=g1_0.addr c27.1 c27.2
   replace hE:=hE_
   obtain ⟨cs30,rfl,hc31⟩:=g1_0.el 0 x17 c27.1 c27.2
   refine plc hE (.x 0 c27<|.c 1 (hS.fc hc31 0)<|.r 2 1<|.nil) (fun a hE=>pld (hK26 _ _ (sq fun K32 hK32=>rr hE fun a hE=>(wp_block ?_))))
   refine wp_loop_ghost (fun kq36 a w'=>∃(G:Nat→Value)(x34:Int),kq36≤k20∧Env 43 G a∧At G [(0,.slice A0_0 x0_.length c0_0),(5,.slice A14 l16.length c15),(7,iv (nth 0 x1_ x17)),(13,.slice (some ad28) x1_.length c1_0),(14,iv (x1_.length:Int)),(15,iv x17),(19,.slice A0_0 x0_.length c0_0),(20,iv (x0_.length:Int)),(21,iv x34)]∧St W (mine W []) F w' F [row ki 3 (.slice A14 l16.length c15) l16]∧qAS.l35 kq36 x0_ x1_ l16 x17 x34=some r) k20 ⟨_,0,Nat.le_refl _,hE,.of,hS,H⟩ ?_
   rintro kq36 a u38 ⟨G,x34,hkq,hE,hA,hS,H⟩
   obtain _ | k37:=kq36
   ·
    exact zz H
   rw [qAS.l35_s]at H
   obtain ⟨J,hE⟩:=hE.at hA
   refine rr hE fun a hE=>(sq fun K40 hK40=>?_)
   refine hE.ik 22 H (fun c41 hE H=>?_) fun c41 hE H=>?_
   ·
    refine wp_skip (hK40 _ _ (sq fun K42 hK42=>wp_block (sq fun K43 hK43=>pl0 ?_)))
    obtain ⟨c44,H⟩:=gd H
    have hE_:=hE
    obtain ⟨ad45,rfl⟩:=g0_0.addr c44.1 c44.2
    replace hE:=hE_
    obtain ⟨cs47,rfl,hc48⟩:=g0_0.el qA.z x34 c44.1 c44.2
    refine plc hE (.x 0 c44<|.cs 1 (hS.fcs hc48)<|.nil) (fun a hE=>ple hE (.al (t:=104) hS [iv 0,iv 0,iv 0,iv 0,.bool false,.bool false]) ?_)
    rintro _ u50 a ⟨b49,rfl,hb49,hS,hg⟩ hE
    refine ple hE (.sto hS [iv ((nth qA.z x0_ x34).f0),iv ((nth qA.z x0_ x34).f1),iv ((nth qA.z x0_ x34).f2),iv ((nth qA.z x0_ x34).f3),.bool ((nth qA.z x0_ x34).f4),.bool ((nth qA.z x0_ x34).f5)]) ?_
    rintro _ u51 a ⟨rfl,hb49,hS,hz⟩ hE
    refine pld (hK43 _ _ (sq fun K52 hK52=>?_))
    have J61:∀ kq59,kq59≤k37→∀(G:Nat→Value)(y57:Bool)(a:Act)(w':World),Env 43 G a→At G [(0,.slice (some ad45) x0_.length c0_0),(5,.slice A14 l16.length c15),(7,iv (nth 0 x1_ x17)),(9,.pointer (pb b49)),(13,.slice (some ad28) x1_.length c1_0),(14,iv (x1_.length:Int)),(15,iv x17),(19,.slice (some ad45) x0_.length c0_0),(20,iv (x0_.length:Int)),(21,iv x34),(35,.bool y57)]→St W (mine W []) F w' F [box b49 #[iv ((nth qA.z x0_ x34).f0),iv ((nth qA.z x0_ x34).f1),iv ((nth qA.z x0_ x34).f2),iv ((nth qA.z x0_ x34).f3),.bool ((nth qA.z x0_ x34).f4),.bool ((nth qA.z x0_ x34).f5)] 104,row ki 3 (.slice A14 l16.length c15) l16]→qAS.j58 kq59 x0_ x1_ l16 x17 x34 y57=some r→K52 a w':=by
     intro kq59 hkq G y57 a u62 hE hA hS H
     obtain _ | k60:=kq59
     ·
      exact zz H
     rw [qAS.j58_s]at H
     obtain ⟨J,hE⟩:=hE.at hA
     refine hK52 _ _ ?_
     refine hE.ib 35 H (fun c63 hE H=>?_) fun c63 hE H=>?_
     ·
      refine sq fun K64 hK64=>pl0 ?_
      have hb49:=hS.ba 0
      refine plc hE (.r 0 2<|.b 2 1 hb49<|.nil) (fun a hE=>ple hE (.lit (d:=ki) (e:=3) hS [(nth qA.z x0_ x34).f1] (.cons rfl .nil)) ?_)
      rintro _ u65 a ⟨A66,c67,rfl,hS,hg⟩ hE
      obtain ⟨c69,H⟩:=gd H
      replace hS:=hS.front 2 rfl
      refine ple hE (.ap (d:=ki) 8 hS (qCO (hS.row_at (i:=1) rfl)) c69 c67) ?_
      rintro _ u72 a ⟨A70,c71,rfl,hS,hz⟩ hE
      refine plc hE (.r 5 1 .nil) (fun a hE=>pld (hK64 _ _ ?_))
      refine wp_exit ?_
      refine hK25 _ _ (pl0 (plc hE (.r 0 2 .nil) (fun a hE=>pld ?_)))
      replace hS:=hS.pm [0] 3
      exact qCG ⟨k60,by omega,_,A70,c71,(l16++[(nth qA.z x0_ x34).f1]),(w64 (x17+1)),by omega,hE,.of,hS,H⟩
     refine wp_skip ?_
     refine qCF ?_
     refine hK42 _ _ (pl0 (plc hE (.r 0 2 .nil) (fun a hE=>pld ?_)))
     replace hS:=hS.tail
     exact qCG ⟨k60,by omega,_,(w64 (x34+1)),by omega,hE,.of,hS,H⟩
    refine pl0 (plc hE (.r 0 1<|.b 1 0 hb49<|.r 2 3<|.nil) (fun a hE=>?_))
    rcases sp H with ⟨c53,H⟩ | ⟨c53,H⟩
    ·
     replace hE:=hE.kt 29 c53
     refine plc hE (.r 5 2<|.b 7 1 hb49<|.nil) (fun a hE=>?_)
     obtain ⟨t55,h56,H⟩:=bd H
     refine ple hE (.cl en118 (qAb.calls k37 l16 ((nth qA.z x0_ x34).f1) _ _ _ _ _ (Sub.refl _) (hS.rd_at (i:=1) rfl) h56)) ?_
     rintro _ u54 a ⟨_,rfl,hC⟩ hE
     replace hS:=hS.lent hC
     refine plc hE (.r 9 2 .nil) (fun a hE=>pld ?_)
     exact J61 _ (by omega) _ (!t55) _ _ hE .of hS H
    replace hE:=hE.kf 29 c53
    refine plc hE (.r 5 6 .nil) (fun a hE=>pld ?_)
    exact J61 _ (by omega) _ false _ _ hE .of hS H
   refine wp_exit ?_
   refine hK32 _ _ (rr hE fun a hE=>(wp_ret (qCE (qCD (qCD (qCE (qCD (qDP ?_))))))))
   replace hS:=hS.tail
   obtain rfl:=si H
   exact rt1 hE ⟨_,rfl,_,rfl,hS⟩
  refine wp_exit ?_
  refine hK11 _ _ (rr hE fun a hE=>(wp_ret (qDP ?_)))
  replace hS:=hS.tail
  obtain rfl:=si H
  exact rt1 hE ⟨_,rfl,_,rfl,hS⟩
 refine rr hE fun a hE=>(wp_ret (qCD (qDP ?_)))
 obtain rfl:=si H
 exact rt1 hE ⟨_,rfl,_,rfl,hS⟩
def qAB.l9:Nat→List Int→List Int→Int→Option Bool
 | 0,_,_,_=>none
 | k+1,x0_,x1_,x8=>if x8<(x0_.length:Int) then (if 0≤x8∧x8<(x0_.length:Int) then (if 0≤x8∧x8<(x1_.length:Int) then (if (nth 0 x0_ x8)=(nth 0 x1_ x8) then (qAB.l9 k x0_ x1_ (w64 (x8+1))) else (some false)) else (none)) else (none)) else (some true)
theorem qAB.l9_s k x0_ x1_ x8:type_of% (qAB.l9.eq_2 x0_ x1_ x8 k):=qAB.l9.eq_2 x0_ x1_ x8 k
def qAB.f(k:Nat)(x0_:List Int)(x1_:List Int):Option Bool:=if (x0_.length:Int)=(x1_.length:Int) then (qAB.l9 k x0_ x1_ 0) else (some false)
def qAB.Post(W F:World)(r:Bool)(v:Value)(w':World):Prop:=∃(F':World),v = .bool r∧St W (mine W []) F w' F' []
theorem qAB.calls(k:Nat)(x0_:List Int)(x1_:List Int)(A0_0:Option Addr)(c0_0:Nat)(A1_0:Option Addr)(c1_0:Nat)(r:Bool)(W F:World)(hown:Sub F W)(g0_0:Rd ki F A0_0 c0_0 x0_)(g1_0:Rd ki F A1_0 c1_0 x1_)(H:qAB.f k x0_ x1_=some r):
    Calls Tryz.prog 90 #[.slice A0_0 x0_.length c0_0,.slice A1_0 x1_.length c1_0] W fun e w'=>∃ v,e = .returned v∧qAB.Post W F r v w':=by
 have hS:=St.start (Own.nil hown)
 unfold qAB.f at H
 refine enter (n:=26) rfl rfl rfl (Nat.le_of_ble_eq_true rfl) (fun a hE=>?_)
 refine rr hE fun a hE=>(sq fun K2 hK2=>rr hE fun a hE=>?_)
 refine hE.ikn 10 H (fun c4 hE H=>?_) fun c4 hE H=>?_
 ·
  refine wp_skip (hK2 _ _ (sq fun K6 hK6=>rr hE fun a hE=>(wp_block ?_)))
  refine wp_loop_ghost (fun kq10 a w'=>∃(G:Nat→Value)(x8:Int),kq10≤k∧Env 26 G a∧At G [(0,.slice A0_0 x0_.length c0_0),(1,.slice A1_0 x1_.length c1_0),(12,iv (x0_.length:Int)),(13,iv x8)]∧St W (mine W []) F w' F []∧qAB.l9 kq10 x0_ x1_ x8=some r) k ⟨_,0,Nat.le_refl _,hE,.of,hS,H⟩ ?_
  rintro kq10 a u12 ⟨G,x8,hkq,hE,hA,hS,H⟩
  obtain _ | k11:=kq10
  ·
   exact zz H
  rw [qAB.l9_s]at H
  obtain ⟨J,hE⟩:=hE.at hA
  refine rr hE fun a hE=>(sq fun K14 hK14=>?_)
  refine hE.ik 14 H (fun c15 hE H=>?_) fun c15 hE H=>?_
  ·
   refine wp_skip (hK14 _ _ (sq fun K16 hK16=>wp_block (rr hE fun a hE=>(sq fun K18 hK18=>?_))))
   refine drawn 9 ⟨[],[],fun q=>False⟩ mixed rfl (by kernel_rfl) (fun hst=>?_)
   replace hS:=hS.drew
   obtain ⟨c19,H⟩:=gd H
   have hE_:=hE
   obtain ⟨ad20,rfl⟩:=g0_0.addr c19.1 c19.2
   replace hE:=hE_
   obtain ⟨cs22,rfl,hc23⟩:=g0_0.el 0 x8 c19.1 c19.2
   obtain ⟨c24,H⟩:=gd H
   have hE_:=hE
   obtain ⟨ad25,rfl⟩:=g1_0.addr c24.1 c24.2
   replace hE:=hE_
   obtain ⟨cs27,rfl,hc28⟩:=g1_0.el 0 x8 c24.1 c24.2
   refine mny 0 hst hE (.r 0 2<|.x 2 c19<|.c 3 (hS.fc hc23 0)<|.r 4 2<|.x 6 c24<|.c 7 (hS.fc hc28 0)<|.r 8 1<|.nil) (fun a hE=>?_)
   refine dn ?_
   refine hK18 _ _ ?_
   refine hE.ikn 24 H (fun c29 hE H=>?_) fun c29 hE H=>?_
   ·
    refine wp_skip ?_
    refine qCF ?_
    refine hK16 _ _ (pl0 (plc hE (.r 0 2 .nil) (fun a hE=>pld ?_)))
    exact qCG ⟨k11,by omega,_,(w64 (x8+1)),by omega,hE,.of,hS,H⟩
   refine rr hE fun a hE=>(wp_ret (qCE (qCD (qCD (qCE (qCD ?_))))))
   obtain rfl:=si H
   exact rt1 hE ⟨_,rfl,_,rfl,hS⟩
  refine wp_exit ?_
  refine hK6 _ _ (rr hE fun a hE=>(wp_ret ?_))
  obtain rfl:=si H
  exact rt1 hE ⟨_,rfl,_,rfl,hS⟩
 refine rr hE fun a hE=>(wp_ret (qCD ?_))
 obtain rfl:=si H
 exact rt1 hE ⟨_,rfl,_,rfl,hS⟩
def qBh.f(k:Nat)(x0_:qE)(xf0_:qE):Option Bool:=(qAB.f k x0_.f1 xf0_.f1).bind fun t6=>(some t6)
def qBh.Post(W F:World)(r:Bool)(v:Value)(w':World):Prop:=∃(F':World),v = .bool r∧St W (mine W []) F w' F' []
theorem qBh.calls(k:Nat)(x0_:qE)(xf0_:qE)(A0_1:Option Addr)(c0_1:Nat)(pf0_:Nat)(Af0_1:Option Addr)(cf0_1:Nat)(r:Bool)(W F:World)(hown:Sub F W)(g0_1:Rd ki F A0_1 c0_1 x0_.f1)(gf0_1:Rd ki F Af0_1 cf0_1 xf0_.f1)(hpf0_:F.heap[pf0_]? = some (.cells #[iv xf0_.f0,.slice Af0_1 xf0_.f1.length cf0_1] 51 (0,0)))(H:qBh.f k x0_ xf0_=some r):
    Calls Tryz.prog 187 #[.agg #[iv x0_.f0,.slice A0_1 x0_.f1.length c0_1],.pointer (pb pf0_)] W fun e w'=>∃ v,e = .returned v∧qBh.Post W F r v w':=by
 have hS:=St.start (Own.nil hown)
 unfold qBh.f at H
 refine enter (n:=9) rfl rfl rfl (Nat.le_of_ble_eq_true rfl) (fun a hE=>?_)
 refine sq fun K1 hK1=>pl0 (ple hE (.bx (t:=51) hS [iv x0_.f0,.slice A0_1 x0_.f1.length c0_1]) ?_)
 rintro _ u3 a ⟨b2,rfl,hb2,hS,hg⟩ hE
 refine plc hE (.r 1 1 .nil) (fun a hE=>pld (hK1 _ _ (sq fun K4 hK4=>pl0 (plc hE (.r 0 1<|.b 1 1 hb2<|.r 2 1<|.b 3 1 (hS.own.sub _ _ _ _ hpf0_)<|.nil) (fun a hE=>?_)))))
 obtain ⟨t6,h7,H⟩:=bd H
 refine ple hE (.cl en90 (qAB.calls k x0_.f1 xf0_.f1 _ _ _ _ _ _ _ hS.own.sub g0_1 gf0_1 h7)) ?_
 rintro _ u5 a ⟨_,rfl,hC⟩ hE
 replace hS:=hS.lent hC
 refine plc hE (.r 5 1 .nil) (fun a hE=>pld (hK4 _ _ (wp_ret ?_)))
 replace hS:=hS.tail
 obtain rfl:=si H
 exact rt1 hE ⟨_,rfl,_,rfl,hS⟩
def qW.l5:Nat→List qE→qE→Int→Option Int
 | 0,_,_,_=>none
 | k+1,x0_,x1c0_,x4=>if x4<(x0_.length:Int) then (if 0≤x4∧x4<(x0_.length:Int) then ((qBh.f k (⟨(nth qE.z x0_ x4).f0,(nth qE.z x0_ x4).f1⟩:qE) x1c0_).bind fun t24=>(if t24=true then (some x4) else (qW.l5 k x0_ x1c0_ (w64 (x4+1))))) else (none)) else (some (-1))
theorem qW.l5_s k x0_ x1c0_ x4:type_of% (qW.l5.eq_2 x0_ x1c0_ x4 k):=qW.l5.eq_2 x0_ x1c0_ x4 k
def qW.f(k:Nat)(x0_:List qE)(x1c0_:qE):Option Int:=qW.l5 k x0_ x1c0_ 0
def qW.Post(W F:World)(r:Int)(v:Value)(w':World):Prop:=∃(F':World),v=iv r∧St W (mine W []) F w' F' []
theorem qW.calls(k:Nat)(x0_:List qE)(x1c0_:qE)(A0_0:Option Addr)(c0_0:Nat)(p1c0_:Nat)(A1c0_1:Option Addr)(c1c0_1:Nat)(r:Int)(W F:World)(hown:Sub F W)(g0_0:Rd qE.k F A0_0 c0_0 x0_)(g1c0_1:Rd ki F A1c0_1 c1c0_1 x1c0_.f1)(hp1c0_:F.heap[p1c0_]? = some (.cells #[iv x1c0_.f0,.slice A1c0_1 x1c0_.f1.length c1c0_1] 51 (0,0)))(H:qW.f k x0_ x1c0_=some r):
    Calls Tryz.prog 163 #[.slice A0_0 x0_.length c0_0,.func (.func 187) #[] #[.pointer (pb p1c0_)]] W fun e w'=>∃ v,e = .returned v∧qW.Post W F r v w':=by
 have hS:=St.start (Own.nil hown)
 unfold qW.f at H
 refine enter (n:=19) rfl rfl rfl (Nat.le_of_ble_eq_true rfl) (fun a hE=>?_)
 refine rr hE fun a hE=>(sq fun K2 hK2=>rr hE fun a hE=>(wp_block ?_))
 refine wp_loop_ghost (fun kq6 a w'=>∃(G:Nat→Value)(x4:Int),kq6≤k∧Env 19 G a∧At G [(0,.slice A0_0 x0_.length c0_0),(1,.func (.func 187) #[] #[.pointer (pb p1c0_)]),(7,iv (x0_.length:Int)),(8,iv x4)]∧St W (mine W []) F w' F []∧qW.l5 kq6 x0_ x1c0_ x4=some r) k ⟨_,0,Nat.le_refl _,hE,.of,hS,H⟩ ?_
 rintro kq6 a u8 ⟨G,x4,hkq,hE,hA,hS,H⟩
 obtain _ | k7:=kq6
 ·
  exact zz H
 rw [qW.l5_s]at H
 obtain ⟨J,hE⟩:=hE.at hA
 refine rr hE fun a hE=>(sq fun K10 hK10=>?_)
 refine hE.ik 9 H (fun c11 hE H=>?_) fun c11 hE H=>?_
 ·
  refine wp_skip (hK10 _ _ (sq fun K12 hK12=>wp_block (rr hE fun a hE=>(sq fun K14 hK14=>pl0 ?_))))
  obtain ⟨c15,H⟩:=gd H
  have hE_:=hE
  obtain ⟨ad16,rfl⟩:=g0_0.addr c15.1 c15.2
  replace hE:=hE_
  obtain ⟨cs18,⟨A20,c21,rfl,g22⟩,hc19⟩:=g0_0.el qE.z x4 c15.1 c15.2
  refine plc hE (.r 0 3<|.x 3 c15<|.cs 4 (hS.fcs hc19)<|.nil) (fun a hE=>?_)
  obtain ⟨t24,h25,H⟩:=bd H
  refine ple hE (.cl en187 (qBh.calls k7 (⟨(nth qE.z x0_ x4).f0,(nth qE.z x0_ x4).f1⟩:qE) x1c0_ _ _ _ _ _ _ _ _ hS.own.sub g22 g1c0_1 hp1c0_ h25)) ?_
  rintro _ u23 a ⟨_,rfl,hC⟩ hE
  replace hS:=hS.lent hC
  refine pld (hK14 _ _ ?_)
  refine hE.ib 16 H (fun c26 hE H=>?_) fun c26 hE H=>?_
  ·
   refine rr hE fun a hE=>(wp_ret (qCE (qCD (qCD (qCE (qCD ?_))))))
   obtain rfl:=si H
   exact rt1 hE ⟨_,rfl,_,rfl,hS⟩
  refine wp_skip ?_
  refine qCF ?_
  refine hK12 _ _ (pl0 (plc hE (.r 0 2 .nil) (fun a hE=>pld ?_)))
  exact qCG ⟨k7,by omega,_,(w64 (x4+1)),by omega,hE,.of,hS,H⟩
 refine wp_exit ?_
 refine hK2 _ _ (rr hE fun a hE=>(wp_ret ?_))
 obtain rfl:=si H
 exact rt1 hE ⟨_,rfl,_,rfl,hS⟩
def qo.f(k:Nat)(x0_:List qE)(x1c0_:qE):Option Bool:=(qW.f k x0_ x1c0_).bind fun t4=>(some (decide (t4≥0)))
def qo.Post(W F:World)(r:Bool)(v:Value)(w':World):Prop:=∃(F':World),v = .bool r∧St W (mine W []) F w' F' []
theorem qo.calls(k:Nat)(x0_:List qE)(x1c0_:qE)(A0_0:Option Addr)(c0_0:Nat)(p1c0_:Nat)(A1c0_1:Option Addr)(c1c0_1:Nat)(r:Bool)(W F:World)(hown:Sub F W)(g0_0:Rd qE.k F A0_0 c0_0 x0_)(g1c0_1:Rd ki F A1c0_1 c1c0_1 x1c0_.f1)(hp1c0_:F.heap[p1c0_]? = some (.cells #[iv x1c0_.f0,.slice A1c0_1 x1c0_.f1.length c1c0_1] 51 (0,0)))(H:qo.f k x0_ x1c0_=some r):
    Calls Tryz.prog 119 #[.slice A0_0 x0_.length c0_0,.func (.func 187) #[] #[.pointer (pb p1c0_)]] W fun e w'=>∃ v,e = .returned v∧qo.Post W F r v w':=by
 have hS:=St.start (Own.nil hown)
 unfold qo.f at H
 refine enter (n:=9) rfl rfl rfl (Nat.le_of_ble_eq_true rfl) (fun a hE=>?_)
 refine rr hE fun a hE=>(sq fun K2 hK2=>pl0 (plc hE (.r 0 2 .nil) (fun a hE=>?_)))
 obtain ⟨t4,h5,H⟩:=bd H
 refine ple hE (.cl en163 (qW.calls k x0_ x1c0_ _ _ _ _ _ _ _ _ hS.own.sub g0_0 g1c0_1 hp1c0_ h5)) ?_
 rintro _ u3 a ⟨_,rfl,hC⟩ hE
 replace hS:=hS.lent hC
 refine plc hE (.r 3 2 .nil) (fun a hE=>pld (hK2 _ _ (wp_ret ?_)))
 obtain rfl:=si H
 exact rt1 hE ⟨_,rfl,_,rfl,hS⟩
mutual
def qAO.l9:Nat→qJ→qF→Int→Option Bool
 | 0,_,_,_=>none
 | k+1,x0_,x1_,x8=>if x8<(x1_.f1.length:Int) then (if 0≤x8∧x8<(x1_.f1.length:Int) then ((qBC.f ((nth qE.z x1_.f1 x8).f0) 0 (w64 (x1_.f0 - 1))).bind fun t32=>(if t32=true then (if x8>0 then (if 0≤(w64 (x8 - 1))∧(w64 (x8 - 1))<(x1_.f1.length:Int) then (if (nth qE.z x1_.f1 x8).f0≤(nth qE.z x1_.f1 (w64 (x8 - 1))).f0 then (qAO.j51 k x0_ x1_ x8 true) else ((qBC.f (((nth qE.z x1_.f1 x8).f1).length:Int) x0_.f2 x0_.f1).bind fun t45=>(qAO.j51 k x0_ x1_ x8 (!t45)))) else (none)) else ((qBC.f (((nth qE.z x1_.f1 x8).f1).length:Int) x0_.f2 x0_.f1).bind fun t48=>(qAO.j51 k x0_ x1_ x8 (!t48)))) else (qAO.j51 k x0_ x1_ x8 true))) else (none)) else (some true)
def qAO.j51:Nat→qJ→qF→Int→Bool→Option Bool
 | 0,_,_,_,_=>none
 | k+1,x0_,x1_,x8,y50=>if y50=true then (some false) else (qAO.l61 k x0_ x1_ x8 0)
def qAO.l61:Nat→qJ→qF→Int→Int→Option Bool
 | 0,_,_,_,_=>none
 | k+1,x0_,x1_,x8,x60=>if x60<(((nth qE.z x1_.f1 x8).f1).length:Int) then (if 0≤x60∧x60<(((nth qE.z x1_.f1 x8).f1).length:Int) then ((qBC.f (nth 0 ((nth qE.z x1_.f1 x8).f1) x60) 1 999).bind fun t77=>(if t77=true then (if x60>0 then (if 0≤(w64 (x60 - 1))∧(w64 (x60 - 1))<(((nth qE.z x1_.f1 x8).f1).length:Int) then (qAO.j86 k x0_ x1_ x8 x60 (decide ((nth 0 ((nth qE.z x1_.f1 x8).f1) x60)≤(nth 0 ((nth qE.z x1_.f1 x8).f1) (w64 (x60 - 1)))))) else (none)) else (qAO.j86 k x0_ x1_ x8 x60 false)) else (qAO.j86 k x0_ x1_ x8 x60 true))) else (none)) else (if 0≤x8∧x8≤(x1_.f1.length:Int) then ((qo.f k (cutl x1_.f1 0 x8) (⟨(nth qE.z x1_.f1 x8).f0,(nth qE.z x1_.f1 x8).f1⟩:qE)).bind fun t100=>(if t100=true then (some false) else (qAO.l9 k x0_ x1_ (w64 (x8+1))))) else (none))
def qAO.j86:Nat→qJ→qF→Int→Int→Bool→Option Bool
 | 0,_,_,_,_,_=>none
 | k+1,x0_,x1_,x8,x60,y85=>if y85=true then (some false) else (qAO.l61 k x0_ x1_ x8 (w64 (x60+1)))
end
theorem qAO.l9_s k x0_ x1_ x8:type_of% (qAO.l9.eq_2 x0_ x1_ x8 k):=qAO.l9.eq_2 x0_ x1_ x8 k
theorem qAO.j51_s k x0_ x1_ x8 y50:type_of% (qAO.j51.eq_2 x0_ x1_ x8 y50 k):=qAO.j51.eq_2 x0_ x1_ x8 y50 k
theorem qAO.l61_s k x0_ x1_ x8 x60:type_of% (qAO.l61.eq_2 x0_ x1_ x8 x60 k):=qAO.l61.eq_2 x0_ x1_ x8 x60 k
theorem qAO.j86_s k x0_ x1_ x8 x60 y85:type_of% (qAO.j86.eq_2 x0_ x1_ x8 x60 y85 k):=qAO.j86.eq_2 x0_ x1_ x8 x60 y85 k
def qAO.f(k:Nat)(x0_:qJ)(x1_:qF):Option Bool:=qAO.l9 k x0_ x1_ 0
def qAO.Post(W F:World)(r:Bool)(v:Value)(w':World):Prop:=∃(F':World),v = .bool r∧St W (mine W []) F w' F' []
theorem qAO.calls(k:Nat)(x0_:qJ)(x1_:qF)(A0_4:Option Addr)(c0_4:Nat)(A0_5:Option Addr)(c0_5:Nat)(A0_6:Option Addr)(c0_6:Nat)(A1_1:Option Addr)(c1_1:Nat)(r:Bool)(W F:World)(hown:Sub F W)(g0_4:Rd qA.k F A0_4 c0_4 x0_.f4)(g0_5:Rd qM.k F A0_5 c0_5 x0_.f5)(g0_6:Rd qF.k F A0_6 c0_6 x0_.f6)(g1_1:Rd qE.k F A1_1 c1_1 x1_.f1)(H:qAO.f k x0_ x1_=some r):
    Calls Tryz.prog 142 #[.agg #[iv x0_.f0,iv x0_.f1,iv x0_.f2,iv x0_.f3,.slice A0_4 x0_.f4.length c0_4,.slice A0_5 x0_.f5.length c0_5,.slice A0_6 x0_.f6.length c0_6],.agg #[iv x1_.f0,.slice A1_1 x1_.f1.length c1_1]] W fun e w'=>∃ v,e = .returned v∧qAO.Post W F r v w':=by
 have hS:=St.start (Own.nil hown)
 unfold qAO.f at H
 refine enter (n:=84) rfl rfl rfl (Nat.le_of_ble_eq_true rfl) (fun a hE=>?_)
 refine sq fun K1 hK1=>pl0 (ple hE (.bx (t:=26) hS [iv x0_.f0,iv x0_.f1,iv x0_.f2,iv x0_.f3,.slice A0_4 x0_.f4.length c0_4,.slice A0_5 x0_.f5.length c0_5,.slice A0_6 x0_.f6.length c0_6]) ?_)
 rintro _ u3 a ⟨b2,rfl,hb2,hS,hg⟩ hE
 refine ple hE (.bx (t:=49) hS [iv x1_.f0,.slice A1_1 x1_.f1.length c1_1]) ?_
 rintro _ u5 a ⟨b4,rfl,hb4,hS,hg⟩ hE
 refine plc hE (.r 2 1 .nil) (fun a hE=>pld (hK1 _ _ (sq fun K6 hK6=>rg hE (.r 0 1<|.b 1 1 hb4<|.r 2 2<|.nil) fun a hE=>(wp_block ?_))))
 refine wp_loop_ghost (fun kq10 a w'=>∃(G:Nat→Value)(x8:Int),kq10≤k∧Env 84 G a∧At G [(2,.pointer (pb b2)),(3,.pointer (pb b4)),(10,.slice A1_1 x1_.f1.length c1_1),(11,iv (x1_.f1.length:Int)),(12,iv x8)]∧St W (mine W []) F w' F [box b4 #[iv x1_.f0,.slice A1_1 x1_.f1.length c1_1] 49,box b2 #[iv x0_.f0,iv x0_.f1,iv x0_.f2,iv x0_.f3,.slice A0_4 x0_.f4.length c0_4,.slice A0_5 x0_.f5.length c0_5,.slice A0_6 x0_.f6.length c0_6] 26]∧qAO.l9 kq10 x0_ x1_ x8=some r) k ⟨_,0,Nat.le_refl _,hE,.of,hS,H⟩ ?_
 rintro kq10 a u12 ⟨G,x8,hkq,hE,hA,hS,H⟩
 obtain _ | k11:=kq10
 ·
  exact zz H
 rw [qAO.l9_s]at H
 obtain ⟨J,hE⟩:=hE.at hA
 refine rr hE fun a hE=>(sq fun K14 hK14=>?_)
 refine hE.ik 13 H (fun c15 hE H=>?_) fun c15 hE H=>?_
 ·
  refine wp_skip (hK14 _ _ (sq fun K16 hK16=>wp_block (sq fun K17 hK17=>pl0 ?_)))
  obtain ⟨c18,H⟩:=gd H
  have hE_:=hE
  obtain ⟨ad19,rfl⟩:=g1_1.addr c18.1 c18.2
  replace hE:=hE_
  obtain ⟨cs21,⟨A23,c24,rfl,g25⟩,hc22⟩:=g1_1.el qE.z x8 c18.1 c18.2
  refine plc hE (.r 0 1<|.x 1 c18<|.cs 2 (hS.fcs hc22)<|.nil) (fun a hE=>ple hE (.al (t:=51) hS [iv 0,.slice none 0 0]) ?_)
  rintro _ u27 a ⟨b26,rfl,hb26,hS,hg⟩ hE
  refine plc hE (.r 4 1 .nil) (fun a hE=>ple hE (.sto hS [iv ((nth qE.z x1_.f1 x8).f0),.slice A23 (((nth qE.z x1_.f1 x8).f1).length) c24]) ?_)
  rintro _ u28 a ⟨rfl,hb26,hS,hz⟩ hE
  refine pld (hK17 _ _ (sq fun K29 hK29=>sq fun K30 hK30=>?_))
  have J54:∀ kq52,kq52≤k11→∀(G:Nat→Value)(y50:Bool)(a:Act)(w':World),Env 84 G a→At G [(2,.pointer (pb b2)),(3,.pointer (pb b4)),(5,iv x8),(6,.pointer (pb b26)),(10,.slice (some ad19) x1_.f1.length c1_1),(11,iv (x1_.f1.length:Int)),(12,iv x8),(50,.bool y50)]→St W (mine W []) F w' F [box b26 #[iv ((nth qE.z x1_.f1 x8).f0),.slice A23 (((nth qE.z x1_.f1 x8).f1).length) c24] 51,box b4 #[iv x1_.f0,.slice (some ad19) x1_.f1.length c1_1] 49,box b2 #[iv x0_.f0,iv x0_.f1,iv x0_.f2,iv x0_.f3,.slice A0_4 x0_.f4.length c0_4,.slice A0_5 x0_.f5.length c0_5,.slice A0_6 x0_.f6.length c0_6] 26]→qAO.j51 kq52 x0_ x1_ x8 y50=some r→K30 a w':=by
   intro kq52 hkq G y50 a u55 hE hA hS H
   obtain _ | k53:=kq52
   ·
    exact zz H
   rw [qAO.j51_s]at H
   obtain ⟨J,hE⟩:=hE.at hA
   refine hK30 _ _ ?_
   refine hE.ib 50 H (fun c56 hE H=>?_) fun c56 hE H=>?_
   ·
    refine rr hE fun a hE=>(wp_ret (qCD (qCE (qCD (qCD (qCE (qCD ?_)))))))
    replace hS:=hS.pm [] 3
    obtain rfl:=si H
    exact rt1 hE ⟨_,rfl,_,rfl,hS⟩
   refine wp_skip (hK29 _ _ (sq fun K58 hK58=>sq fun K59 hK59=>pl0 ?_))
   have hb26:=hS.ba 0
   refine plc hE (.r 0 1<|.b 1 1 hb26<|.r 2 2<|.nil) (fun a hE=>pld (hK59 _ _ (wp_block ?_)))
   refine wp_loop_ghost (fun kq62 a w'=>∃(G:Nat→Value)(x60:Int),kq62≤k53∧Env 84 G a∧At G [(2,.pointer (pb b2)),(3,.pointer (pb b4)),(5,iv x8),(6,.pointer (pb b26)),(10,.slice (some ad19) x1_.f1.length c1_1),(11,iv (x1_.f1.length:Int)),(12,iv x8),(52,.slice A23 (((nth qE.z x1_.f1 x8).f1).length) c24),(53,iv (((nth qE.z x1_.f1 x8).f1).length:Int)),(54,iv x60)]∧St W (mine W []) F w' F [box b26 #[iv ((nth qE.z x1_.f1 x8).f0),.slice A23 (((nth qE.z x1_.f1 x8).f1).length) c24] 51,box b4 #[iv x1_.f0,.slice (some ad19) x1_.f1.length c1_1] 49,box b2 #[iv x0_.f0,iv x0_.f1,iv x0_.f2,iv x0_.f3,.slice A0_4 x0_.f4.length c0_4,.slice A0_5 x0_.f5.length c0_5,.slice A0_6 x0_.f6.length c0_6] 26]∧qAO.l61 kq62 x0_ x1_ x8 x60=some r) k53 ⟨_,0,Nat.le_refl _,hE,.of,hS,H⟩ ?_
   rintro kq62 a u64 ⟨G,x60,hkq,hE,hA,hS,H⟩
   obtain _ | k63:=kq62
   ·
    exact zz H
   rw [qAO.l61_s]at H
   obtain ⟨J,hE⟩:=hE.at hA
   refine rr hE fun a hE=>(sq fun K66 hK66=>?_)
   refine hE.ik 55 H (fun c67 hE H=>?_) fun c67 hE H=>?_
   ·
    refine wp_skip (hK66 _ _ (sq fun K68 hK68=>wp_block (sq fun K69 hK69=>pl0 ?_)))
    obtain ⟨c70,H⟩:=gd H
    have hE_:=hE
    obtain ⟨ad71,rfl⟩:=g25.addr c70.1 c70.2
    replace hE:=hE_
    obtain ⟨cs73,rfl,hc74⟩:=g25.el 0 x60 c70.1 c70.2
    refine plc hE (.r 0 1<|.x 1 c70<|.c 2 (hS.fc hc74 0)<|.r 3 2<|.nil) (fun a hE=>pld (hK69 _ _ (sq fun K75 hK75=>?_)))
    have J89:∀ kq87,kq87≤k63→∀(G:Nat→Value)(y85:Bool)(a:Act)(w':World),Env 84 G a→At G [(2,.pointer (pb b2)),(3,.pointer (pb b4)),(5,iv x8),(6,.pointer (pb b26)),(10,.slice (some ad19) x1_.f1.length c1_1),(11,iv (x1_.f1.length:Int)),(12,iv x8),(52,.slice (some ad71) (((nth qE.z x1_.f1 x8).f1).length) c24),(53,iv (((nth qE.z x1_.f1 x8).f1).length:Int)),(54,iv x60),(75,.bool y85)]→St W (mine W []) F w' F [box b26 #[iv ((nth qE.z x1_.f1 x8).f0),.slice (some ad71) (((nth qE.z x1_.f1 x8).f1).length) c24] 51,box b4 #[iv x1_.f0,.slice (some ad19) x1_.f1.length c1_1] 49,box b2 #[iv x0_.f0,iv x0_.f1,iv x0_.f2,iv x0_.f3,.slice A0_4 x0_.f4.length c0_4,.slice A0_5 x0_.f5.length c0_5,.slice A0_6 x0_.f6.length c0_6] 26]→qAO.j86 kq87 x0_ x1_ x8 x60 y85=some r→K75 a w':=by
     intro kq87 hkq G y85 a u90 hE hA hS H
     obtain _ | k88:=kq87
     ·
      exact zz H
     rw [qAO.j86_s]at H
     obtain ⟨J,hE⟩:=hE.at hA
     refine hK75 _ _ ?_
     refine hE.ib 75 H (fun c91 hE H=>?_) fun c91 hE H=>?_
     ·
      refine rr hE fun a hE=>(wp_ret (qCE (qCD (qCD (qCE (qCD (qCE (qCD (qCD (qCE (qCD ?_)))))))))))
      replace hS:=hS.pm [] 3
      obtain rfl:=si H
      exact rt1 hE ⟨_,rfl,_,rfl,hS⟩
     refine wp_skip ?_
     refine qCF ?_
     refine hK68 _ _ (pl0 (plc hE (.r 0 2 .nil) (fun a hE=>pld ?_)))
     exact qCG ⟨k88,by omega,_,(w64 (x60+1)),by omega,hE,.of,hS,H⟩
    refine pl0 (plc hE (.r 0 1 .nil) (fun a hE=>?_))
    obtain ⟨t77,h78,H⟩:=bd H
    refine ple hE (.cl en70 (qBC.calls (nth 0 ((nth qE.z x1_.f1 x8).f1) x60) 1 999 _ _ _ hS.own.sub h78)) ?_
    rintro _ u76 a ⟨_,rfl,hC⟩ hE
    replace hS:=hS.lent hC
    refine plc hE (.r 2 2 .nil) (fun a hE=>?_)
    rcases sp H with ⟨c79,H⟩ | ⟨c79,H⟩
    ·
     replace hE:=hE.btn 62 c79
     refine plc hE (.r 4 3 .nil) (fun a hE=>?_)
     rcases sp H with ⟨c80,H⟩ | ⟨c80,H⟩
     ·
      replace hE:=hE.kt 65 c80
      have hb26:=hS.ba 0
      obtain ⟨c81,H⟩:=gd H
      obtain ⟨cs83,rfl,hc84⟩:=g25.el 0 (w64 (x60 - 1)) c81.1 c81.2
      refine plc hE (.r 7 2<|.b 9 1 hb26<|.r 10 2<|.x 12 c81<|.c 13 (hS.fc hc84 0)<|.r 14 3<|.nil) (fun a hE=>pld ?_)
      exact J89 _ (by omega) _ (decide ((nth 0 ((nth qE.z x1_.f1 x8).f1) x60)≤(nth 0 ((nth qE.z x1_.f1 x8).f1) (w64 (x60 - 1))))) _ _ hE .of hS H
     replace hE:=hE.kf 65 c80
     refine plc hE (.r 7 10 .nil) (fun a hE=>pld ?_)
     exact J89 _ (by omega) _ false _ _ hE .of hS H
    replace hE:=hE.bfn 62 c79
    refine plc hE (.r 4 13 .nil) (fun a hE=>pld ?_)
    exact J89 _ (by omega) _ true _ _ hE .of hS H
   refine wp_exit ?_
   refine hK58 _ _ (sq fun K93 hK93=>pl0 ?_)
   have hb4:=hS.ba 1
   obtain ⟨c94,H⟩:=gd H
   obtain ⟨A95,c96,g97,hv98⟩:=qEa (P:=Tryz.prog) g1_1 ⟨Int.le_refl _,c94.1,c94.2⟩ sz51
   refine plc hE (.r 0 1<|.b 1 1 hb4<|.r 2 1<|.y 3 (hv98 (by kernel_rfl))<|.r 4 1<|.nil) (fun a hE=>?_)
   obtain ⟨t100,h101,H⟩:=bd H
   refine ple hE (.cl en119 (qo.calls k63 (cutl x1_.f1 0 x8) (⟨(nth qE.z x1_.f1 x8).f0,(nth qE.z x1_.f1 x8).f1⟩:qE) _ _ _ _ _ _ _ _ (Sub.refl _) (g97.mono hS.own.sub) (g25.mono hS.own.sub) (hS.ba 0) h101)) ?_
   rintro _ u99 a ⟨_,rfl,hC⟩ hE
   replace hS:=hS.lent hC
   refine pld (hK93 _ _ ?_)
   refine hE.ib 82 H (fun c102 hE H=>?_) fun c102 hE H=>?_
   ·
    refine rr hE fun a hE=>(wp_ret (qCE (qCD (qCD (qCE (qCD ?_))))))
    replace hS:=hS.pm [] 3
    obtain rfl:=si H
    exact rt1 hE ⟨_,rfl,_,rfl,hS⟩
   refine wp_skip ?_
   refine qCF ?_
   refine hK16 _ _ (pl0 (plc hE (.r 0 2 .nil) (fun a hE=>pld ?_)))
   replace hS:=hS.tail
   exact qCG ⟨k63,by omega,_,(w64 (x8+1)),by omega,hE,.of,hS,H⟩
  refine drawn 34 ⟨[],[],fun q=>False⟩ mixed rfl (by kernel_rfl) (fun hst=>?_)
  replace hS:=hS.drew
  have hb26:=hS.ba 0
  have hb4:=hS.ba 1
  refine mny 29 hst hE (.r 0 1<|.b 1 0 hb26<|.r 2 1<|.b 3 0 hb4<|.r 4 1<|.nil) (fun a hE=>?_)
  obtain ⟨t32,h33,H⟩:=bd H
  refine on1 5 hE (.cl en70 (qBC.calls ((nth qE.z x1_.f1 x8).f0) 0 (w64 (x1_.f0 - 1)) _ _ _ hS.own.sub h33)) ?_
  rintro _ u31 a ⟨_,rfl,hC⟩ hE
  refine ⟨.of hC.agr,?_⟩
  replace hS:=hS.lent hC
  refine mny 26 hst hE (.r 6 2 .nil) (fun a hE=>?_)
  rcases sp H with ⟨c34,H⟩ | ⟨c34,H⟩
  ·
   replace hE:=hE.btn 24 c34
   refine mny 23 hst hE (.r 8 3 .nil) (fun a hE=>?_)
   rcases sp H with ⟨c35,H⟩ | ⟨c35,H⟩
   ·
    replace hE:=hE.kt 27 c35
    have hb26:=hS.ba 0
    have hb4:=hS.ba 1
    obtain ⟨c36,H⟩:=gd H
    obtain ⟨cs38,⟨A40,c41,rfl,g42⟩,hc39⟩:=g1_1.el qE.z (w64 (x8 - 1)) c36.1 c36.2
    refine mny 10 hst hE (.r 11 1<|.b 12 0 hb26<|.r 13 1<|.b 14 1 hb4<|.r 15 2<|.x 17 c36<|.r 18 1<|.c 19 (hS.fc hc39 0)<|.r 20 4<|.nil) (fun a hE=>?_)
    rcases sp H with ⟨c43,H⟩ | ⟨c43,H⟩
    ·
     replace hE:=hE.kt 40 c43
     refine mny 0 hst hE (.r 24 10 .nil) (fun a hE=>?_)
     refine dn ?_
     exact J54 _ (by omega) _ true _ _ hE .of hS H
    replace hE:=hE.kf 40 c43
    have hb2:=hS.ba 2
    refine mny 3 hst hE (.r 24 1<|.b 25 1 hb26<|.r 26 2<|.b 28 2 hb2<|.r 29 1<|.b 30 1 hb2<|.nil) (fun a hE=>?_)
    obtain ⟨t45,h46,H⟩:=bd H
    refine on1 31 hE (.cl en70 (qBC.calls (((nth qE.z x1_.f1 x8).f1).length:Int) x0_.f2 x0_.f1 _ _ _ hS.own.sub h46)) ?_
    rintro _ u44 a ⟨_,rfl,hC⟩ hE
    refine ⟨.of hC.agr,?_⟩
    replace hS:=hS.lent hC
    refine mny 0 hst hE (.r 32 2 .nil) (fun a hE=>?_)
    refine dn ?_
    exact J54 _ (by omega) _ (!t45) _ _ hE .of hS H
   replace hE:=hE.kf 27 c35
   have hb26:=hS.ba 0
   have hb2:=hS.ba 2
   refine mny 3 hst hE (.r 11 14<|.b 25 1 hb26<|.r 26 2<|.b 28 2 hb2<|.r 29 1<|.b 30 1 hb2<|.nil) (fun a hE=>?_)
   obtain ⟨t48,h49,H⟩:=bd H
   refine on1 31 hE (.cl en70 (qBC.calls (((nth qE.z x1_.f1 x8).f1).length:Int) x0_.f2 x0_.f1 _ _ _ hS.own.sub h49)) ?_
   rintro _ u47 a ⟨_,rfl,hC⟩ hE
   refine ⟨.of hC.agr,?_⟩
   replace hS:=hS.lent hC
   refine mny 0 hst hE (.r 32 2 .nil) (fun a hE=>?_)
   refine dn ?_
   exact J54 _ (by omega) _ (!t48) _ _ hE .of hS H
  replace hE:=hE.bfn 24 c34
  refine mny 0 hst hE (.r 8 26 .nil) (fun a hE=>?_)
  refine dn ?_
  exact J54 _ (by omega) _ true _ _ hE .of hS H
 refine wp_exit ?_
 refine hK6 _ _ (rr hE fun a hE=>(wp_ret ?_))
 replace hS:=hS.pm [] 2
 obtain rfl:=si H
 exact rt1 hE ⟨_,rfl,_,rfl,hS⟩
mutual
def qAc.l11:Nat→qJ→Int→Option Int
 | 0,_,_=>none
 | k+1,x0_,x10=>if x10<(x0_.f6.length:Int) then (if 0≤x10∧x10<(x0_.f6.length:Int) then ((qBC.f ((nth qF.z x0_.f6 x10).f0) 0 x0_.f0).bind fun t33=>(if t33=true then ((qAO.f k x0_ (⟨(nth qF.z x0_.f6 x10).f0,(nth qF.z x0_.f6 x10).f1⟩:qF)).bind fun t37=>(qAc.j40 k x0_ x10 (!t37))) else (qAc.j40 k x0_ x10 true))) else (none)) else (some 0)
def qAc.j40:Nat→qJ→Int→Bool→Option Int
 | 0,_,_,_=>none
 | k+1,x0_,x10,y39=>if y39=true then (some 1) else (qAc.l11 k x0_ (w64 (x10+1)))
end
theorem qAc.l11_s k x0_ x10:type_of% (qAc.l11.eq_2 x0_ x10 k):=qAc.l11.eq_2 x0_ x10 k
theorem qAc.j40_s k x0_ x10 y39:type_of% (qAc.j40.eq_2 x0_ x10 y39 k):=qAc.j40.eq_2 x0_ x10 y39 k
def qAc.f(k:Nat)(x0_:qJ):Option Int:=if (x0_.f6.length:Int)=x0_.f3 then (qAc.l11 k x0_ 0) else (some 1)
def qAc.Post(W F:World)(r:Int)(v:Value)(w':World):Prop:=∃(F':World),v=iv r∧St W (mine W []) F w' F' []
theorem qAc.calls(k:Nat)(x0_:qJ)(A0_4:Option Addr)(c0_4:Nat)(A0_5:Option Addr)(c0_5:Nat)(A0_6:Option Addr)(c0_6:Nat)(r:Int)(W F:World)(hown:Sub F W)(g0_4:Rd qA.k F A0_4 c0_4 x0_.f4)(g0_5:Rd qM.k F A0_5 c0_5 x0_.f5)(g0_6:Rd qF.k F A0_6 c0_6 x0_.f6)(H:qAc.f k x0_=some r):
    Calls Tryz.prog 82 #[.agg #[iv x0_.f0,iv x0_.f1,iv x0_.f2,iv x0_.f3,.slice A0_4 x0_.f4.length c0_4,.slice A0_5 x0_.f5.length c0_5,.slice A0_6 x0_.f6.length c0_6]] W fun e w'=>∃ v,e = .returned v∧qAc.Post W F r v w':=by
 have hS:=St.start (Own.nil hown)
 unfold qAc.f at H
 refine enter (n:=31) rfl rfl rfl (Nat.le_of_ble_eq_true rfl) (fun a hE=>?_)
 refine sq fun K1 hK1=>pl0 (ple hE (.bx (t:=26) hS [iv x0_.f0,iv x0_.f1,iv x0_.f2,iv x0_.f3,.slice A0_4 x0_.f4.length c0_4,.slice A0_5 x0_.f5.length c0_5,.slice A0_6 x0_.f6.length c0_6]) ?_)
 rintro _ u3 a ⟨b2,rfl,hb2,hS,hg⟩ hE
 refine plc hE (.r 1 1 .nil) (fun a hE=>pld (hK1 _ _ (sq fun K4 hK4=>rg hE (.r 0 1<|.b 1 6 hb2<|.r 2 2<|.b 4 3 hb2<|.r 5 1<|.nil) fun a hE=>?_)))
 refine hE.ikn 10 H (fun c6 hE H=>?_) fun c6 hE H=>?_
 ·
  refine wp_skip (hK4 _ _ (sq fun K8 hK8=>rg hE (.r 0 1<|.b 1 6 hb2<|.r 2 2<|.nil) fun a hE=>(wp_block ?_)))
  refine wp_loop_ghost (fun kq12 a w'=>∃(G:Nat→Value)(x10:Int),kq12≤k∧Env 31 G a∧At G [(1,.pointer (pb b2)),(12,.slice A0_6 x0_.f6.length c0_6),(13,iv (x0_.f6.length:Int)),(14,iv x10)]∧St W (mine W []) F w' F [box b2 #[iv x0_.f0,iv x0_.f1,iv x0_.f2,iv x0_.f3,.slice A0_4 x0_.f4.length c0_4,.slice A0_5 x0_.f5.length c0_5,.slice A0_6 x0_.f6.length c0_6] 26]∧qAc.l11 kq12 x0_ x10=some r) k ⟨_,0,Nat.le_refl _,hE,.of,hS,H⟩ ?_
  rintro kq12 a u14 ⟨G,x10,hkq,hE,hA,hS,H⟩
  obtain _ | k13:=kq12
  ·
   exact zz H
  rw [qAc.l11_s]at H
  obtain ⟨J,hE⟩:=hE.at hA
  refine rr hE fun a hE=>(sq fun K16 hK16=>?_)
  refine hE.ik 15 H (fun c17 hE H=>?_) fun c17 hE H=>?_
  ·
   refine wp_skip (hK16 _ _ (sq fun K18 hK18=>wp_block (sq fun K19 hK19=>pl0 ?_)))
   obtain ⟨c20,H⟩:=gd H
   have hE_:=hE
   obtain ⟨ad21,rfl⟩:=g0_6.addr c20.1 c20.2
   replace hE:=hE_
   obtain ⟨cs23,⟨A25,c26,rfl,g27⟩,hc24⟩:=g0_6.el qF.z x10 c20.1 c20.2
   refine plc hE (.x 0 c20<|.cs 1 (hS.fcs hc24)<|.nil) (fun a hE=>ple hE (.al (t:=49) hS [iv 0,.slice none 0 0]) ?_)
   rintro _ u29 a ⟨b28,rfl,hb28,hS,hg⟩ hE
   refine ple hE (.sto hS [iv ((nth qF.z x0_.f6 x10).f0),.slice A25 (((nth qF.z x0_.f6 x10).f1).length) c26]) ?_
   rintro _ u30 a ⟨rfl,hb28,hS,hz⟩ hE
   refine pld (hK19 _ _ (sq fun K31 hK31=>?_))
   have J43:∀ kq41,kq41≤k13→∀(G:Nat→Value)(y39:Bool)(a:Act)(w':World),Env 31 G a→At G [(1,.pointer (pb b2)),(12,.slice (some ad21) x0_.f6.length c0_6),(13,iv (x0_.f6.length:Int)),(14,iv x10),(29,.bool y39)]→St W (mine W []) F w' F [box b28 #[iv ((nth qF.z x0_.f6 x10).f0),.slice A25 (((nth qF.z x0_.f6 x10).f1).length) c26] 49,box b2 #[iv x0_.f0,iv x0_.f1,iv x0_.f2,iv x0_.f3,.slice A0_4 x0_.f4.length c0_4,.slice A0_5 x0_.f5.length c0_5,.slice (some ad21) x0_.f6.length c0_6] 26]→qAc.j40 kq41 x0_ x10 y39=some r→K31 a w':=by
    intro kq41 hkq G y39 a u44 hE hA hS H
    obtain _ | k42:=kq41
    ·
     exact zz H
    rw [qAc.j40_s]at H
    obtain ⟨J,hE⟩:=hE.at hA
    refine hK31 _ _ ?_
    refine hE.ib 29 H (fun c45 hE H=>?_) fun c45 hE H=>?_
    ·
     refine rr hE fun a hE=>(wp_ret (qCE (qCD (qCD (qCE (qCD ?_))))))
     replace hS:=hS.pm [] 2
     obtain rfl:=si H
     exact rt1 hE ⟨_,rfl,_,rfl,hS⟩
    refine wp_skip ?_
    refine qCF ?_
    refine hK18 _ _ (pl0 (plc hE (.r 0 2 .nil) (fun a hE=>pld ?_)))
    replace hS:=hS.tail
    exact qCG ⟨k42,by omega,_,(w64 (x10+1)),by omega,hE,.of,hS,H⟩
   refine pl0 ?_
   have hb2:=hS.ba 1
   refine plc hE (.r 0 1<|.b 1 0 hb28<|.r 2 1<|.b 3 0 hb2<|.nil) (fun a hE=>?_)
   obtain ⟨t33,h34,H⟩:=bd H
   refine ple hE (.cl en70 (qBC.calls ((nth qF.z x0_.f6 x10).f0) 0 x0_.f0 _ _ _ hS.own.sub h34)) ?_
   rintro _ u32 a ⟨_,rfl,hC⟩ hE
   replace hS:=hS.lent hC
   refine plc hE (.r 5 2 .nil) (fun a hE=>?_)
   rcases sp H with ⟨c35,H⟩ | ⟨c35,H⟩
   ·
    replace hE:=hE.btn 24 c35
    have hb2:=hS.ba 1
    have hb28:=hS.ba 0
    refine plc hE (.bn 7 0 7 hb2<|.bn 8 0 2 hb28<|.nil) (fun a hE=>?_)
    obtain ⟨t37,h38,H⟩:=bd H
    refine ple hE (.cl en142 (qAO.calls k13 x0_ (⟨(nth qF.z x0_.f6 x10).f0,(nth qF.z x0_.f6 x10).f1⟩:qF) _ _ _ _ _ _ _ _ _ _ _ hS.own.sub g0_4 g0_5 g0_6 g27 h38)) ?_
    rintro _ u36 a ⟨_,rfl,hC⟩ hE
    replace hS:=hS.lent hC
    refine plc hE (.r 10 2 .nil) (fun a hE=>pld ?_)
    exact J43 _ (by omega) _ (!t37) _ _ hE .of hS H
   replace hE:=hE.bfn 24 c35
   refine plc hE (.r 7 5 .nil) (fun a hE=>pld ?_)
   exact J43 _ (by omega) _ true _ _ hE .of hS H
  refine wp_exit ?_
  refine hK8 _ _ (rr hE fun a hE=>(wp_ret ?_))
  replace hS:=hS.tail
  obtain rfl:=si H
  exact rt1 hE ⟨_,rfl,_,rfl,hS⟩
 refine rr hE fun a hE=>(wp_ret (qCD ?_))
 replace hS:=hS.tail
 obtain rfl:=si H
 exact rt1 hE ⟨_,rfl,_,rfl,hS⟩
mutual
def qAC.j26:Nat→qJ→Bool→Option Int
 | 0,_,_=>none
 | k+1,x0_,y25=>if y25=true then (some 1) else (qAC.l36 k x0_ 0)
def qAC.l36:Nat→qJ→Int→Option Int
 | 0,_,_=>none
 | k+1,x0_,x35=>if x35<(x0_.f5.length:Int) then (if 0≤x35∧x35<(x0_.f5.length:Int) then ((qBC.f ((nth qM.z x0_.f5 x35).f0) 0 (w64 (x0_.f3 - 1))).bind fun t58=>(if t58=true then (if x35>0 then (if 0≤(w64 (x35 - 1))∧(w64 (x35 - 1))<(x0_.f5.length:Int) then (if (nth qM.z x0_.f5 x35).f0≤(nth qM.z x0_.f5 (w64 (x35 - 1))).f0 then (qAC.j85 k x0_ x35 true) else ((qBC.f (((nth qM.z x0_.f5 x35).f1).length:Int) 1 x0_.f1).bind fun t71=>(if t71=true then ((qAS.f k x0_.f4 ((nth qM.z x0_.f5 x35).f1)).bind fun t75=>(qAC.j85 k x0_ x35 (!t75))) else (qAC.j85 k x0_ x35 true)))) else (none)) else ((qBC.f (((nth qM.z x0_.f5 x35).f1).length:Int) 1 x0_.f1).bind fun t78=>(if t78=true then ((qAS.f k x0_.f4 ((nth qM.z x0_.f5 x35).f1)).bind fun t82=>(qAC.j85 k x0_ x35 (!t82))) else (qAC.j85 k x0_ x35 true)))) else (qAC.j85 k x0_ x35 true))) else (none)) else ((qAc.f k x0_).bind fun t94=>(some t94))
def qAC.j85:Nat→qJ→Int→Bool→Option Int
 | 0,_,_,_=>none
 | k+1,x0_,x35,y84=>if y84=true then (some 1) else (qAC.l36 k x0_ (w64 (x35+1)))
end
theorem qAC.j26_s k x0_ y25:type_of% (qAC.j26.eq_2 x0_ y25 k):=qAC.j26.eq_2 x0_ y25 k
theorem qAC.l36_s k x0_ x35:type_of% (qAC.l36.eq_2 x0_ x35 k):=qAC.l36.eq_2 x0_ x35 k
theorem qAC.j85_s k x0_ x35 y84:type_of% (qAC.j85.eq_2 x0_ x35 y84 k):=qAC.j85.eq_2 x0_ x35 y84 k
def qAC.f(k:Nat)(x0_:qJ):Option Int:=(qBC.f x0_.f0 0 2147483647).bind fun t7=>(if t7=true then ((qBC.f x0_.f1 1 3).bind fun t11=>(if t11=true then ((qBC.f x0_.f2 1 x0_.f1).bind fun t15=>(if t15=true then ((qBC.f x0_.f3 1 8).bind fun t19=>(if t19=true then ((qAM.f k x0_.f4).bind fun t23=>(qAC.j26 k x0_ (!(t23 == 0)))) else (qAC.j26 k x0_ true))) else (qAC.j26 k x0_ true))) else (qAC.j26 k x0_ true))) else (qAC.j26 k x0_ true))
def qAC.Post(W F:World)(r:Int)(v:Value)(w':World):Prop:=∃(F':World),v=iv r∧St W (mine W []) F w' F' []
theorem qAC.calls(k:Nat)(x0_:qJ)(A0_4:Option Addr)(c0_4:Nat)(A0_5:Option Addr)(c0_5:Nat)(A0_6:Option Addr)(c0_6:Nat)(r:Int)(W F:World)(hown:Sub F W)(g0_4:Rd qA.k F A0_4 c0_4 x0_.f4)(g0_5:Rd qM.k F A0_5 c0_5 x0_.f5)(g0_6:Rd qF.k F A0_6 c0_6 x0_.f6)(H:qAC.f k x0_=some r):
    Calls Tryz.prog 32 #[.agg #[iv x0_.f0,iv x0_.f1,iv x0_.f2,iv x0_.f3,.slice A0_4 x0_.f4.length c0_4,.slice A0_5 x0_.f5.length c0_5,.slice A0_6 x0_.f6.length c0_6]] W fun e w'=>∃ v,e = .returned v∧qAC.Post W F r v w':=by
 have hS:=St.start (Own.nil hown)
 unfold qAC.f at H
 refine enter (n:=86) rfl rfl rfl (Nat.le_of_ble_eq_true rfl) (fun a hE=>?_)
 refine sq fun K1 hK1=>pl0 (ple hE (.bx (t:=26) hS [iv x0_.f0,iv x0_.f1,iv x0_.f2,iv x0_.f3,.slice A0_4 x0_.f4.length c0_4,.slice A0_5 x0_.f5.length c0_5,.slice A0_6 x0_.f6.length c0_6]) ?_)
 rintro _ u3 a ⟨b2,rfl,hb2,hS,hg⟩ hE
 refine plc hE (.r 1 1 .nil) (fun a hE=>pld (hK1 _ _ (sq fun K4 hK4=>sq fun K5 hK5=>?_)))
 have J29:∀ kq27,kq27≤k→∀(G:Nat→Value)(y25:Bool)(a:Act)(w':World),Env 86 G a→At G [(1,.pointer (pb b2)),(34,.bool y25)]→St W (mine W []) F w' F [box b2 #[iv x0_.f0,iv x0_.f1,iv x0_.f2,iv x0_.f3,.slice A0_4 x0_.f4.length c0_4,.slice A0_5 x0_.f5.length c0_5,.slice A0_6 x0_.f6.length c0_6] 26]→qAC.j26 kq27 x0_ y25=some r→K5 a w':=by
  intro kq27 hkq G y25 a u30 hE hA hS H
  obtain _ | k28:=kq27
  ·
   exact zz H
  rw [qAC.j26_s]at H
  obtain ⟨J,hE⟩:=hE.at hA
  refine hK5 _ _ ?_
  refine hE.ib 34 H (fun c31 hE H=>?_) fun c31 hE H=>?_
  ·
   refine rr hE fun a hE=>(wp_ret (qCD ?_))
   replace hS:=hS.tail
   obtain rfl:=si H
   exact rt1 hE ⟨_,rfl,_,rfl,hS⟩
  refine wp_skip (hK4 _ _ (sq fun K33 hK33=>sq fun K34 hK34=>pl0 ?_))
  have hb2:=hS.ba 0
  refine plc hE (.r 0 1<|.b 1 5 hb2<|.r 2 2<|.nil) (fun a hE=>pld (hK34 _ _ (wp_block ?_)))
  refine wp_loop_ghost (fun kq37 a w'=>∃(G:Nat→Value)(x35:Int),kq37≤k28∧Env 86 G a∧At G [(1,.pointer (pb b2)),(36,.slice A0_5 x0_.f5.length c0_5),(37,iv (x0_.f5.length:Int)),(38,iv x35)]∧St W (mine W []) F w' F [box b2 #[iv x0_.f0,iv x0_.f1,iv x0_.f2,iv x0_.f3,.slice A0_4 x0_.f4.length c0_4,.slice A0_5 x0_.f5.length c0_5,.slice A0_6 x0_.f6.length c0_6] 26]∧qAC.l36 kq37 x0_ x35=some r) k28 ⟨_,0,Nat.le_refl _,hE,.of,hS,H⟩ ?_
  rintro kq37 a u39 ⟨G,x35,hkq,hE,hA,hS,H⟩
  obtain _ | k38:=kq37
  ·
   exact zz H
  rw [qAC.l36_s]at H
  obtain ⟨J,hE⟩:=hE.at hA
  refine rr hE fun a hE=>(sq fun K41 hK41=>?_)
  refine hE.ik 39 H (fun c42 hE H=>?_) fun c42 hE H=>?_
  ·
   refine wp_skip (hK41 _ _ (sq fun K43 hK43=>wp_block (sq fun K44 hK44=>pl0 ?_)))
   obtain ⟨c45,H⟩:=gd H
   have hE_:=hE
   obtain ⟨ad46,rfl⟩:=g0_5.addr c45.1 c45.2
   replace hE:=hE_
   obtain ⟨cs48,⟨A50,c51,rfl,g52⟩,hc49⟩:=g0_5.el qM.z x35 c45.1 c45.2
   refine plc hE (.r 0 1<|.x 1 c45<|.cs 2 (hS.fcs hc49)<|.nil) (fun a hE=>ple hE (.al (t:=97) hS [iv 0,.slice none 0 0]) ?_)
   rintro _ u54 a ⟨b53,rfl,hb53,hS,hg⟩ hE
   refine plc hE (.r 4 1 .nil) (fun a hE=>ple hE (.sto hS [iv ((nth qM.z x0_.f5 x35).f0),.slice A50 (((nth qM.z x0_.f5 x35).f1).length) c51]) ?_)
   rintro _ u55 a ⟨rfl,hb53,hS,hz⟩ hE
   refine pld (hK44 _ _ (sq fun K56 hK56=>?_))
   have J88:∀ kq86,kq86≤k38→∀(G:Nat→Value)(y84:Bool)(a:Act)(w':World),Env 86 G a→At G [(1,.pointer (pb b2)),(36,.slice (some ad46) x0_.f5.length c0_5),(37,iv (x0_.f5.length:Int)),(38,iv x35),(82,.bool y84)]→St W (mine W []) F w' F [box b53 #[iv ((nth qM.z x0_.f5 x35).f0),.slice A50 (((nth qM.z x0_.f5 x35).f1).length) c51] 97,box b2 #[iv x0_.f0,iv x0_.f1,iv x0_.f2,iv x0_.f3,.slice A0_4 x0_.f4.length c0_4,.slice (some ad46) x0_.f5.length c0_5,.slice A0_6 x0_.f6.length c0_6] 26]→qAC.j85 kq86 x0_ x35 y84=some r→K56 a w':=by
    intro kq86 hkq G y84 a u89 hE hA hS H
    obtain _ | k87:=kq86
    ·
     exact zz H
    rw [qAC.j85_s]at H
    obtain ⟨J,hE⟩:=hE.at hA
    refine hK56 _ _ ?_
    refine hE.ib 82 H (fun c90 hE H=>?_) fun c90 hE H=>?_
    ·
     refine rr hE fun a hE=>(wp_ret (qCE (qCD (qCD (qCE (qCD ?_))))))
     replace hS:=hS.pm [] 2
     obtain rfl:=si H
     exact rt1 hE ⟨_,rfl,_,rfl,hS⟩
    refine wp_skip ?_
    refine qCF ?_
    refine hK43 _ _ (pl0 (plc hE (.r 0 2 .nil) (fun a hE=>pld ?_)))
    replace hS:=hS.tail
    exact qCG ⟨k87,by omega,_,(w64 (x35+1)),by omega,hE,.of,hS,H⟩
   refine drawn 40 ⟨[],[],fun q=>False⟩ mixed rfl (by kernel_rfl) (fun hst=>?_)
   replace hS:=hS.drew
   have hb53:=hS.ba 0
   have hb2:=hS.ba 1
   refine mny 35 hst hE (.r 0 1<|.b 1 0 hb53<|.r 2 1<|.b 3 3 hb2<|.r 4 1<|.nil) (fun a hE=>?_)
   obtain ⟨t58,h59,H⟩:=bd H
   refine on1 5 hE (.cl en70 (qBC.calls ((nth qM.z x0_.f5 x35).f0) 0 (w64 (x0_.f3 - 1)) _ _ _ hS.own.sub h59)) ?_
   rintro _ u57 a ⟨_,rfl,hC⟩ hE
   refine ⟨.of hC.agr,?_⟩
   replace hS:=hS.lent hC
   refine mny 32 hst hE (.r 6 2 .nil) (fun a hE=>?_)
   rcases sp H with ⟨c60,H⟩ | ⟨c60,H⟩
   ·
    replace hE:=hE.btn 50 c60
    refine mny 29 hst hE (.r 8 3 .nil) (fun a hE=>?_)
    rcases sp H with ⟨c61,H⟩ | ⟨c61,H⟩
    ·
     replace hE:=hE.kt 53 c61
     have hb53:=hS.ba 0
     have hb2:=hS.ba 1
     obtain ⟨c62,H⟩:=gd H
     obtain ⟨cs64,⟨A66,c67,rfl,g68⟩,hc65⟩:=g0_5.el qM.z (w64 (x35 - 1)) c62.1 c62.2
     refine mny 16 hst hE (.r 11 1<|.b 12 0 hb53<|.r 13 1<|.b 14 5 hb2<|.r 15 2<|.x 17 c62<|.r 18 1<|.c 19 (hS.fc hc65 0)<|.r 20 4<|.nil) (fun a hE=>?_)
     rcases sp H with ⟨c69,H⟩ | ⟨c69,H⟩
     ·
      replace hE:=hE.kt 66 c69
      refine mny 0 hst hE (.r 24 16 .nil) (fun a hE=>?_)
      refine dn ?_
      exact J88 _ (by omega) _ true _ _ hE .of hS H
     replace hE:=hE.kf 66 c69
     refine mny 11 hst hE (.r 24 1<|.b 25 1 hb53<|.r 26 2<|.b 28 1 hb2<|.nil) (fun a hE=>?_)
     obtain ⟨t71,h72,H⟩:=bd H
     refine on1 29 hE (.cl en70 (qBC.calls (((nth qM.z x0_.f5 x35).f1).length:Int) 1 x0_.f1 _ _ _ hS.own.sub h72)) ?_
     rintro _ u70 a ⟨_,rfl,hC⟩ hE
     refine ⟨.of hC.agr,?_⟩
     replace hS:=hS.lent hC
     refine mny 7 hst hE (.r 30 3 .nil) (fun a hE=>?_)
     rcases sp H with ⟨c73,H⟩ | ⟨c73,H⟩
     ·
      replace hE:=hE.btn 75 c73
      have hb2:=hS.ba 1
      have hb53:=hS.ba 0
      refine mny 3 hst hE (.r 33 1<|.b 34 4 hb2<|.r 35 1<|.b 36 1 hb53<|.nil) (fun a hE=>?_)
      obtain ⟨t75,h76,H⟩:=bd H
      refine on1 37 hE (.cl en81 (qAS.calls k38 x0_.f4 ((nth qM.z x0_.f5 x35).f1) _ _ _ _ _ _ _ hS.own.sub g0_4 g52 h76)) ?_
      rintro _ u74 a ⟨_,rfl,hC⟩ hE
      refine ⟨.of hC.agr,?_⟩
      replace hS:=hS.lent hC
      refine mny 0 hst hE (.r 38 2 .nil) (fun a hE=>?_)
      refine dn ?_
      exact J88 _ (by omega) _ (!t75) _ _ hE .of hS H
     replace hE:=hE.bfn 75 c73
     refine mny 0 hst hE (.r 33 7 .nil) (fun a hE=>?_)
     refine dn ?_
     exact J88 _ (by omega) _ true _ _ hE .of hS H
    replace hE:=hE.kf 53 c61
    have hb53:=hS.ba 0
    have hb2:=hS.ba 1
    refine mny 11 hst hE (.r 11 14<|.b 25 1 hb53<|.r 26 2<|.b 28 1 hb2<|.nil) (fun a hE=>?_)
    obtain ⟨t78,h79,H⟩:=bd H
    refine on1 29 hE (.cl en70 (qBC.calls (((nth qM.z x0_.f5 x35).f1).length:Int) 1 x0_.f1 _ _ _ hS.own.sub h79)) ?_
    rintro _ u77 a ⟨_,rfl,hC⟩ hE
    refine ⟨.of hC.agr,?_⟩
    replace hS:=hS.lent hC
    refine mny 7 hst hE (.r 30 3 .nil) (fun a hE=>?_)
    rcases sp H with ⟨c80,H⟩ | ⟨c80,H⟩
    ·
     replace hE:=hE.btn 75 c80
     have hb2:=hS.ba 1
     have hb53:=hS.ba 0
     refine mny 3 hst hE (.r 33 1<|.b 34 4 hb2<|.r 35 1<|.b 36 1 hb53<|.nil) (fun a hE=>?_)
     obtain ⟨t82,h83,H⟩:=bd H
     refine on1 37 hE (.cl en81 (qAS.calls k38 x0_.f4 ((nth qM.z x0_.f5 x35).f1) _ _ _ _ _ _ _ hS.own.sub g0_4 g52 h83)) ?_
     rintro _ u81 a ⟨_,rfl,hC⟩ hE
     refine ⟨.of hC.agr,?_⟩
     replace hS:=hS.lent hC
     refine mny 0 hst hE (.r 38 2 .nil) (fun a hE=>?_)
     refine dn ?_
     exact J88 _ (by omega) _ (!t82) _ _ hE .of hS H
    replace hE:=hE.bfn 75 c80
    refine mny 0 hst hE (.r 33 7 .nil) (fun a hE=>?_)
    refine dn ?_
    exact J88 _ (by omega) _ true _ _ hE .of hS H
   replace hE:=hE.bfn 50 c60
   refine mny 0 hst hE (.r 8 32 .nil) (fun a hE=>?_)
   refine dn ?_
   exact J88 _ (by omega) _ true _ _ hE .of hS H
  refine wp_exit ?_
  refine hK33 _ _ (sq fun K92 hK92=>pl0 ?_)
  have hb2:=hS.ba 0
  refine plc hE (.bn 0 0 7 hb2 .nil) (fun a hE=>?_)
  obtain ⟨t94,h95,H⟩:=bd H
  refine ple hE (.cl en82 (qAc.calls k38 x0_ _ _ _ _ _ _ _ _ _ hS.own.sub g0_4 g0_5 g0_6 h95)) ?_
  rintro _ u93 a ⟨_,rfl,hC⟩ hE
  replace hS:=hS.lent hC
  refine plc hE (.r 2 1 .nil) (fun a hE=>pld (hK92 _ _ (wp_ret ?_)))
  replace hS:=hS.tail
  obtain rfl:=si H
  exact rt1 hE ⟨_,rfl,_,rfl,hS⟩
 refine pl0 (plc hE (.r 0 1<|.b 1 0 hb2<|.nil) (fun a hE=>?_))
 obtain ⟨t7,h8,H⟩:=bd H
 refine ple hE (.cl en70 (qBC.calls x0_.f0 0 2147483647 _ _ _ hS.own.sub h8)) ?_
 rintro _ u6 a ⟨_,rfl,hC⟩ hE
 replace hS:=hS.lent hC
 refine plc hE (.r 3 2 .nil) (fun a hE=>?_)
 rcases sp H with ⟨c9,H⟩ | ⟨c9,H⟩
 ·
  replace hE:=hE.btn 9 c9
  have hb2:=hS.ba 0
  refine plc hE (.r 5 1<|.b 6 1 hb2<|.nil) (fun a hE=>?_)
  obtain ⟨t11,h12,H⟩:=bd H
  refine ple hE (.cl en70 (qBC.calls x0_.f1 1 3 _ _ _ hS.own.sub h12)) ?_
  rintro _ u10 a ⟨_,rfl,hC⟩ hE
  replace hS:=hS.lent hC
  refine plc hE (.r 8 3 .nil) (fun a hE=>?_)
  rcases sp H with ⟨c13,H⟩ | ⟨c13,H⟩
  ·
   replace hE:=hE.btn 15 c13
   have hb2:=hS.ba 0
   refine plc hE (.r 11 1<|.b 12 2 hb2<|.r 13 1<|.b 14 1 hb2<|.nil) (fun a hE=>?_)
   obtain ⟨t15,h16,H⟩:=bd H
   refine ple hE (.cl en70 (qBC.calls x0_.f2 1 x0_.f1 _ _ _ hS.own.sub h16)) ?_
   rintro _ u14 a ⟨_,rfl,hC⟩ hE
   replace hS:=hS.lent hC
   refine plc hE (.r 16 3 .nil) (fun a hE=>?_)
   rcases sp H with ⟨c17,H⟩ | ⟨c17,H⟩
   ·
    replace hE:=hE.btn 23 c17
    have hb2:=hS.ba 0
    refine plc hE (.r 19 1<|.b 20 3 hb2<|.nil) (fun a hE=>?_)
    obtain ⟨t19,h20,H⟩:=bd H
    refine ple hE (.cl en70 (qBC.calls x0_.f3 1 8 _ _ _ hS.own.sub h20)) ?_
    rintro _ u18 a ⟨_,rfl,hC⟩ hE
    replace hS:=hS.lent hC
    refine plc hE (.r 22 3 .nil) (fun a hE=>?_)
    rcases sp H with ⟨c21,H⟩ | ⟨c21,H⟩
    ·
     replace hE:=hE.btn 29 c21
     have hb2:=hS.ba 0
     refine plc hE (.r 25 1<|.b 26 4 hb2<|.nil) (fun a hE=>?_)
     obtain ⟨t23,h24,H⟩:=bd H
     refine ple hE (.cl en80 (qAM.calls k x0_.f4 _ _ _ _ _ hS.own.sub g0_4 h24)) ?_
     rintro _ u22 a ⟨_,rfl,hC⟩ hE
     replace hS:=hS.lent hC
     refine plc hE (.r 28 2 .nil) (fun a hE=>pld ?_)
     exact J29 _ (by omega) _ (!(t23 == 0)) _ _ hE .of hS H
    replace hE:=hE.bfn 29 c21
    refine plc hE (.r 25 5 .nil) (fun a hE=>pld ?_)
    exact J29 _ (by omega) _ true _ _ hE .of hS H
   replace hE:=hE.bfn 23 c17
   refine plc hE (.r 19 11 .nil) (fun a hE=>pld ?_)
   exact J29 _ (by omega) _ true _ _ hE .of hS H
  replace hE:=hE.bfn 15 c13
  refine plc hE (.r 11 19 .nil) (fun a hE=>pld ?_)
  exact J29 _ (by omega) _ true _ _ hE .of hS H
 replace hE:=hE.bfn 9 c9
 refine plc hE (.r 5 25 .nil) (fun a hE=>pld ?_)
 exact J29 _ (by omega) _ true _ _ hE .of hS H
def qBx.f(k:Nat)(x0_:Int)(x1_:Int)(x2_:Int):Option (qJ × Int):=if 0≤(if (if 8<x2_ then 8 else x2_)>0 then (if 8<x2_ then 8 else x2_) else 0)∧(if (if 8<x2_ then 8 else x2_)>0 then (if 8<x2_ then 8 else x2_) else 0) * 32≤140737488355328 then ((qAC.f k (⟨0,x0_,x1_,x2_,[],[],(List.replicate ((if (if 8<x2_ then 8 else x2_)>0 then (if 8<x2_ then 8 else x2_) else 0)).toNat (qF.z:qF))⟩:qJ)).bind fun t16=>(if t16=0 then (some ((⟨0,x0_,x1_,x2_,[],[],(List.replicate ((if (if 8<x2_ then 8 else x2_)>0 then (if 8<x2_ then 8 else x2_) else 0)).toNat (qF.z:qF))⟩:qJ),0)) else (some ((⟨0,0,0,0,[],[],[]⟩:qJ),t16)))) else (none)
def qBx.Post(W F:World)(r:qJ × Int)(v:Value)(w':World):Prop:=∃(F':World)(RA0_4:Option Addr)(rc0_4:Nat)(RA0_5:Option Addr)(rc0_5:Nat)(RA0_6:Option Addr)(rc0_6:Nat),v = .tuple #[.agg #[iv r.1.f0,iv r.1.f1,iv r.1.f2,iv r.1.f3,.slice RA0_4 r.1.f4.length rc0_4,.slice RA0_5 r.1.f5.length rc0_5,.slice RA0_6 r.1.f6.length rc0_6],iv r.2]∧St W (mine W []) F w' F' [row qF.k 49 (.slice RA0_6 r.1.f6.length rc0_6) r.1.f6]∧Rd qA.k F' RA0_4 rc0_4 r.1.f4∧Rd qM.k F' RA0_5 rc0_5 r.1.f5
theorem qBx.calls(k:Nat)(x0_:Int)(x1_:Int)(x2_:Int)(r:qJ × Int)(W F:World)(hown:Sub F W)(H:qBx.f k x0_ x1_ x2_=some r):
    Calls Tryz.prog 15 #[iv x0_,iv x1_,iv x2_] W fun e w'=>∃ v,e = .returned v∧qBx.Post W F r v w':=by
 have hS:=St.start (Own.nil hown)
 unfold qBx.f at H
 refine enter (n:=25) rfl rfl rfl (Nat.le_of_ble_eq_true rfl) (fun a hE=>?_)
 refine sq fun K1 hK1=>pl0 (ple hE (.al (t:=26) hS [iv 0,iv 0,iv 0,iv 0,.slice none 0 0,.slice none 0 0,.slice none 0 0]) ?_)
 rintro _ u3 a ⟨b2,rfl,hb2,hS,hg⟩ hE
 refine plc hE (.r 1 1 .nil) (fun a hE=>pld (hK1 _ _ (sq fun K4 hK4=>pl0 (plc hE (.r 0 6 .nil) (fun a hE=>?_)))))
 obtain ⟨c5,H⟩:=gd H
 refine ple hE (.mk (d:=qF.k) (e:=49) 32 qF.z hS c5 (by rw [zr49]; exact ⟨none,0,rfl,Rd.nil _ _⟩)) ?_
 rintro _ u8 a ⟨A6,c7,rfl,hS,hg⟩ hE
 refine plc hE (.r 7 1 .nil) (fun a hE=>ple hE (.al (t:=26) hS [iv 0,iv 0,iv 0,iv 0,.slice none 0 0,.slice none 0 0,.slice none 0 0]) ?_)
 rintro _ u11 a ⟨b10,rfl,hb10,hS,hg⟩ hE
 refine ple hE (.sto hS [iv 0,iv x0_,iv x1_,iv x2_,.slice none 0 0,.slice none 0 0,.slice A6 ((List.replicate ((if (if 8<x2_ then 8 else x2_)>0 then (if 8<x2_ then 8 else x2_) else 0)).toNat (qF.z:qF)).length) c7]) ?_
 rintro _ u12 a ⟨rfl,hb10,hS,hz⟩ hE
 refine pld (hK4 _ _ (sq fun K13 hK13=>sq fun K14 hK14=>pl0 (plc hE (.bn 0 0 7 hb10 .nil) (fun a hE=>?_))))
 obtain ⟨t16,h17,H⟩:=bd H
 refine ple hE (.cl en32 (qAC.calls k (⟨0,x0_,x1_,x2_,[],[],(List.replicate ((if (if 8<x2_ then 8 else x2_)>0 then (if 8<x2_ then 8 else x2_) else 0)).toNat (qF.z:qF))⟩:qJ) _ _ _ _ _ _ _ _ _ (Sub.refl _) (Rd.nil _ _) (Rd.nil _ _) (hS.rd_at (i:=1) rfl) h17)) ?_
 rintro _ u15 a ⟨_,rfl,hC⟩ hE
 replace hS:=hS.lent hC
 refine plc hE (.r 2 1 .nil) (fun a hE=>pld (hK14 _ _ (rr hE fun a hE=>?_)))
 refine hE.ikn 21 H (fun c19 hE H=>?_) fun c19 hE H=>?_
 ·
  refine wp_skip (hK13 _ _ (sq fun K23 hK23=>pl0 ?_))
  have hb10:=hS.ba 0
  refine plc hE (.bn 0 0 7 hb10 .nil) (fun a hE=>?_)
  replace hS:=hS.front 2 rfl
  refine ple hE (.sto hS [iv 0,iv x0_,iv x1_,iv x2_,.slice none 0 0,.slice none 0 0,.slice A6 ((List.replicate ((if (if 8<x2_ then 8 else x2_)>0 then (if 8<x2_ then 8 else x2_) else 0)).toNat (qF.z:qF)).length) c7]) ?_
  rintro _ u24 a ⟨rfl,hb2,hS,hz⟩ hE
  refine plc hE (.r 2 1 .nil) (fun a hE=>pld (hK23 _ _ (wp_ret ?_)))
  replace hS:=hS.pm [] 2
  obtain rfl:=si H
  exact retN hE rfl (of_decide_eq_true rfl) (.cell (by kernel_rfl) (qCJ [iv 0,iv x0_,iv x1_,iv x2_,.slice none 0 0,.slice none 0 0,.slice A6 ((List.replicate ((if (if 8<x2_ then 8 else x2_)>0 then (if 8<x2_ then 8 else x2_) else 0)).toNat (qF.z:qF)).length) c7] ag26 sz26 hb2 rfl) (.tmp (by kernel_rfl) .nil)) ⟨_,rfl,_,_,_,_,_,_,_,rfl,hS,(Rd.nil _ _),(Rd.nil _ _)⟩
 refine sq fun K20 hK20=>pl0 (plc hE (.r 0 2 .nil) (fun a hE=>?_))
 replace hS:=hS.front 2 rfl
 refine ple hE (.sto hS [iv 0,iv 0,iv 0,iv 0,.slice none 0 0,.slice none 0 0,.slice none 0 0]) ?_
 rintro _ u21 a ⟨rfl,hb2,hS,hz⟩ hE
 refine plc hE (.r 3 1 .nil) (fun a hE=>pld (hK20 _ _ (wp_ret (qCD ?_))))
 replace hS:=hS.nilrow qF.k 49
 replace hS:=hS.pm [0] 4
 obtain rfl:=si H
 exact retN hE rfl (of_decide_eq_true rfl) (.cell (by kernel_rfl) (qCJ [iv 0,iv 0,iv 0,iv 0,.slice none 0 0,.slice none 0 0,.slice none 0 0] ag26 sz26 hb2 rfl) (.tmp (by kernel_rfl) .nil)) ⟨_,rfl,_,_,_,_,_,_,_,rfl,hS,(Rd.nil _ _),(Rd.nil _ _)⟩
def qBw.f(x0_:qAm):Option Bool:=if x0_.f0=1 then (if x0_.f5=0 then (some ((x0_.f6.length:Int) == 0)) else (some false)) else (if x0_.f0=2 then (if x0_.f2=0 then (if x0_.f3=0 then (if x0_.f5=0 then (some ((x0_.f6.length:Int) == 0)) else (some false)) else (some false)) else (some false)) else (if x0_.f0=10 then (if x0_.f1=0 then (if x0_.f2=0 then (if x0_.f3=0 then (some ((x0_.f6.length:Int) == 0)) else (some false)) else (some false)) else (some false)) else (if x0_.f0=8 then (if x0_.f1=0 then (if x0_.f2=0 then (if x0_.f3=0 then (some (x0_.f4 == 0)) else (some false)) else (some false)) else (some false)) else (if x0_.f2=0 then (if x0_.f3=0 then (if x0_.f4=0 then (if x0_.f5=0 then (if (x0_.f6.length:Int)=0 then (if x0_.f0=9 then (some (x0_.f1 == 0)) else (some true)) else (some false)) else (some false)) else (some false)) else (some false)) else (some false)))))
def qBw.Post(W F:World)(r:Bool)(v:Value)(w':World):Prop:=∃(F':World),v = .bool r∧St W (mine W []) F w' F' []
theorem qBw.calls(x0_:qAm)(A0_6:Option Addr)(c0_6:Nat)(r:Bool)(W F:World)(hown:Sub F W)(g0_6:Rd ki F A0_6 c0_6 x0_.f6)(H:qBw.f x0_=some r):
    Calls Tryz.prog 76 #[.agg #[iv x0_.f0,iv x0_.f1,iv x0_.f2,iv x0_.f3,iv x0_.f4,iv x0_.f5,.slice A0_6 x0_.f6.length c0_6]] W fun e w'=>∃ v,e = .returned v∧qBw.Post W F r v w':=by
 have hS:=St.start (Own.nil hown)
 unfold qBw.f at H
 refine enter (n:=112) rfl rfl rfl (Nat.le_of_ble_eq_true rfl) (fun a hE=>?_)
 refine sq fun K1 hK1=>pl0 (ple hE (.bx (t:=40) hS [iv x0_.f0,iv x0_.f1,iv x0_.f2,iv x0_.f3,iv x0_.f4,iv x0_.f5,.slice A0_6 x0_.f6.length c0_6]) ?_)
 rintro _ u3 a ⟨b2,rfl,hb2,hS,hg⟩ hE
 refine plc hE (.r 1 1 .nil) (fun a hE=>pld (hK1 _ _ (sq fun K4 hK4=>rg hE (.r 0 1<|.b 1 0 hb2<|.nil) fun a hE=>(wp_block (rr hE fun a hE=>?_)))))
 refine hE.ik 5 H (fun c7 hE H=>?_) fun c7 hE H=>?_
 ·
  refine sq fun K8 hK8=>pl0 (plc hE (.r 0 1<|.b 1 5 hb2<|.r 2 2<|.nil) (fun a hE=>?_))
  rcases sp H with ⟨c9,H⟩ | ⟨c9,H⟩
  ·
   replace hE:=hE.kt 10 c9
   refine plc hE (.r 4 1<|.b 5 6 hb2<|.r 6 4<|.nil) (fun a hE=>pld (hK8 _ _ (wp_ret (qCE (qCD ?_)))))
   replace hS:=hS.tail
   obtain rfl:=si H
   exact rt1 hE ⟨_,rfl,_,rfl,hS⟩
  replace hE:=hE.kf 10 c9
  refine plc hE (.r 4 6 .nil) (fun a hE=>pld (hK8 _ _ (wp_ret (qCE (qCD ?_)))))
  replace hS:=hS.tail
  obtain rfl:=si H
  exact rt1 hE ⟨_,rfl,_,rfl,hS⟩
 refine rr hE fun a hE=>?_
 refine hE.ik 16 H (fun c11 hE H=>?_) fun c11 hE H=>?_
 ·
  refine sq fun K12 hK12=>pl0 (plc hE (.r 0 1<|.b 1 2 hb2<|.r 2 2<|.nil) (fun a hE=>?_))
  rcases sp H with ⟨c13,H⟩ | ⟨c13,H⟩
  ·
   replace hE:=hE.kt 21 c13
   refine plc hE (.r 4 1<|.b 5 3 hb2<|.r 6 3<|.nil) (fun a hE=>?_)
   rcases sp H with ⟨c14,H⟩ | ⟨c14,H⟩
   ·
    replace hE:=hE.kt 26 c14
    refine plc hE (.r 9 1<|.b 10 5 hb2<|.r 11 3<|.nil) (fun a hE=>?_)
    rcases sp H with ⟨c15,H⟩ | ⟨c15,H⟩
    ·
     replace hE:=hE.kt 31 c15
     refine plc hE (.r 14 1<|.b 15 6 hb2<|.r 16 4<|.nil) (fun a hE=>pld (hK12 _ _ (wp_ret (qCE (qCD ?_)))))
     replace hS:=hS.tail
     obtain rfl:=si H
     exact rt1 hE ⟨_,rfl,_,rfl,hS⟩
    replace hE:=hE.kf 31 c15
    refine plc hE (.r 14 6 .nil) (fun a hE=>pld (hK12 _ _ (wp_ret (qCE (qCD ?_)))))
    replace hS:=hS.tail
    obtain rfl:=si H
    exact rt1 hE ⟨_,rfl,_,rfl,hS⟩
   replace hE:=hE.kf 26 c14
   refine plc hE (.r 9 11 .nil) (fun a hE=>pld (hK12 _ _ (wp_ret (qCE (qCD ?_)))))
   replace hS:=hS.tail
   obtain rfl:=si H
   exact rt1 hE ⟨_,rfl,_,rfl,hS⟩
  replace hE:=hE.kf 21 c13
  refine plc hE (.r 4 16 .nil) (fun a hE=>pld (hK12 _ _ (wp_ret (qCE (qCD ?_)))))
  replace hS:=hS.tail
  obtain rfl:=si H
  exact rt1 hE ⟨_,rfl,_,rfl,hS⟩
 refine rr hE fun a hE=>?_
 refine hE.ik 37 H (fun c17 hE H=>?_) fun c17 hE H=>?_
 ·
  refine sq fun K18 hK18=>pl0 (plc hE (.r 0 1<|.b 1 1 hb2<|.r 2 2<|.nil) (fun a hE=>?_))
  rcases sp H with ⟨c19,H⟩ | ⟨c19,H⟩
  ·
   replace hE:=hE.kt 42 c19
   refine plc hE (.r 4 1<|.b 5 2 hb2<|.r 6 3<|.nil) (fun a hE=>?_)
   rcases sp H with ⟨c20,H⟩ | ⟨c20,H⟩
   ·
    replace hE:=hE.kt 47 c20
    refine plc hE (.r 9 1<|.b 10 3 hb2<|.r 11 3<|.nil) (fun a hE=>?_)
    rcases sp H with ⟨c21,H⟩ | ⟨c21,H⟩
    ·
     replace hE:=hE.kt 52 c21
     refine plc hE (.r 14 1<|.b 15 6 hb2<|.r 16 4<|.nil) (fun a hE=>pld (hK18 _ _ (wp_ret (qCE (qCD ?_)))))
     replace hS:=hS.tail
     obtain rfl:=si H
     exact rt1 hE ⟨_,rfl,_,rfl,hS⟩
    replace hE:=hE.kf 52 c21
    refine plc hE (.r 14 6 .nil) (fun a hE=>pld (hK18 _ _ (wp_ret (qCE (qCD ?_)))))
    replace hS:=hS.tail
    obtain rfl:=si H
    exact rt1 hE ⟨_,rfl,_,rfl,hS⟩
   replace hE:=hE.kf 47 c20
   refine plc hE (.r 9 11 .nil) (fun a hE=>pld (hK18 _ _ (wp_ret (qCE (qCD ?_)))))
   replace hS:=hS.tail
   obtain rfl:=si H
   exact rt1 hE ⟨_,rfl,_,rfl,hS⟩
  replace hE:=hE.kf 42 c19
  refine plc hE (.r 4 16 .nil) (fun a hE=>pld (hK18 _ _ (wp_ret (qCE (qCD ?_)))))
  replace hS:=hS.tail
  obtain rfl:=si H
  exact rt1 hE ⟨_,rfl,_,rfl,hS⟩
 refine rr hE fun a hE=>?_
 refine hE.ik 58 H (fun c23 hE H=>?_) fun c23 hE H=>?_
 ·
  refine sq fun K24 hK24=>pl0 (plc hE (.r 0 1<|.b 1 1 hb2<|.r 2 2<|.nil) (fun a hE=>?_))
  rcases sp H with ⟨c25,H⟩ | ⟨c25,H⟩
  ·
   replace hE:=hE.kt 63 c25
   refine plc hE (.r 4 1<|.b 5 2 hb2<|.r 6 3<|.nil) (fun a hE=>?_)
   rcases sp H with ⟨c26,H⟩ | ⟨c26,H⟩
   ·
    replace hE:=hE.kt 68 c26
    refine plc hE (.r 9 1<|.b 10 3 hb2<|.r 11 3<|.nil) (fun a hE=>?_)
    rcases sp H with ⟨c27,H⟩ | ⟨c27,H⟩
    ·
     replace hE:=hE.kt 73 c27
     refine plc hE (.r 14 1<|.b 15 4 hb2<|.r 16 3<|.nil) (fun a hE=>pld (hK24 _ _ (wp_ret (qCE (qCD ?_)))))
     replace hS:=hS.tail
     obtain rfl:=si H
     exact rt1 hE ⟨_,rfl,_,rfl,hS⟩
    replace hE:=hE.kf 73 c27
    refine plc hE (.r 14 5 .nil) (fun a hE=>pld (hK24 _ _ (wp_ret (qCE (qCD ?_)))))
    replace hS:=hS.tail
    obtain rfl:=si H
    exact rt1 hE ⟨_,rfl,_,rfl,hS⟩
   replace hE:=hE.kf 68 c26
   refine plc hE (.r 9 10 .nil) (fun a hE=>pld (hK24 _ _ (wp_ret (qCE (qCD ?_)))))
   replace hS:=hS.tail
   obtain rfl:=si H
   exact rt1 hE ⟨_,rfl,_,rfl,hS⟩
  replace hE:=hE.kf 63 c25
  refine plc hE (.r 4 15 .nil) (fun a hE=>pld (hK24 _ _ (wp_ret (qCE (qCD ?_)))))
  replace hS:=hS.tail
  obtain rfl:=si H
  exact rt1 hE ⟨_,rfl,_,rfl,hS⟩
 refine wp_skip ?_
 refine qCF ?_
 refine hK4 _ _ (sq fun K28 hK28=>pl0 (plc hE (.r 0 1<|.b 1 2 hb2<|.r 2 2<|.nil) (fun a hE=>?_)))
 rcases sp H with ⟨c29,H⟩ | ⟨c29,H⟩
 ·
  replace hE:=hE.kt 81 c29
  refine plc hE (.r 4 1<|.b 5 3 hb2<|.r 6 3<|.nil) (fun a hE=>?_)
  rcases sp H with ⟨c30,H⟩ | ⟨c30,H⟩
  ·
   replace hE:=hE.kt 86 c30
   refine plc hE (.r 9 1<|.b 10 4 hb2<|.r 11 3<|.nil) (fun a hE=>?_)
   rcases sp H with ⟨c31,H⟩ | ⟨c31,H⟩
   ·
    replace hE:=hE.kt 91 c31
    refine plc hE (.r 14 1<|.b 15 5 hb2<|.r 16 3<|.nil) (fun a hE=>?_)
    rcases sp H with ⟨c32,H⟩ | ⟨c32,H⟩
    ·
     replace hE:=hE.kt 96 c32
     refine plc hE (.r 19 1<|.b 20 6 hb2<|.r 21 4<|.nil) (fun a hE=>?_)
     rcases sp H with ⟨c33,H⟩ | ⟨c33,H⟩
     ·
      replace hE:=hE.kt 102 c33
      refine plc hE (.r 25 1<|.b 26 0 hb2<|.r 27 2<|.nil) (fun a hE=>?_)
      rcases sp H with ⟨c34,H⟩ | ⟨c34,H⟩
      ·
       replace hE:=hE.ktn 106 c34
       refine plc hE (.r 29 1<|.b 30 1 hb2<|.r 31 4<|.nil) (fun a hE=>pld (hK28 _ _ (wp_ret ?_)))
       replace hS:=hS.tail
       obtain rfl:=si H
       exact rt1 hE ⟨_,rfl,_,rfl,hS⟩
      replace hE:=hE.kfn 106 c34
      refine plc hE (.r 29 6 .nil) (fun a hE=>pld (hK28 _ _ (wp_ret ?_)))
      replace hS:=hS.tail
      obtain rfl:=si H
      exact rt1 hE ⟨_,rfl,_,rfl,hS⟩
     replace hE:=hE.kf 102 c33
     refine plc hE (.r 25 10 .nil) (fun a hE=>pld (hK28 _ _ (wp_ret ?_)))
     replace hS:=hS.tail
     obtain rfl:=si H
     exact rt1 hE ⟨_,rfl,_,rfl,hS⟩
    replace hE:=hE.kf 96 c32
    refine plc hE (.r 19 16 .nil) (fun a hE=>pld (hK28 _ _ (wp_ret ?_)))
    replace hS:=hS.tail
    obtain rfl:=si H
    exact rt1 hE ⟨_,rfl,_,rfl,hS⟩
   replace hE:=hE.kf 91 c31
   refine plc hE (.r 14 21 .nil) (fun a hE=>pld (hK28 _ _ (wp_ret ?_)))
   replace hS:=hS.tail
   obtain rfl:=si H
   exact rt1 hE ⟨_,rfl,_,rfl,hS⟩
  replace hE:=hE.kf 86 c30
  refine plc hE (.r 9 26 .nil) (fun a hE=>pld (hK28 _ _ (wp_ret ?_)))
  replace hS:=hS.tail
  obtain rfl:=si H
  exact rt1 hE ⟨_,rfl,_,rfl,hS⟩
 replace hE:=hE.kf 81 c29
 refine plc hE (.r 4 31 .nil) (fun a hE=>pld (hK28 _ _ (wp_ret ?_)))
 replace hS:=hS.tail
 obtain rfl:=si H
 exact rt1 hE ⟨_,rfl,_,rfl,hS⟩
def qAg.f(x0_:List qA):Option (List qA):=if ((([]:List qA).length:Int)+(x0_.length:Int)) * 40≤140737488355328 then (some (([]:List qA)++x0_)) else (none)
def qAg.Post(W F:World)(r:List qA)(v:Value)(w':World):Prop:=∃(F':World)(RA0_0:Option Addr)(rc0_0:Nat),v = .slice RA0_0 r.length rc0_0∧St W (mine W []) F w' F' [row qA.k 104 (.slice RA0_0 r.length rc0_0) r]
theorem qAg.calls(x0_:List qA)(A0_0:Option Addr)(c0_0:Nat)(r:List qA)(W F:World)(hown:Sub F W)(g0_0:Rd qA.k F A0_0 c0_0 x0_)(H:qAg.f x0_=some r):
    Calls Tryz.prog 128 #[.slice A0_0 x0_.length c0_0] W fun e w'=>∃ v,e = .returned v∧qAg.Post W F r v w':=by
 have hS:=St.start (Own.nil hown)
 unfold qAg.f at H
 refine enter (n:=8) rfl rfl rfl (Nat.le_of_ble_eq_true rfl) (fun a hE=>?_)
 rcases A0_0 with _ | ad1
 ·
  have hnil:=g0_0.none_nil
  replace H:(some [])=some r:=by simpa [hnil] using H
  refine rr hE fun a hE=>(sq fun K3 hK3=>rr hE fun a hE=>(ct hE (rr hE fun a hE=>(wp_ret (qCD ?_)))))
  replace hS:=hS.nilrow qA.k 104
  obtain rfl:=si H
  exact rt1 hE ⟨_,rfl,_,_,_,rfl,hS⟩
 refine rr hE fun a hE=>(sq fun K8 hK8=>rr hE fun a hE=>(cf hE (wp_skip (hK8 _ _ (sq fun K10 hK10=>pl0 (ple hE (.lit (d:=qA.k) (e:=104) hS ([]:List qA) (.nil)) ?_))))))
 rintro _ u11 a ⟨A12,c13,rfl,hS,hg⟩ hE
 refine plc hE (.r 1 1 .nil) (fun a hE=>?_)
 obtain ⟨c15,H⟩:=gd H
 refine ple hE (.ap (d:=qA.k) 40 hS (g0_0.src hS.own.sub) c15 c0_0) ?_
 rintro _ u18 a ⟨A16,c17,rfl,hS,hz⟩ hE
 refine plc hE (.r 3 1 .nil) (fun a hE=>pld (hK10 _ _ (wp_ret ?_)))
 obtain rfl:=si H
 exact rt1 hE ⟨_,rfl,_,_,_,rfl,hS⟩
def qAh.f(x0_:List qM):Option (List qM):=if ((([]:List qM).length:Int)+(x0_.length:Int)) * 32≤140737488355328 then (some (([]:List qM)++x0_)) else (none)
def qAh.Post(W F:World)(r:List qM)(v:Value)(w':World):Prop:=∃(F':World)(RA0_0:Option Addr)(rc0_0:Nat),v = .slice RA0_0 r.length rc0_0∧St W (mine W []) F w' F' [row qM.k 97 (.slice RA0_0 r.length rc0_0) r]
theorem qAh.calls(x0_:List qM)(A0_0:Option Addr)(c0_0:Nat)(r:List qM)(W F:World)(hown:Sub F W)(g0_0:Rd qM.k F A0_0 c0_0 x0_)(H:qAh.f x0_=some r):
    Calls Tryz.prog 129 #[.slice A0_0 x0_.length c0_0] W fun e w'=>∃ v,e = .returned v∧qAh.Post W F r v w':=by
 have hS:=St.start (Own.nil hown)
 unfold qAh.f at H
 refine enter (n:=8) rfl rfl rfl (Nat.le_of_ble_eq_true rfl) (fun a hE=>?_)
 rcases A0_0 with _ | ad1
 ·
  have hnil:=g0_0.none_nil
  replace H:(some [])=some r:=by simpa [hnil] using H
  refine rr hE fun a hE=>(sq fun K3 hK3=>rr hE fun a hE=>(ct hE (rr hE fun a hE=>(wp_ret (qCD ?_)))))
  replace hS:=hS.nilrow qM.k 97
  obtain rfl:=si H
  exact rt1 hE ⟨_,rfl,_,_,_,rfl,hS⟩
 refine rr hE fun a hE=>(sq fun K8 hK8=>rr hE fun a hE=>(cf hE (wp_skip (hK8 _ _ (sq fun K10 hK10=>pl0 (ple hE (.lit (d:=qM.k) (e:=97) hS ([]:List qM) (.nil)) ?_))))))
 rintro _ u11 a ⟨A12,c13,rfl,hS,hg⟩ hE
 refine plc hE (.r 1 1 .nil) (fun a hE=>?_)
 obtain ⟨c15,H⟩:=gd H
 refine ple hE (.ap (d:=qM.k) 32 hS (g0_0.src hS.own.sub) c15 c0_0) ?_
 rintro _ u18 a ⟨A16,c17,rfl,hS,hz⟩ hE
 refine plc hE (.r 3 1 .nil) (fun a hE=>pld (hK10 _ _ (wp_ret ?_)))
 obtain rfl:=si H
 exact rt1 hE ⟨_,rfl,_,_,_,rfl,hS⟩
def qAW.f(x0_:List Int):Option (List Int):=if ((([]:List Int).length:Int)+(x0_.length:Int)) * 8≤140737488355328 then (some (([]:List Int)++x0_)) else (none)
def qAW.Post(W F:World)(r:List Int)(v:Value)(w':World):Prop:=∃(F':World)(RA0_0:Option Addr)(rc0_0:Nat),v = .slice RA0_0 r.length rc0_0∧St W (mine W []) F w' F' [row ki 3 (.slice RA0_0 r.length rc0_0) r]
theorem qAW.calls(x0_:List Int)(A0_0:Option Addr)(c0_0:Nat)(r:List Int)(W F:World)(hown:Sub F W)(g0_0:Rd ki F A0_0 c0_0 x0_)(H:qAW.f x0_=some r):
    Calls Tryz.prog 112 #[.slice A0_0 x0_.length c0_0] W fun e w'=>∃ v,e = .returned v∧qAW.Post W F r v w':=by
 have hS:=St.start (Own.nil hown)
 unfold qAW.f at H
 refine enter (n:=8) rfl rfl rfl (Nat.le_of_ble_eq_true rfl) (fun a hE=>?_)
 rcases A0_0 with _ | ad1
 ·
  have hnil:=g0_0.none_nil
  replace H:(some [])=some r:=by simpa [hnil] using H
  refine rr hE fun a hE=>(sq fun K3 hK3=>rr hE fun a hE=>(ct hE (rr hE fun a hE=>(wp_ret (qCD ?_)))))
  replace hS:=hS.nilrow ki 3
  obtain rfl:=si H
  exact rt1 hE ⟨_,rfl,_,_,_,rfl,hS⟩
 refine rr hE fun a hE=>(sq fun K8 hK8=>rr hE fun a hE=>(cf hE (wp_skip (hK8 _ _ (sq fun K10 hK10=>pl0 (ple hE (.lit (d:=ki) (e:=3) hS ([]:List Int) (.nil)) ?_))))))
 rintro _ u11 a ⟨A12,c13,rfl,hS,hg⟩ hE
 refine plc hE (.r 1 1 .nil) (fun a hE=>?_)
 obtain ⟨c15,H⟩:=gd H
 refine ple hE (.ap (d:=ki) 8 hS (g0_0.src hS.own.sub) c15 c0_0) ?_
 rintro _ u18 a ⟨A16,c17,rfl,hS,hz⟩ hE
 refine plc hE (.r 3 1 .nil) (fun a hE=>pld (hK10 _ _ (wp_ret ?_)))
 obtain rfl:=si H
 exact rt1 hE ⟨_,rfl,_,_,_,rfl,hS⟩
def qAX.f(x0_:List qF):Option (List qF):=if ((([]:List qF).length:Int)+(x0_.length:Int)) * 32≤140737488355328 then (some (([]:List qF)++x0_)) else (none)
def qAX.Post(W F:World)(r:List qF)(v:Value)(w':World):Prop:=∃(F':World)(RA0_0:Option Addr)(rc0_0:Nat),v = .slice RA0_0 r.length rc0_0∧St W (mine W []) F w' F' [row qF.k 49 (.slice RA0_0 r.length rc0_0) r]
theorem qAX.calls(x0_:List qF)(A0_0:Option Addr)(c0_0:Nat)(r:List qF)(W F:World)(hown:Sub F W)(g0_0:Rd qF.k F A0_0 c0_0 x0_)(H:qAX.f x0_=some r):
    Calls Tryz.prog 130 #[.slice A0_0 x0_.length c0_0] W fun e w'=>∃ v,e = .returned v∧qAX.Post W F r v w':=by
 have hS:=St.start (Own.nil hown)
 unfold qAX.f at H
 refine enter (n:=8) rfl rfl rfl (Nat.le_of_ble_eq_true rfl) (fun a hE=>?_)
 rcases A0_0 with _ | ad1
 ·
  have hnil:=g0_0.none_nil
  replace H:(some [])=some r:=by simpa [hnil] using H
  refine rr hE fun a hE=>(sq fun K3 hK3=>rr hE fun a hE=>(ct hE (rr hE fun a hE=>(wp_ret (qCD ?_)))))
  replace hS:=hS.nilrow qF.k 49
  obtain rfl:=si H
  exact rt1 hE ⟨_,rfl,_,_,_,rfl,hS⟩
 refine rr hE fun a hE=>(sq fun K8 hK8=>rr hE fun a hE=>(cf hE (wp_skip (hK8 _ _ (sq fun K10 hK10=>pl0 (ple hE (.lit (d:=qF.k) (e:=49) hS ([]:List qF) (.nil)) ?_))))))
 rintro _ u11 a ⟨A12,c13,rfl,hS,hg⟩ hE
 refine plc hE (.r 1 1 .nil) (fun a hE=>?_)
 obtain ⟨c15,H⟩:=gd H
 refine ple hE (.ap (d:=qF.k) 32 hS (g0_0.src hS.own.sub) c15 c0_0) ?_
 rintro _ u18 a ⟨A16,c17,rfl,hS,hz⟩ hE
 refine plc hE (.r 3 1 .nil) (fun a hE=>pld (hK10 _ _ (wp_ret ?_)))
 obtain rfl:=si H
 exact rt1 hE ⟨_,rfl,_,_,_,rfl,hS⟩
def qAi.f(x0_:List qE):Option (List qE):=if ((([]:List qE).length:Int)+(x0_.length:Int)) * 32≤140737488355328 then (some (([]:List qE)++x0_)) else (none)
def qAi.Post(W F:World)(r:List qE)(v:Value)(w':World):Prop:=∃(F':World)(RA0_0:Option Addr)(rc0_0:Nat),v = .slice RA0_0 r.length rc0_0∧St W (mine W []) F w' F' [row qE.k 51 (.slice RA0_0 r.length rc0_0) r]
theorem qAi.calls(x0_:List qE)(A0_0:Option Addr)(c0_0:Nat)(r:List qE)(W F:World)(hown:Sub F W)(g0_0:Rd qE.k F A0_0 c0_0 x0_)(H:qAi.f x0_=some r):
    Calls Tryz.prog 175 #[.slice A0_0 x0_.length c0_0] W fun e w'=>∃ v,e = .returned v∧qAi.Post W F r v w':=by
 have hS:=St.start (Own.nil hown)
 unfold qAi.f at H
 refine enter (n:=8) rfl rfl rfl (Nat.le_of_ble_eq_true rfl) (fun a hE=>?_)
 rcases A0_0 with _ | ad1
 ·
  have hnil:=g0_0.none_nil
  replace H:(some [])=some r:=by simpa [hnil] using H
  refine rr hE fun a hE=>(sq fun K3 hK3=>rr hE fun a hE=>(ct hE (rr hE fun a hE=>(wp_ret (qCD ?_)))))
  replace hS:=hS.nilrow qE.k 51
  obtain rfl:=si H
  exact rt1 hE ⟨_,rfl,_,_,_,rfl,hS⟩
 refine rr hE fun a hE=>(sq fun K8 hK8=>rr hE fun a hE=>(cf hE (wp_skip (hK8 _ _ (sq fun K10 hK10=>pl0 (ple hE (.lit (d:=qE.k) (e:=51) hS ([]:List qE) (.nil)) ?_))))))
 rintro _ u11 a ⟨A12,c13,rfl,hS,hg⟩ hE
 refine plc hE (.r 1 1 .nil) (fun a hE=>?_)
 obtain ⟨c15,H⟩:=gd H
 refine ple hE (.ap (d:=qE.k) 32 hS (g0_0.src hS.own.sub) c15 c0_0) ?_
 rintro _ u18 a ⟨A16,c17,rfl,hS,hz⟩ hE
 refine plc hE (.r 3 1 .nil) (fun a hE=>pld (hK10 _ _ (wp_ret ?_)))
 obtain rfl:=si H
 exact rt1 hE ⟨_,rfl,_,_,_,rfl,hS⟩
def qBN.l16:Nat→List qE→List qE→Int→Option (List qE)
 | 0,_,_,_=>none
 | k+1,t4,l13,x14=>if x14<(t4.length:Int) then (if 0≤x14∧x14<(t4.length:Int) then ((qAW.f ((nth qE.z l13 x14).f1)).bind fun t39=>(qBN.l16 k t4 (l13.set (x14).toNat (⟨(nth qE.z l13 x14).f0,t39⟩:qE)) (w64 (x14+1)))) else (none)) else (some l13)
theorem qBN.l16_s k t4 l13 x14:type_of% (qBN.l16.eq_2 t4 l13 x14 k):=qBN.l16.eq_2 t4 l13 x14 k
def qBN.f(k:Nat)(x0_:List qE):Option (List qE):=(qAi.f x0_).bind fun t4=>(qBN.l16 k t4 t4 0)
def qBN.Post(W F:World)(r:List qE)(v:Value)(w':World):Prop:=∃(F':World)(RA0_0:Option Addr)(rc0_0:Nat),v = .slice RA0_0 r.length rc0_0∧St W (mine W []) F w' F' [row qE.k 51 (.slice RA0_0 r.length rc0_0) r]
theorem qBN.calls(k:Nat)(x0_:List qE)(A0_0:Option Addr)(c0_0:Nat)(r:List qE)(W F:World)(hown:Sub F W)(g0_0:Rd qE.k F A0_0 c0_0 x0_)(H:qBN.f k x0_=some r):
    Calls Tryz.prog 131 #[.slice A0_0 x0_.length c0_0] W fun e w'=>∃ v,e = .returned v∧qBN.Post W F r v w':=by
 have hS:=St.start (Own.nil hown)
 unfold qBN.f at H
 refine enter (n:=23) rfl rfl rfl (Nat.le_of_ble_eq_true rfl) (fun a hE=>?_)
 refine rr hE fun a hE=>(sq fun K2 hK2=>pl0 (plc hE (.r 0 1 .nil) (fun a hE=>?_)))
 obtain ⟨t4,h5,H⟩:=bd H
 refine ple hE (.cl en175 (qAi.calls x0_ _ _ _ _ _ hS.own.sub g0_0 h5)) ?_
 rintro _ u3 a ⟨F6,A7,c8,rfl,hC⟩ hE
 have hs:=hC.sub
 replace hS:=hS.called (X:=[]) hC
 replace g0_0:=g0_0.mono hs
 refine plc hE (.r 2 1 .nil) (fun a hE=>pld (hK2 _ _ (sq fun K11 hK11=>rr hE fun a hE=>(wp_block ?_))))
 refine wp_loop_ghost (fun kq17 a w'=>∃(G:Nat→Value)(l13:List qE)(x14:Int)(F15:World),kq17≤k∧Env 23 G a∧At G [(0,.slice A7 t4.length c8),(7,.slice A7 t4.length c8),(8,iv (t4.length:Int)),(9,iv x14)]∧St W (mine W []) F w' F15 [row qE.k 51 (.slice A7 t4.length c8) l13]∧qBN.l16 kq17 t4 l13 x14=some r) k ⟨_,t4,0,F6,Nat.le_refl _,hE,.of,hS,H⟩ ?_
 rintro kq17 a u19 ⟨G,l13,x14,F15,hkq,hE,hA,hS,H⟩
 obtain _ | k18:=kq17
 ·
  exact zz H
 rw [qBN.l16_s]at H
 obtain ⟨J,hE⟩:=hE.at hA
 refine rr hE fun a hE=>(sq fun K21 hK21=>?_)
 refine hE.ik 10 H (fun c22 hE H=>?_) fun c22 hE H=>?_
 ·
  refine wp_skip (hK21 _ _ (sq fun K23 hK23=>wp_block (sq fun K24 hK24=>pl0 ?_)))
  obtain ⟨c25,H⟩:=gd H
  have hr26:=hS.ra 0
  have c27:0≤x14∧x14<(l13.length:Int):=by rw [← (qCH hr26).1]; exact c25
  have hE_:=hE
  obtain ⟨b28,rfl⟩:=qCK hr26 c27.1 c27.2
  replace hE:=hE_
  have hr_:=hS.ra 0
  obtain ⟨cs30,⟨A32,c33,rfl,g34⟩,hc31⟩:=qCI hr_ qE.z x14 c27.1 c27.2
  refine plc hE (.r 0 1<|.x 1 c25<|.cs 2 hc31<|.nil) (fun a hE=>ple hE (.al (t:=51) hS [iv 0,.slice none 0 0]) ?_)
  rintro _ u36 a ⟨b35,rfl,hb35,hS,hg⟩ hE
  refine plc hE (.r 4 1 .nil) (fun a hE=>ple hE (.sto hS [iv ((nth qE.z l13 x14).f0),.slice A32 (((nth qE.z l13 x14).f1).length) c33]) ?_)
  rintro _ u37 a ⟨rfl,hb35,hS,hz⟩ hE
  refine pld (hK24 _ _ (pl0 (plc hE (.r 0 3<|.b 3 1 hb35<|.nil) (fun a hE=>?_))))
  obtain ⟨t39,h40,H⟩:=bd H
  refine ple hE (.cl en112 (qAW.calls ((nth qE.z l13 x14).f1) _ _ _ _ _ hS.own.sub g34 h40)) ?_
  rintro _ u38 a ⟨F41,A42,c43,rfl,hC⟩ hE
  have hs:=hC.sub
  replace hS:=hS.called (X:=[]) hC
  replace g34:=g34.mono hs
  have hr46:=hS.ra 2
  have c47:0≤x14∧x14<(l13.length:Int):=by rw [← (qCH hr46).1]; exact c25
  have hr_:=hS.ra 2
  obtain ⟨cs49,⟨A51,c52,rfl,g53⟩,hc50⟩:=qCI hr_ qE.z x14 c47.1 c47.2
  refine plc hE (.x 5 c25<|.r 6 1<|.nil) (fun a hE=>?_)
  obtain ⟨F55,hs,g56,hS⟩:=hS.give
  replace g34:=g34.mono hs
  replace hS:=hS.front 1 rfl
  obtain ⟨cs60,⟨A57,c58,rfl,g59⟩,hc61⟩:=qCI (hS.row_at (i:=0) rfl) qE.z x14 c47.1 c47.2
  refine ple hE (.set (d:=qE.k) (n:=t4.length) (i:=x14) (⟨(nth qE.z l13 x14).f0,t39⟩:qE) 1 (ea1 _ _ _) hS c47 [iv ((nth qE.z l13 x14).f0),.slice A57 (((nth qE.z l13 x14).f1).length) c58] hc61 [iv ((nth qE.z l13 x14).f0),.slice A42 t39.length c43] ⟨_,_,rfl,g56⟩) ?_
  rintro _ u54 a ⟨rfl,hS,hz⟩ hE
  refine pld ?_
  refine qCF ?_
  refine hK23 _ _ (pl0 (plc hE (.r 0 2 .nil) (fun a hE=>pld ?_)))
  replace hS:=hS.pm [0] 2
  exact qCG ⟨k18,by omega,_,(l13.set (x14).toNat (⟨(nth qE.z l13 x14).f0,t39⟩:qE)),(w64 (x14+1)),F55,by omega,hE,.of,hS,H⟩
 refine wp_exit ?_
 refine hK11 _ _ (rr hE fun a hE=>(wp_ret ?_))
 have hn63:=(qCH (hS.row_at (i:=0) rfl)).1
 replace hE:=hE.set (d:=2) (v:=.slice A7 l13.length c8) (Eq.trans (b:=.slice A7 t4.length c8) (by kernel_rfl) (by rw [← hn63]))
 replace hS:St W (mine W []) F u19 F15 [row qE.k 51 (.slice A7 l13.length c8) l13]:=by rw [← hn63]; exact hS
 obtain rfl:=si H
 exact rt1 hE ⟨_,rfl,_,_,_,rfl,hS⟩
end Go.Proofs.YtpohepinmjmbkaaGreat.QD
