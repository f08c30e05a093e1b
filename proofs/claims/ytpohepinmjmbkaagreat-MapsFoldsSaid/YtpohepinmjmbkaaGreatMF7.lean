import Derived.Test.YtpohepinmjmbkaaGreatMF6
namespace Go.Proofs.YtpohepinmjmbkaaGreat.MF
open Go Go.RowKit Go.Proofs.YtpohepinmjmbkaaGreat.Sl
set_option linter.unusedVariables false
set_option linter.unusedSimpArgs false
set_option maxHeartbeats 4000000
set_option maxRecDepth 100000
mutual
def qW.l7:Nat→qE→Int→Option Bool
 | 0,_,_=>none
 | k+1,x,x6=>if x6<(x.f5.length:Int) then (qW.j15 k x x6 (decide (x6<20))) else (qW.j15 k x x6 false)
def qW.j15:Nat→qE→Int→Bool→Option Bool
 | 0,_,_,_=>none
 | k+1,x,x6,y14=>if y14=true then (if 0≤x6∧x6<(x.f5.length:Int) then (if (((nth qD.z x.f5 x6).f1).length:Int)>20 then (some false) else (qW.l7 k x (w64 (x6+1)))) else (none)) else (qW.l36 k x 0)
def qW.l36:Nat→qE→Int→Option Bool
 | 0,_,_=>none
 | k+1,x,x35=>if x35<(x.f6.length:Int) then (qW.j44 k x x35 (decide (x35<20))) else (qW.j44 k x x35 false)
def qW.j44:Nat→qE→Int→Bool→Option Bool
 | 0,_,_,_=>none
 | k+1,x,x35,y43=>if y43=true then (if 0≤x35∧x35<(x.f6.length:Int) then (if (((nth qC.z x.f6 x35).f1).length:Int)>20 then (some false) else (qW.l65 k x x35 0)) else (none)) else (if (x.f4.length:Int)≤30 then (if (x.f5.length:Int)≤20 then (some (decide ((x.f6.length:Int)≤20))) else (some false)) else (some false))
def qW.l65:Nat→qE→Int→Int→Option Bool
 | 0,_,_,_=>none
 | k+1,x,x35,x64=>if x64<(((nth qC.z x.f6 x35).f1).length:Int) then (if 0≤x64∧x64<(((nth qC.z x.f6 x35).f1).length:Int) then (if (((nth qF.z ((nth qC.z x.f6 x35).f1) x64).f1).length:Int)>20 then (some false) else (qW.l65 k x x35 (w64 (x64+1)))) else (none)) else (qW.l36 k x (w64 (x35+1)))
end
theorem qW.l7_s k x x6:type_of% (qW.l7.eq_2 x x6 k):=qW.l7.eq_2 x x6 k
theorem qW.j15_s k x x6 y14:type_of% (qW.j15.eq_2 x x6 y14 k):=qW.j15.eq_2 x x6 y14 k
theorem qW.l36_s k x x35:type_of% (qW.l36.eq_2 x x35 k):=qW.l36.eq_2 x x35 k
theorem qW.j44_s k x x35 y43:type_of% (qW.j44.eq_2 x x35 y43 k):=qW.j44.eq_2 x x35 y43 k
theorem qW.l65_s k x x35 x64:type_of% (qW.l65.eq_2 x x35 x64 k):=qW.l65.eq_2 x x35 x64 k
def qW.f(k:Nat)(x:qE):Option Bool:=qW.l7 k x 0
def qW.Post(W F:World)(r:Bool)(v:Value)(w':World):Prop:=∃(F':World),v = .bool r∧Sm W F w' F' []
theorem qW.calls(k:Nat)(x:qE)(A0_4:OA)(c0_4:Nat)(A0_5:OA)(c0_5:Nat)(A0_6:OA)(c0_6:Nat)(r:Bool)(W F:World)(hown:Sub F W)(g0_4:Rd qA.k F A0_4 c0_4 x.f4)(g0_5:Rd qD.k F A0_5 c0_5 x.f5)(g0_6:Rd qC.k F A0_6 c0_6 x.f6)(H:qW.f k x=some r):
    Cr 20 #[.agg #[iv x.f0,iv x.f1,iv x.f2,iv x.f3,.slice A0_4 x.f4.length c0_4,.slice A0_5 x.f5.length c0_5,.slice A0_6 x.f6.length c0_6]] W (qW.Post W F r):=by
 have S:=St.start (Own.nil hown)
 unfold qW.f at H
 refine ent 83 rfl rfl rfl (fun a E=>?_)
 refine sq fun K1 hK1=>pl0 (ple E (.bx (t:=26) S [iv x.f0,iv x.f1,iv x.f2,iv x.f3,.slice A0_4 x.f4.length c0_4,.slice A0_5 x.f5.length c0_5,.slice A0_6 x.f6.length c0_6]) ?_)
 rintro _ u3 a ⟨b2,rfl,hb2,S,hg⟩ E
 refine plc E (.r 1 1 .nil) (fun a E=>pld (hK1 _ _ (sq fun K4 hK4=>rr E fun a E=>(wp_block ?_))))
 refine wp_loop_ghost (fun kq8 a w'=>∃(G:NV)(x6:Int),kq8≤k∧Env 83 G a∧At G [(1,.pointer (pb b2)),(3,iv x6)]∧Sm W F w' F [box b2 #[iv x.f0,iv x.f1,iv x.f2,iv x.f3,.slice A0_4 x.f4.length c0_4,.slice A0_5 x.f5.length c0_5,.slice A0_6 x.f6.length c0_6] 26]∧qW.l7 kq8 x x6=some r) k ⟨_,0,Nat.le_refl _,E,.of,S,H⟩ ?_
 rintro kq8 a u10 ⟨G,x6,hkq,E,A,S,H⟩
 obtain _ | k9:=kq8
 ·
  exact zz H
 rw [qW.l7_s]at H
 obtain ⟨J,E⟩:=E.at A
 refine sq fun K11 hK11=>sq fun K12 hK12=>?_
 have J18:∀ kq16,kq16≤k9→∀(G:NV)(y14:Bool)(a:Act)(w':World),Env 83 G a→At G [(1,.pointer (pb b2)),(3,iv x6),(14,.bool y14)]→Sm W F w' F [box b2 #[iv x.f0,iv x.f1,iv x.f2,iv x.f3,.slice A0_4 x.f4.length c0_4,.slice A0_5 x.f5.length c0_5,.slice A0_6 x.f6.length c0_6] 26]→qW.j15 kq16 x x6 y14=some r→K12 a w':=by
  intro kq16 hkq G y14 a u19 E A S H
  obtain _ | k17:=kq16
  ·
   exact zz H
  rw [qW.j15_s]at H
  obtain ⟨J,E⟩:=E.at A
  refine hK12 _ _ ?_
  refine E.ib 14 H (fun c20 E H=>?_) fun c20 E H=>?_
  ·
   refine wp_skip (hK11 _ _ (sq fun K21 hK21=>wp_block (sq fun K22 hK22=>pl0 ?_)))
   have hb2:=S.ba 0
   obtain ⟨c23,H⟩:=gd H
   have hE_:=E
   obtain ⟨ad24,rfl⟩:=g0_5.addr c23.1 c23.2
   replace E:=hE_
   obtain ⟨cs26,⟨A28,c29,rfl,g30⟩,hc27⟩:=g0_5.el qD.z x6 c23.1 c23.2
   refine plc E (.r 0 1<|.b 1 5 hb2<|.r 2 1<|.x 3 c23<|.r 4 1<|.c 5 (S.fc hc27 1)<|.r 6 2<|.nil) (fun a E=>pld (hK22 _ _ ?_))
   refine E.ik 24 H (fun c31 E H=>?_) fun c31 E H=>?_
   ·
    refine rr E fun a E=>(wp_ret (qCI (qCH (qCH (qCI (qCH ?_))))))
    replace S:=S.tail
    obtain rfl:=si H
    exact rt1 E ⟨_,rfl,_,rfl,S⟩
   refine wp_skip ?_
   refine qCJ ?_
   refine hK21 _ _ (pl0 (plc E (.r 0 3 .nil) (fun a E=>pld ?_)))
   exact qCK ⟨k17,by omega,_,(w64 (x6+1)),by omega,E,.of,S,H⟩
  refine wp_exit ?_
  refine hK4 _ _ (sq fun K33 hK33=>rr E fun a E=>(wp_block ?_))
  refine wp_loop_ghost (fun kq37 a w'=>∃(G:NV)(x35:Int),kq37≤k17∧Env 83 G a∧At G [(1,.pointer (pb b2)),(4,iv x35)]∧Sm W F w' F [box b2 #[iv x.f0,iv x.f1,iv x.f2,iv x.f3,.slice A0_4 x.f4.length c0_4,.slice A0_5 x.f5.length c0_5,.slice A0_6 x.f6.length c0_6] 26]∧qW.l36 kq37 x x35=some r) k17 ⟨_,0,Nat.le_refl _,E,.of,S,H⟩ ?_
  rintro kq37 a u39 ⟨G,x35,hkq,E,A,S,H⟩
  obtain _ | k38:=kq37
  ·
   exact zz H
  rw [qW.l36_s]at H
  obtain ⟨J,E⟩:=E.at A
  refine sq fun K40 hK40=>sq fun K41 hK41=>?_
  have J47:∀ kq45,kq45≤k38→∀(G:NV)(y43:Bool)(a:Act)(w':World),Env 83 G a→At G [(1,.pointer (pb b2)),(4,iv x35),(33,.bool y43)]→Sm W F w' F [box b2 #[iv x.f0,iv x.f1,iv x.f2,iv x.f3,.slice A0_4 x.f4.length c0_4,.slice A0_5 x.f5.length c0_5,.slice A0_6 x.f6.length c0_6] 26]→qW.j44 kq45 x x35 y43=some r→K41 a w':=by
   intro kq45 hkq G y43 a u48 E A S H
   obtain _ | k46:=kq45
   ·
    exact zz H
   rw [qW.j44_s]at H
   obtain ⟨J,E⟩:=E.at A
   refine hK41 _ _ ?_
   refine E.ib 33 H (fun c49 E H=>?_) fun c49 E H=>?_
   ·
    refine wp_skip (hK40 _ _ (sq fun K50 hK50=>wp_block (sq fun K51 hK51=>sq fun K52 hK52=>pl0 ?_)))
    have hb2:=S.ba 0
    obtain ⟨c53,H⟩:=gd H
    have hE_:=E
    obtain ⟨ad54,rfl⟩:=g0_6.addr c53.1 c53.2
    replace E:=hE_
    obtain ⟨cs56,⟨A58,c59,rfl,g60⟩,hc57⟩:=g0_6.el qC.z x35 c53.1 c53.2
    refine plc E (.r 0 1<|.b 1 6 hb2<|.r 2 1<|.x 3 c53<|.r 4 1<|.c 5 (S.fc hc57 1)<|.r 6 2<|.nil) (fun a E=>pld (hK52 _ _ ?_))
    refine E.ik 43 H (fun c61 E H=>?_) fun c61 E H=>?_
    ·
     refine rr E fun a E=>(wp_ret (qCH (qCI (qCH (qCH (qCI (qCH ?_)))))))
     replace S:=S.tail
     obtain rfl:=si H
     exact rt1 E ⟨_,rfl,_,rfl,S⟩
    refine wp_skip (hK51 _ _ (rr E fun a E=>(wp_block ?_)))
    refine wp_loop_ghost (fun kq66 a w'=>∃(G:NV)(x64:Int),kq66≤k46∧Env 83 G a∧At G [(1,.pointer (pb b2)),(4,iv x35),(5,iv x64)]∧Sm W F w' F [box b2 #[iv x.f0,iv x.f1,iv x.f2,iv x.f3,.slice A0_4 x.f4.length c0_4,.slice A0_5 x.f5.length c0_5,.slice (some ad54) x.f6.length c0_6] 26]∧qW.l65 kq66 x x35 x64=some r) k46 ⟨_,0,Nat.le_refl _,E,.of,S,H⟩ ?_
    rintro kq66 a u68 ⟨G,x64,hkq,E,A,S,H⟩
    obtain _ | k67:=kq66
    ·
     exact zz H
    rw [qW.l65_s]at H
    obtain ⟨J,E⟩:=E.at A
    refine sq fun K69 hK69=>sq fun K70 hK70=>pl0 ?_
    have hb2:=S.ba 0
    obtain ⟨cs72,⟨A74,c75,rfl,g76⟩,hc73⟩:=g0_6.el qC.z x35 c53.1 c53.2
    refine plc E (.r 0 2<|.b 2 6 hb2<|.r 3 1<|.x 4 c53<|.r 5 1<|.c 6 (S.fc hc73 1)<|.r 7 2<|.nil) (fun a E=>pld (hK70 _ _ ?_))
    refine E.ik 52 H (fun c77 E H=>?_) fun c77 E H=>?_
    ·
     refine wp_skip (hK69 _ _ (sq fun K78 hK78=>wp_block (sq fun K79 hK79=>pl0 ?_)))
     obtain ⟨c83,H⟩:=gd H
     have hE_:=E
     obtain ⟨ad84,rfl⟩:=g76.addr c83.1 c83.2
     replace E:=hE_
     obtain ⟨cs86,⟨A88,c89,rfl,g90⟩,hc87⟩:=g76.el qF.z x64 c83.1 c83.2
     refine plc E (.r 0 1<|.b 1 6 hb2<|.r 2 1<|.x 3 c53<|.r 4 1<|.c 5 (S.fc hc73 1)<|.r 6 1<|.x 7 c83<|.r 8 1<|.c 9 (S.fc hc87 1)<|.r 10 2<|.nil) (fun a E=>pld (hK79 _ _ ?_))
     refine E.ik 66 H (fun c91 E H=>?_) fun c91 E H=>?_
     ·
      refine rr E fun a E=>(wp_ret (qCI (qCH (qCH (qCI (qCI (qCH (qCH (qCI (qCH ?_))))))))))
      replace S:=S.tail
      obtain rfl:=si H
      exact rt1 E ⟨_,rfl,_,rfl,S⟩
     refine wp_skip ?_
     refine qCJ ?_
     refine hK78 _ _ (pl0 (plc E (.r 0 3 .nil) (fun a E=>pld ?_)))
     exact qCK ⟨k67,by omega,_,(w64 (x64+1)),by omega,E,.of,S,H⟩
    refine wp_exit ?_
    refine hK50 _ _ (pl0 (plc E (.r 0 3 .nil) (fun a E=>pld ?_)))
    exact qCK ⟨k67,by omega,_,(w64 (x35+1)),by omega,E,.of,S,H⟩
   refine wp_exit ?_
   refine hK33 _ _ (sq fun K93 hK93=>pl0 ?_)
   have hb2:=S.ba 0
   refine plc E (.r 0 1<|.b 1 4 hb2<|.r 2 3<|.nil) (fun a E=>?_)
   rcases sp H with ⟨c94,H⟩ | ⟨c94,H⟩
   ·
    replace E:=E.kt 71 c94
    refine plc E (.r 5 1<|.b 6 5 hb2<|.r 7 4<|.nil) (fun a E=>?_)
    rcases sp H with ⟨c95,H⟩ | ⟨c95,H⟩
    ·
     replace E:=E.kt 77 c95
     refine plc E (.r 11 1<|.b 12 6 hb2<|.r 13 4<|.nil) (fun a E=>pld (hK93 _ _ (wp_ret ?_)))
     replace S:=S.tail
     obtain rfl:=si H
     exact rt1 E ⟨_,rfl,_,rfl,S⟩
    replace E:=E.kf 77 c95
    refine plc E (.r 11 6 .nil) (fun a E=>pld (hK93 _ _ (wp_ret ?_)))
    replace S:=S.tail
    obtain rfl:=si H
    exact rt1 E ⟨_,rfl,_,rfl,S⟩
   replace E:=E.kf 71 c94
   refine plc E (.r 5 12 .nil) (fun a E=>pld (hK93 _ _ (wp_ret ?_)))
   replace S:=S.tail
   obtain rfl:=si H
   exact rt1 E ⟨_,rfl,_,rfl,S⟩
  refine pl0 ?_
  have hb2:=S.ba 0
  refine plc E (.r 0 2<|.b 2 6 hb2<|.r 3 3<|.nil) (fun a E=>?_)
  rcases sp H with ⟨c42,H⟩ | ⟨c42,H⟩
  ·
   replace E:=E.kt 30 c42
   refine plc E (.r 6 3 .nil) (fun a E=>pld ?_)
   exact J47 _ (by omega) _ (decide (x35<20)) _ _ E .of S H
  replace E:=E.kf 30 c42
  refine plc E (.r 6 3 .nil) (fun a E=>pld ?_)
  exact J47 _ (by omega) _ false _ _ E .of S H
 refine pl0 ?_
 have hb2:=S.ba 0
 refine plc E (.r 0 2<|.b 2 5 hb2<|.r 3 3<|.nil) (fun a E=>?_)
 rcases sp H with ⟨c13,H⟩ | ⟨c13,H⟩
 ·
  replace E:=E.kt 11 c13
  refine plc E (.r 6 3 .nil) (fun a E=>pld ?_)
  exact J18 _ (by omega) _ (decide (x6<20)) _ _ E .of S H
 replace E:=E.kf 11 c13
 refine plc E (.r 6 3 .nil) (fun a E=>pld ?_)
 exact J18 _ (by omega) _ false _ _ E .of S H
mutual
def qt.l5:Nat→List qK→Int→Option Bool
 | 0,_,_=>none
 | k+1,x,x4=>if x4<(x.length:Int) then (qt.j13 k x x4 (decide (x4<60))) else (qt.j13 k x x4 false)
def qt.j13:Nat→List qK→Int→Bool→Option Bool
 | 0,_,_,_=>none
 | k+1,x,x4,y12=>if y12=true then (if 0≤x4∧x4<(x.length:Int) then (if (((nth qK.z x x4).f6).length:Int)>20 then (some false) else (qt.l5 k x (w64 (x4+1)))) else (none)) else (some (decide ((x.length:Int)≤60)))
end
theorem qt.l5_s k x x4:type_of% (qt.l5.eq_2 x x4 k):=qt.l5.eq_2 x x4 k
theorem qt.j13_s k x x4 y12:type_of% (qt.j13.eq_2 x x4 y12 k):=qt.j13.eq_2 x x4 y12 k
def qt.f(k:Nat)(x:List qK):Option Bool:=qt.l5 k x 0
def qt.Post(W F:World)(r:Bool)(v:Value)(w':World):Prop:=∃(F':World),v = .bool r∧Sm W F w' F' []
theorem qt.calls(k:Nat)(x:List qK)(A0_0:OA)(c0_0:Nat)(r:Bool)(W F:World)(hown:Sub F W)(g0_0:Rd qK.k F A0_0 c0_0 x)(H:qt.f k x=some r):
    Cr 27 #[.slice A0_0 x.length c0_0] W (qt.Post W F r):=by
 have S:=St.start (Own.nil hown)
 unfold qt.f at H
 refine ent 24 rfl rfl rfl (fun a E=>?_)
 refine rr E fun a E=>(sq fun K2 hK2=>rr E fun a E=>(wp_block ?_))
 refine wp_loop_ghost (fun kq6 a w'=>∃(G:NV)(x4:Int),kq6≤k∧Env 24 G a∧At G [(0,.slice A0_0 x.length c0_0),(3,iv x4)]∧Sm W F w' F []∧qt.l5 kq6 x x4=some r) k ⟨_,0,Nat.le_refl _,E,.of,S,H⟩ ?_
 rintro kq6 a u8 ⟨G,x4,hkq,E,A,S,H⟩
 obtain _ | k7:=kq6
 ·
  exact zz H
 rw [qt.l5_s]at H
 obtain ⟨J,E⟩:=E.at A
 refine sq fun K9 hK9=>sq fun K10 hK10=>?_
 have J16:∀ kq14,kq14≤k7→∀(G:NV)(y12:Bool)(a:Act)(w':World),Env 24 G a→At G [(0,.slice A0_0 x.length c0_0),(3,iv x4),(11,.bool y12)]→Sm W F w' F []→qt.j13 kq14 x x4 y12=some r→K10 a w':=by
  intro kq14 hkq G y12 a u17 E A S H
  obtain _ | k15:=kq14
  ·
   exact zz H
  rw [qt.j13_s]at H
  obtain ⟨J,E⟩:=E.at A
  refine hK10 _ _ ?_
  refine E.ib 11 H (fun c18 E H=>?_) fun c18 E H=>?_
  ·
   refine wp_skip (hK9 _ _ (sq fun K19 hK19=>wp_block (sq fun K20 hK20=>pl0 ?_)))
   obtain ⟨c21,H⟩:=gd H
   have hE_:=E
   obtain ⟨ad22,rfl⟩:=g0_0.addr c21.1 c21.2
   replace E:=hE_
   obtain ⟨cs24,⟨A26,c27,rfl,g28⟩,hc25⟩:=g0_0.el qK.z x4 c21.1 c21.2
   refine plc E (.r 0 2<|.x 2 c21<|.r 3 1<|.c 4 (S.fc hc25 6)<|.r 5 2<|.nil) (fun a E=>pld (hK20 _ _ ?_))
   refine E.ik 20 H (fun c29 E H=>?_) fun c29 E H=>?_
   ·
    refine rr E fun a E=>(wp_ret (qCI (qCH (qCH (qCI (qCH ?_))))))
    obtain rfl:=si H
    exact rt1 E ⟨_,rfl,_,rfl,S⟩
   refine wp_skip ?_
   refine qCJ ?_
   refine hK19 _ _ (pl0 (plc E (.r 0 3 .nil) (fun a E=>pld ?_)))
   exact qCK ⟨k15,by omega,_,(w64 (x4+1)),by omega,E,.of,S,H⟩
  refine wp_exit ?_
  refine hK2 _ _ (rr E fun a E=>(wp_ret ?_))
  obtain rfl:=si H
  exact rt1 E ⟨_,rfl,_,rfl,S⟩
 refine pl0 (plc E (.r 0 5 .nil) (fun a E=>?_))
 rcases sp H with ⟨c11,H⟩ | ⟨c11,H⟩
 ·
  replace E:=E.kt 8 c11
  refine plc E (.r 5 3 .nil) (fun a E=>pld ?_)
  exact J16 _ (by omega) _ (decide (x4<60)) _ _ E .of S H
 replace E:=E.kf 8 c11
 refine plc E (.r 5 3 .nil) (fun a E=>pld ?_)
 exact J16 _ (by omega) _ false _ _ E .of S H
mutual
def qAx.j34:Nat→qE × Int→Bool→Option qE
 | 0,_,_=>none
 | k+1,t10,y33=>if y33=true then (qAx.j42 k t10 (w64 (t10.1.f0+1))) else (qAx.j42 k t10 t10.1.f0)
def qAx.j42:Nat→qE × Int→Int→Option qE
 | 0,_,_=>none
 | k+1,t10,x41=>some (⟨x41,t10.1.f1,t10.1.f2,t10.1.f3,t10.1.f4,t10.1.f5,t10.1.f6⟩:qE)
end
theorem qAx.j34_s k t10 y33:type_of% (qAx.j34.eq_2 t10 y33 k):=qAx.j34.eq_2 t10 y33 k
theorem qAx.j42_s k t10 x41:type_of% (qAx.j42.eq_2 t10 x41 k):=qAx.j42.eq_2 t10 x41 k
def qAx.f(k:Nat)(x:qE)(y:qK):Option qE:=(qBA.f k x y).bind fun t10=>(if t10.2=0 then (qAx.j34 k t10 false) else (if t10.1.f0<2147483647 then ((qAH.f k x).bind fun t31=>(qAx.j34 k t10 (t31 == 0))) else (qAx.j34 k t10 false)))
def qAx.Post(W F:World)(r:qE)(v:Value)(w':World):Prop:=∃(F':World)(RA0_4:OA)(rc0_4:Nat)(RA0_5:OA)(rc0_5:Nat)(RA0_6:OA)(rc0_6:Nat),v = .agg #[iv r.f0,iv r.f1,iv r.f2,iv r.f3,.slice RA0_4 r.f4.length rc0_4,.slice RA0_5 r.f5.length rc0_5,.slice RA0_6 r.f6.length rc0_6]∧Sm W F w' F' [row qC.k 49 (.slice RA0_6 r.f6.length rc0_6) r.f6]∧Rd qA.k F' RA0_4 rc0_4 r.f4∧Rd qD.k F' RA0_5 rc0_5 r.f5
theorem qAx.calls(k:Nat)(x:qE)(y:qK)(A0_4:OA)(c0_4:Nat)(A0_5:OA)(c0_5:Nat)(A0_6:OA)(c0_6:Nat)(A1_6:OA)(c1_6:Nat)(r:qE)(W F:World)(hown:Sub F W)(g0_4:Rd qA.k F A0_4 c0_4 x.f4)(g0_5:Rd qD.k F A0_5 c0_5 x.f5)(g0_6:Rd qC.k F A0_6 c0_6 x.f6)(g1_6:Rd ki F A1_6 c1_6 y.f6)(H:qAx.f k x y=some r):
    Cr 31 #[.agg #[iv x.f0,iv x.f1,iv x.f2,iv x.f3,.slice A0_4 x.f4.length c0_4,.slice A0_5 x.f5.length c0_5,.slice A0_6 x.f6.length c0_6],.agg #[iv y.f0,iv y.f1,iv y.f2,iv y.f3,iv y.f4,iv y.f5,.slice A1_6 y.f6.length c1_6]] W (qAx.Post W F r):=by
 have S:=St.start (Own.nil hown)
 unfold qAx.f at H
 refine ent 30 rfl rfl rfl (fun a E=>?_)
 refine sq fun K1 hK1=>pl0 (ple E (.bx (t:=26) S [iv x.f0,iv x.f1,iv x.f2,iv x.f3,.slice A0_4 x.f4.length c0_4,.slice A0_5 x.f5.length c0_5,.slice A0_6 x.f6.length c0_6]) ?_)
 rintro _ u3 a ⟨b2,rfl,hb2,S,hg⟩ E
 refine ple E (.bx (t:=40) S [iv y.f0,iv y.f1,iv y.f2,iv y.f3,iv y.f4,iv y.f5,.slice A1_6 y.f6.length c1_6]) ?_
 rintro _ u5 a ⟨b4,rfl,hb4,S,hg⟩ E
 refine ple E (.al (t:=26) S [iv 0,iv 0,iv 0,iv 0,.slice none 0 0,.slice none 0 0,.slice none 0 0]) ?_
 rintro _ u7 a ⟨b6,rfl,hb6,S,hg⟩ E
 refine pld (hK1 _ _ (sq fun K8 hK8=>pl0 ?_))
 have hb2:=S.ba 2
 have hb4:=S.ba 1
 refine plc E (.bn 0 0 7 hb2<|.bn 1 0 7 hb4<|.nil) (fun a E=>?_)
 obtain ⟨t10,h11,H⟩:=bd H
 refine ple E (.cl en26 (qBA.calls k x y _ _ _ _ _ _ _ _ _ _ _ S.own.sub g0_4 g0_5 g0_6 g1_6 h11)) ?_
 rintro _ u9 a ⟨F12,A13,c14,A16,c17,A19,c20,rfl,hC,g15,g18⟩ E
 have hs:=hC.sub
 replace S:=S.called (X:=[]) hC
 replace g0_4:=g0_4.mono hs
 replace g0_5:=g0_5.mono hs
 replace g0_6:=g0_6.mono hs
 replace g1_6:=g1_6.mono hs
 refine plc E (.r 3 3 .nil) (fun a E=>ple E (.al (t:=26) S [iv 0,iv 0,iv 0,iv 0,.slice none 0 0,.slice none 0 0,.slice none 0 0]) ?_)
 rintro _ u24 a ⟨b23,rfl,hb23,S,hg⟩ E
 refine ple E (.sto S [iv t10.1.f0,iv t10.1.f1,iv t10.1.f2,iv t10.1.f3,.slice A13 t10.1.f4.length c14,.slice A16 t10.1.f5.length c17,.slice A19 t10.1.f6.length c20]) ?_
 rintro _ u25 a ⟨rfl,hb23,S,hz⟩ E
 refine plc E (.r 8 1 .nil) (fun a E=>pld (hK8 _ _ (sq fun K26 hK26=>?_)))
 have J45:∀ kq43,kq43≤k→∀(G:NV)(x41:Int)(a:Act)(w':World),Env 30 G a→At G [(4,.pointer (pb b6)),(5,.pointer (pb b23))]→Sm W F w' F12 [box b23 #[iv x41,iv t10.1.f1,iv t10.1.f2,iv t10.1.f3,.slice A13 t10.1.f4.length c14,.slice A16 t10.1.f5.length c17,.slice A19 t10.1.f6.length c20] 26,box b6 #[iv 0,iv 0,iv 0,iv 0,.slice none 0 0,.slice none 0 0,.slice none 0 0] 26,box b4 #[iv y.f0,iv y.f1,iv y.f2,iv y.f3,iv y.f4,iv y.f5,.slice A1_6 y.f6.length c1_6] 40,box b2 #[iv x.f0,iv x.f1,iv x.f2,iv x.f3,.slice A0_4 x.f4.length c0_4,.slice A0_5 x.f5.length c0_5,.slice A0_6 x.f6.length c0_6] 26,row qC.k 49 (.slice A19 t10.1.f6.length c20) t10.1.f6]→qAx.j42 kq43 t10 x41=some r→K26 a w':=by
  intro kq43 hkq G x41 a u46 E A S H
  obtain _ | k44:=kq43
  ·
   exact zz H
  rw [qAx.j42_s]at H
  obtain ⟨J,E⟩:=E.at A
  refine hK26 _ _ (sq fun K47 hK47=>pl0 ?_)
  have hb23:=S.ba 0
  refine plc E (.bn 0 0 7 hb23 .nil) (fun a E=>?_)
  replace S:=S.front 1 rfl
  refine ple E (.sto S [iv x41,iv t10.1.f1,iv t10.1.f2,iv t10.1.f3,.slice A13 t10.1.f4.length c14,.slice A16 t10.1.f5.length c17,.slice A19 t10.1.f6.length c20]) ?_
  rintro _ u48 a ⟨rfl,hb6,S,hz⟩ E
  refine pld (hK47 _ _ (wp_ret ?_))
  replace S:=S.pm [] 4
  obtain rfl:=si H
  exact ret1 E rfl (.cell (by kernel_rfl) (qCL [iv x41,iv t10.1.f1,iv t10.1.f2,iv t10.1.f3,.slice A13 t10.1.f4.length c14,.slice A16 t10.1.f5.length c17,.slice A19 t10.1.f6.length c20] ag26 sz26 hb6 rfl) .nil) ⟨_,rfl,_,_,_,_,_,_,_,rfl,S,g15,g18⟩
 refine sq fun K27 hK27=>?_
 have J37:∀ kq35,kq35≤k→∀(G:NV)(y33:Bool)(a:Act)(w':World),Env 30 G a→At G [(4,.pointer (pb b6)),(5,.pointer (pb b23)),(24,.bool y33)]→Sm W F w' F12 [box b23 #[iv t10.1.f0,iv t10.1.f1,iv t10.1.f2,iv t10.1.f3,.slice A13 t10.1.f4.length c14,.slice A16 t10.1.f5.length c17,.slice A19 t10.1.f6.length c20] 26,box b6 #[iv 0,iv 0,iv 0,iv 0,.slice none 0 0,.slice none 0 0,.slice none 0 0] 26,box b4 #[iv y.f0,iv y.f1,iv y.f2,iv y.f3,iv y.f4,iv y.f5,.slice A1_6 y.f6.length c1_6] 40,box b2 #[iv x.f0,iv x.f1,iv x.f2,iv x.f3,.slice A0_4 x.f4.length c0_4,.slice A0_5 x.f5.length c0_5,.slice A0_6 x.f6.length c0_6] 26,row qC.k 49 (.slice A19 t10.1.f6.length c20) t10.1.f6]→qAx.j34 kq35 t10 y33=some r→K27 a w':=by
  intro kq35 hkq G y33 a u38 E A S H
  obtain _ | k36:=kq35
  ·
   exact zz H
  rw [qAx.j34_s]at H
  obtain ⟨J,E⟩:=E.at A
  refine hK27 _ _ ?_
  refine E.ib 24 H (fun c39 E H=>?_) fun c39 E H=>?_
  ·
   refine pl0 ?_
   have hb23:=S.ba 0
   refine plc E (.r 0 1<|.b 1 0 hb23<|.r 2 2<|.nil) (fun a E=>ple E (.sto S [iv (w64 (t10.1.f0+1)),iv t10.1.f1,iv t10.1.f2,iv t10.1.f3,.slice A13 t10.1.f4.length c14,.slice A16 t10.1.f5.length c17,.slice A19 t10.1.f6.length c20]) ?_)
   rintro _ u40 a ⟨rfl,hb23,S,hz⟩ E
   refine pld ?_
   exact J45 _ (by omega) _ (w64 (t10.1.f0+1)) _ _ E .of S H
  refine wp_skip ?_
  exact J45 _ (by omega) _ t10.1.f0 _ _ E .of S H
 refine pl0 (plc E (.r 0 3 .nil) (fun a E=>?_))
 rcases sp H with ⟨c28,H⟩ | ⟨c28,H⟩
 ·
  replace E:=E.ktn 15 c28
  refine plc E (.r 3 9 .nil) (fun a E=>pld ?_)
  replace S:=S.pm [0,2,3,4,1] 5
  exact J37 _ (by omega) _ false _ _ E .of S H
 replace E:=E.kfn 15 c28
 refine plc E (.r 3 1<|.b 4 0 hb23<|.r 5 3<|.nil) (fun a E=>?_)
 rcases sp H with ⟨c29,H⟩ | ⟨c29,H⟩
 ·
  replace E:=E.kt 20 c29
  have hb2:=S.ba 4
  refine plc E (.bn 8 0 7 hb2 .nil) (fun a E=>?_)
  obtain ⟨t31,h32,H⟩:=bd H
  refine ple E (.cl en32 (qAH.calls k x _ _ _ _ _ _ _ _ _ S.own.sub g0_4 g0_5 g0_6 h32)) ?_
  rintro _ u30 a ⟨_,rfl,hC⟩ E
  replace S:=S.lent hC
  refine plc E (.r 10 2 .nil) (fun a E=>pld ?_)
  replace S:=S.pm [0,2,3,4,1] 5
  exact J37 _ (by omega) _ (t31 == 0) _ _ E .of S H
 replace E:=E.kf 20 c29
 refine plc E (.r 8 4 .nil) (fun a E=>pld ?_)
 replace S:=S.pm [0,2,3,4,1] 5
 exact J37 _ (by omega) _ false _ _ E .of S H
def qBD.l44:Nat→List qK→Int→Int→Int→Int→Int→List qA→List qD→List qC→Option qE
 | 0,_,_,_,_,_,_,_,_,_=>none
 | k+1,y,x27,x28,x29,x30,x31,l34,l38,l42=>if x27<(y.length:Int) then (if 0≤x27∧x27<(y.length:Int) then ((qAx.f k (⟨x28,x29,x30,x31,l34,l38,l42⟩:qE) (nth qK.z y x27)).bind fun t67=>(qBD.l44 k y (w64 (x27+1)) t67.f0 t67.f1 t67.f2 t67.f3 t67.f4 t67.f5 t67.f6)) else (none)) else ((qAH.f k (⟨x28,x29,x30,x31,l34,l38,l42⟩:qE)).bind fun t88=>(if t88=0 then (some (⟨x28,x29,x30,x31,l34,l38,l42⟩:qE)) else (some (⟨0,0,0,0,[],[],[]⟩:qE))))
theorem qBD.l44_s k y x27 x28 x29 x30 x31 l34 l38 l42:type_of% (qBD.l44.eq_2 y x27 x28 x29 x30 x31 l34 l38 l42 k):=qBD.l44.eq_2 y x27 x28 x29 x30 x31 l34 l38 l42 k
def qBD.f(k:Nat)(x:qE)(y:List qK):Option qE:=(qAv.f k x).bind fun t8=>(qBD.l44 k y 0 t8.f0 t8.f1 t8.f2 t8.f3 t8.f4 t8.f5 t8.f6)
def qBD.Post(W F:World)(r:qE)(v:Value)(w':World):Prop:=∃(F':World)(RA0_4:OA)(rc0_4:Nat)(RA0_5:OA)(rc0_5:Nat)(RA0_6:OA)(rc0_6:Nat),v = .agg #[iv r.f0,iv r.f1,iv r.f2,iv r.f3,.slice RA0_4 r.f4.length rc0_4,.slice RA0_5 r.f5.length rc0_5,.slice RA0_6 r.f6.length rc0_6]∧Sm W F w' F' [row qC.k 49 (.slice RA0_6 r.f6.length rc0_6) r.f6]∧Rd qA.k F' RA0_4 rc0_4 r.f4∧Rd qD.k F' RA0_5 rc0_5 r.f5
theorem qBD.calls(k:Nat)(x:qE)(y:List qK)(A0_4:OA)(c0_4:Nat)(A0_5:OA)(c0_5:Nat)(A0_6:OA)(c0_6:Nat)(A1_0:OA)(c1_0:Nat)(r:qE)(W F:World)(hown:Sub F W)(g0_4:Rd qA.k F A0_4 c0_4 x.f4)(g0_5:Rd qD.k F A0_5 c0_5 x.f5)(g0_6:Rd qC.k F A0_6 c0_6 x.f6)(g1_0:Rd qK.k F A1_0 c1_0 y)(H:qBD.f k x y=some r):
    Cr 29 #[.agg #[iv x.f0,iv x.f1,iv x.f2,iv x.f3,.slice A0_4 x.f4.length c0_4,.slice A0_5 x.f5.length c0_5,.slice A0_6 x.f6.length c0_6],.slice A1_0 y.length c1_0] W (qBD.Post W F r):=by
 have S:=St.start (Own.nil hown)
 unfold qBD.f at H
 refine ent 24 rfl rfl rfl (fun a E=>?_)
 refine sq fun K1 hK1=>pl0 (ple E (.bx (t:=26) S [iv x.f0,iv x.f1,iv x.f2,iv x.f3,.slice A0_4 x.f4.length c0_4,.slice A0_5 x.f5.length c0_5,.slice A0_6 x.f6.length c0_6]) ?_)
 rintro _ u3 a ⟨b2,rfl,hb2,S,hg⟩ E
 refine ple E (.al (t:=26) S [iv 0,iv 0,iv 0,iv 0,.slice none 0 0,.slice none 0 0,.slice none 0 0]) ?_
 rintro _ u5 a ⟨b4,rfl,hb4,S,hg⟩ E
 refine pld (hK1 _ _ (sq fun K6 hK6=>pl0 ?_))
 have hb2:=S.ba 1
 refine plc E (.bn 0 0 7 hb2 .nil) (fun a E=>?_)
 obtain ⟨t8,h9,H⟩:=bd H
 refine ple E (.cl en77 (qAv.calls k x _ _ _ _ _ _ _ _ _ S.own.sub g0_4 g0_5 g0_6 h9)) ?_
 rintro _ u7 a ⟨F10,A11,c12,A15,c16,A19,c20,rfl,hC⟩ E
 have hs:=hC.sub
 replace S:=S.called (X:=[]) hC
 replace g0_4:=g0_4.mono hs
 replace g0_5:=g0_5.mono hs
 replace g0_6:=g0_6.mono hs
 replace g1_0:=g1_0.mono hs
 replace S:=S.front 4 rfl
 refine ple E (.sto S [iv t8.f0,iv t8.f1,iv t8.f2,iv t8.f3,.slice A11 t8.f4.length c12,.slice A15 t8.f5.length c16,.slice A19 t8.f6.length c20]) ?_
 rintro _ u23 a ⟨rfl,hb2,S,hz⟩ E
 refine pld (hK6 _ _ (sq fun K24 hK24=>rr E fun a E=>(wp_block ?_)))
 replace S:=S.front 1 rfl
 obtain ⟨F81,hs,g82,S⟩:=S.give
 replace g0_4:=g0_4.mono hs
 replace g0_5:=g0_5.mono hs
 replace g0_6:=g0_6.mono hs
 replace g1_0:=g1_0.mono hs
 replace S:=S.front 1 rfl
 obtain ⟨F83,hs,g84,S⟩:=S.give
 replace g0_4:=g0_4.mono hs
 replace g0_5:=g0_5.mono hs
 replace g0_6:=g0_6.mono hs
 replace g1_0:=g1_0.mono hs
 replace g82:=g82.mono hs
 replace S:=S.pm [0,2,1] 3
 refine wp_loop_ghost (fun kq45 a w'=>∃(G:NV)(x27:Int)(x28:Int)(x29:Int)(x30:Int)(x31:Int)(A32:OA)(c33:Nat)(l34:List qA)(A36:OA)(c37:Nat)(l38:List qD)(A40:OA)(c41:Nat)(l42:List qC)(F43:World),kq45≤k∧Env 24 G a∧At G [(2,.pointer (pb b2)),(4,.pointer (pb b4)),(9,.slice A1_0 y.length c1_0),(10,iv (y.length:Int)),(11,iv x27)]∧Sm W F w' F43 [box b2 #[iv x28,iv x29,iv x30,iv x31,.slice A32 l34.length c33,.slice A36 l38.length c37,.slice A40 l42.length c41] 26,box b4 #[iv 0,iv 0,iv 0,iv 0,.slice none 0 0,.slice none 0 0,.slice none 0 0] 26,row qC.k 49 (.slice A40 l42.length c41) l42]∧Rd qA.k F43 A32 c33 l34∧Rd qD.k F43 A36 c37 l38∧Rd qK.k F43 A1_0 c1_0 y∧qBD.l44 kq45 y x27 x28 x29 x30 x31 l34 l38 l42=some r) k ⟨_,0,t8.f0,t8.f1,t8.f2,t8.f3,A11,c12,t8.f4,A15,c16,t8.f5,A19,c20,t8.f6,F83,Nat.le_refl _,E,.of,S,g82,g84,g1_0,H⟩ ?_
 rintro kq45 a u47 ⟨G,x27,x28,x29,x30,x31,A32,c33,l34,A36,c37,l38,A40,c41,l42,F43,hkq,E,A,S,g35,g39,g1_0,H⟩
 obtain _ | k46:=kq45
 ·
  exact zz H
 rw [qBD.l44_s]at H
 obtain ⟨J,E⟩:=E.at A
 refine rr E fun a E=>(sq fun K49 hK49=>?_)
 refine E.ik 12 H (fun c50 E H=>?_) fun c50 E H=>?_
 ·
  refine wp_skip (hK49 _ _ (sq fun K51 hK51=>wp_block (sq fun K52 hK52=>pl0 ?_)))
  obtain ⟨c53,H⟩:=gd H
  have hE_:=E
  obtain ⟨ad54,rfl⟩:=g1_0.addr c53.1 c53.2
  replace E:=hE_
  obtain ⟨cs56,⟨A58,c59,rfl,g60⟩,hc57⟩:=g1_0.el qK.z x27 c53.1 c53.2
  refine plc E (.x 0 c53<|.cs 1 (S.fcs hc57)<|.nil) (fun a E=>ple E (.al (t:=40) S [iv 0,iv 0,iv 0,iv 0,iv 0,iv 0,.slice none 0 0]) ?_)
  rintro _ u62 a ⟨b61,rfl,hb61,S,hg⟩ E
  refine ple E (.sto S [iv ((nth qK.z y x27).f0),iv ((nth qK.z y x27).f1),iv ((nth qK.z y x27).f2),iv ((nth qK.z y x27).f3),iv ((nth qK.z y x27).f4),iv ((nth qK.z y x27).f5),.slice A58 (((nth qK.z y x27).f6).length) c59]) ?_
  rintro _ u63 a ⟨rfl,hb61,S,hz⟩ E
  refine pld (hK52 _ _ (pl0 ?_))
  have hb2:=S.ba 1
  refine plc E (.bn 0 0 7 hb2<|.bn 1 0 7 hb61<|.nil) (fun a E=>?_)
  replace S:=S.front 3 rfl
  obtain ⟨F64,hs,g65,S⟩:=S.give
  replace g1_0:=g1_0.mono hs
  replace g60:=g60.mono hs
  replace g35:=g35.mono hs
  replace g39:=g39.mono hs
  obtain ⟨t67,h68,H⟩:=bd H
  refine ple E (.cl en31 (qAx.calls k46 (⟨x28,x29,x30,x31,l34,l38,l42⟩:qE) (nth qK.z y x27) _ _ _ _ _ _ _ _ _ _ _ S.own.sub g35 g39 g65 g60 h68)) ?_
  rintro _ u66 a ⟨F69,A70,c71,A73,c74,A76,c77,rfl,hC,g72,g75⟩ E
  have hs:=hC.sub
  replace S:=S.called (X:=[]) hC
  replace g1_0:=g1_0.mono hs
  replace g60:=g60.mono hs
  replace g35:=g35.mono hs
  replace g39:=g39.mono hs
  replace g65:=g65.mono hs
  replace S:=S.front 2 rfl
  refine ple E (.sto S [iv t67.f0,iv t67.f1,iv t67.f2,iv t67.f3,.slice A70 t67.f4.length c71,.slice A73 t67.f5.length c74,.slice A76 t67.f6.length c77]) ?_
  rintro _ u80 a ⟨rfl,hb2,S,hz⟩ E
  refine pld ?_
  refine qCJ ?_
  refine hK51 _ _ (pl0 (plc E (.r 0 2 .nil) (fun a E=>pld ?_)))
  replace S:=S.pm [0,3,1] 4
  exact qCK ⟨k46,by omega,_,(w64 (x27+1)),t67.f0,t67.f1,t67.f2,t67.f3,A70,c71,t67.f4,A73,c74,t67.f5,A76,c77,t67.f6,F69,by omega,E,.of,S,g72,g75,g1_0,H⟩
 refine wp_exit ?_
 refine hK24 _ _ (sq fun K85 hK85=>sq fun K86 hK86=>pl0 ?_)
 have hb2:=S.ba 0
 refine plc E (.bn 0 0 7 hb2 .nil) (fun a E=>?_)
 obtain ⟨t88,h89,H⟩:=bd H
 refine ple E (.cl en32 (qAH.calls k46 (⟨x28,x29,x30,x31,l34,l38,l42⟩:qE) _ _ _ _ _ _ _ _ _ (Sub.refl _) (g35.mono S.own.sub) (g39.mono S.own.sub) (S.rd_at (i:=2) rfl) h89)) ?_
 rintro _ u87 a ⟨_,rfl,hC⟩ E
 replace S:=S.lent hC
 refine plc E (.r 2 1 .nil) (fun a E=>pld (hK86 _ _ ?_))
 refine E.ikn 21 H (fun c90 E H=>?_) fun c90 E H=>?_
 ·
  refine wp_skip (hK85 _ _ (sq fun K94 hK94=>pl0 ?_))
  have hb2:=S.ba 0
  refine plc E (.bn 0 0 7 hb2 .nil) (fun a E=>?_)
  replace S:=S.front 1 rfl
  refine ple E (.sto S [iv x28,iv x29,iv x30,iv x31,.slice A32 l34.length c33,.slice A36 l38.length c37,.slice A40 l42.length c41]) ?_
  rintro _ u95 a ⟨rfl,hb4,S,hz⟩ E
  refine pld (hK94 _ _ (wp_ret ?_))
  replace S:=S.pm [] 2
  obtain rfl:=si H
  exact ret1 E rfl (.cell (by kernel_rfl) (qCL [iv x28,iv x29,iv x30,iv x31,.slice A32 l34.length c33,.slice A36 l38.length c37,.slice A40 l42.length c41] ag26 sz26 hb4 rfl) .nil) ⟨_,rfl,_,_,_,_,_,_,_,rfl,S,g35,g39⟩
 refine sq fun K91 hK91=>pl0 (plc E (.r 0 1 .nil) (fun a E=>?_))
 replace S:=S.front 1 rfl
 refine ple E (.sto S [iv 0,iv 0,iv 0,iv 0,.slice none 0 0,.slice none 0 0,.slice none 0 0]) ?_
 rintro _ u92 a ⟨rfl,hb4,S,hz⟩ E
 refine pld (hK91 _ _ (wp_ret (qCH ?_)))
 replace S:=S.nilrow qC.k 49
 replace S:=S.pm [0] 4
 obtain rfl:=si H
 exact ret1 E rfl (.cell (by kernel_rfl) (qCL [iv 0,iv 0,iv 0,iv 0,.slice none 0 0,.slice none 0 0,.slice none 0 0] ag26 sz26 hb4 rfl) .nil) ⟨_,rfl,_,_,_,_,_,_,_,rfl,S,(Rd.nil _ _),(Rd.nil _ _)⟩
def qAL.l7:Nat→qE→Int→Int→Option (List Int)
 | 0,_,_,_=>none
 | k+1,x,y,x6=>if x6<(x.f5.length:Int) then (if 0≤x6∧x6<(x.f5.length:Int) then (if (nth qD.z x.f5 x6).f0=y then (some ((nth qD.z x.f5 x6).f1)) else (qAL.l7 k x y (w64 (x6+1)))) else (none)) else (some [])
theorem qAL.l7_s k x y x6:type_of% (qAL.l7.eq_2 x y x6 k):=qAL.l7.eq_2 x y x6 k
def qAL.f(k:Nat)(x:qE)(y:Int):Option (List Int):=qAL.l7 k x y 0
def qAL.Post(W F:World)(r:List Int)(v:Value)(w':World):Prop:=∃(F':World)(RA0_0:OA)(rc0_0:Nat),v = .slice RA0_0 r.length rc0_0∧Sm W F w' F' []∧Rd ki F' RA0_0 rc0_0 r
theorem qAL.calls(k:Nat)(x:qE)(y:Int)(A0_4:OA)(c0_4:Nat)(A0_5:OA)(c0_5:Nat)(A0_6:OA)(c0_6:Nat)(r:List Int)(W F:World)(hown:Sub F W)(g0_4:Rd qA.k F A0_4 c0_4 x.f4)(g0_5:Rd qD.k F A0_5 c0_5 x.f5)(g0_6:Rd qC.k F A0_6 c0_6 x.f6)(H:qAL.f k x y=some r):
    Cr 72 #[.agg #[iv x.f0,iv x.f1,iv x.f2,iv x.f3,.slice A0_4 x.f4.length c0_4,.slice A0_5 x.f5.length c0_5,.slice A0_6 x.f6.length c0_6],iv y] W (qAL.Post W F r):=by
 have S:=St.start (Own.nil hown)
 unfold qAL.f at H
 refine ent 27 rfl rfl rfl (fun a E=>?_)
 refine sq fun K1 hK1=>pl0 (ple E (.bx (t:=26) S [iv x.f0,iv x.f1,iv x.f2,iv x.f3,.slice A0_4 x.f4.length c0_4,.slice A0_5 x.f5.length c0_5,.slice A0_6 x.f6.length c0_6]) ?_)
 rintro _ u3 a ⟨b2,rfl,hb2,S,hg⟩ E
 refine plc E (.r 1 1 .nil) (fun a E=>pld (hK1 _ _ (sq fun K4 hK4=>rr E fun a E=>(wp_block ?_))))
 refine wp_loop_ghost (fun kq8 a w'=>∃(G:NV)(x6:Int),kq8≤k∧Env 27 G a∧At G [(1,iv y),(2,.pointer (pb b2)),(5,iv x6)]∧Sm W F w' F [box b2 #[iv x.f0,iv x.f1,iv x.f2,iv x.f3,.slice A0_4 x.f4.length c0_4,.slice A0_5 x.f5.length c0_5,.slice A0_6 x.f6.length c0_6] 26]∧qAL.l7 kq8 x y x6=some r) k ⟨_,0,Nat.le_refl _,E,.of,S,H⟩ ?_
 rintro kq8 a u10 ⟨G,x6,hkq,E,A,S,H⟩
 obtain _ | k9:=kq8
 ·
  exact zz H
 rw [qAL.l7_s]at H
 obtain ⟨J,E⟩:=E.at A
 refine sq fun K11 hK11=>sq fun K12 hK12=>pl0 ?_
 have hb2:=S.ba 0
 refine plc E (.r 0 2<|.b 2 5 hb2<|.r 3 2<|.nil) (fun a E=>pld (hK12 _ _ ?_))
 refine E.ik 10 H (fun c13 E H=>?_) fun c13 E H=>?_
 ·
  refine wp_skip (hK11 _ _ (sq fun K14 hK14=>wp_block (sq fun K15 hK15=>pl0 ?_)))
  obtain ⟨c16,H⟩:=gd H
  have hE_:=E
  obtain ⟨ad17,rfl⟩:=g0_5.addr c16.1 c16.2
  replace E:=hE_
  obtain ⟨cs19,⟨A21,c22,rfl,g23⟩,hc20⟩:=g0_5.el qD.z x6 c16.1 c16.2
  refine plc E (.r 0 1<|.b 1 5 hb2<|.r 2 1<|.x 3 c16<|.r 4 1<|.c 5 (S.fc hc20 0)<|.r 6 2<|.nil) (fun a E=>pld (hK15 _ _ ?_))
  refine E.ik 20 H (fun c24 E H=>?_) fun c24 E H=>?_
  ·
   refine rg E (.r 0 1<|.b 1 5 hb2<|.r 2 1<|.x 3 c16<|.r 4 1<|.c 5 (S.fc hc20 1)<|.r 6 1<|.nil) fun a E=>(wp_ret (qCI (qCH (qCH (qCI (qCH ?_))))))
   replace S:=S.tail
   obtain rfl:=si H
   exact rt1 E ⟨_,rfl,_,_,_,rfl,S,g23⟩
  refine wp_skip ?_
  refine qCJ ?_
  refine hK14 _ _ (pl0 (plc E (.r 0 3 .nil) (fun a E=>pld ?_)))
  exact qCK ⟨k9,by omega,_,(w64 (x6+1)),by omega,E,.of,S,H⟩
 refine wp_exit ?_
 refine hK4 _ _ (rr E fun a E=>(wp_ret ?_))
 replace S:=S.tail
 obtain rfl:=si H
 exact rt1 E ⟨_,rfl,_,_,_,rfl,S,(Rd.nil _ _)⟩
def qAw.f(x:qA):Option Int:=if x.f5=true then (some x.f3) else (some 0)
def qAw.Post(W F:World)(r:Int)(v:Value)(w':World):Prop:=∃(F':World),v=iv r∧Sm W F w' F' []
theorem qAw.calls(x:qA)(r:Int)(W F:World)(hown:Sub F W)(H:qAw.f x=some r):
    Cr 205 #[.agg #[iv x.f0,iv x.f1,iv x.f2,iv x.f3,.bool x.f4,.bool x.f5]] W (qAw.Post W F r):=by
 have S:=St.start (Own.nil hown)
 unfold qAw.f at H
 refine ent 7 rfl rfl rfl (fun a E=>?_)
 refine sq fun K1 hK1=>pl0 (ple E (.bx (t:=104) S [iv x.f0,iv x.f1,iv x.f2,iv x.f3,.bool x.f4,.bool x.f5]) ?_)
 rintro _ u3 a ⟨b2,rfl,hb2,S,hg⟩ E
 refine plc E (.r 1 1 .nil) (fun a E=>pld (hK1 _ _ (sq fun K4 hK4=>rg E (.r 0 1<|.b 1 5 hb2<|.nil) fun a E=>?_)))
 refine E.ib 4 H (fun c6 E H=>?_) fun c6 E H=>?_
 ·
  refine rg E (.r 0 1<|.b 1 3 hb2<|.r 2 1<|.nil) fun a E=>(wp_ret (qCH ?_))
  replace S:=S.tail
  obtain rfl:=si H
  exact rt1 E ⟨_,rfl,_,rfl,S⟩
 refine wp_skip (hK4 _ _ (rr E fun a E=>(wp_ret ?_)))
 replace S:=S.tail
 obtain rfl:=si H
 exact rt1 E ⟨_,rfl,_,rfl,S⟩
mutual
def qq.l14:Nat→List qA→Int→Int→List qB→Int→Option (List qB)
 | 0,_,_,_,_,_=>none
 | k+1,x,y,z,l12,x13=>if x13<(x.length:Int) then (if y=0 then (if z=0 then (qq.j41 k x y z l12 x13 true) else (if 0≤x13∧x13<(x.length:Int) then (qq.j41 k x y z l12 x13 ((nth qA.z x x13).f2 == z)) else (none))) else (if 0≤x13∧x13<(x.length:Int) then (if (nth qA.z x x13).f1=y then (if z=0 then (qq.j41 k x y z l12 x13 true) else (qq.j41 k x y z l12 x13 ((nth qA.z x x13).f2 == z))) else (qq.j41 k x y z l12 x13 false)) else (none))) else (some l12)
def qq.j41:Nat→List qA→Int→Int→List qB→Int→Bool→Option (List qB)
 | 0,_,_,_,_,_,_=>none
 | k+1,x,y,z,l12,x13,y40=>if y40=true then (if 0≤x13∧x13<(x.length:Int) then ((qAw.f (nth qA.z x x13)).bind fun t56=>(if ((l12.length:Int)+((1:Nat):Int)) * 16≤140737488355328 then (qq.l14 k x y z (l12++[(⟨(nth qA.z x x13).f0,t56⟩:qB)]) (w64 (x13+1))) else (none))) else (none)) else (qq.l14 k x y z l12 (w64 (x13+1)))
end
theorem qq.l14_s k x y z l12 x13:type_of% (qq.l14.eq_2 x y z l12 x13 k):=qq.l14.eq_2 x y z l12 x13 k
theorem qq.j41_s k x y z l12 x13 y40:type_of% (qq.j41.eq_2 x y z l12 x13 y40 k):=qq.j41.eq_2 x y z l12 x13 y40 k
def qq.f(k:Nat)(x:List qA)(y:Int)(z:Int):Option (List qB):=qq.l14 k x y z ([]:List qB) 0
def qq.Post(W F:World)(r:List qB)(v:Value)(w':World):Prop:=∃(F':World)(RA0_0:OA)(rc0_0:Nat),v = .slice RA0_0 r.length rc0_0∧Sm W F w' F' [row qB.k 216 (.slice RA0_0 r.length rc0_0) r]
theorem qq.calls(k:Nat)(x:List qA)(y:Int)(z:Int)(A0_0:OA)(c0_0:Nat)(r:List qB)(W F:World)(hown:Sub F W)(g0_0:Rd qA.k F A0_0 c0_0 x)(H:qq.f k x y z=some r):
    Cr 168 #[.slice A0_0 x.length c0_0,iv y,iv z] W (qq.Post W F r):=by
 have S:=St.start (Own.nil hown)
 unfold qq.f at H
 refine ent 55 rfl rfl rfl (fun a E=>?_)
 refine rr E fun a E=>(sq fun K2 hK2=>pl0 (ple E (.lit (d:=qB.k) (e:=216) S ([]:List qB) (.nil)) ?_))
 rintro _ u3 a ⟨A4,c5,rfl,S,hg⟩ E
 refine plc E (.r 1 1 .nil) (fun a E=>pld (hK2 _ _ (sq fun K7 hK7=>rr E fun a E=>(wp_block ?_))))
 refine wp_loop_ghost (fun kq15 a w'=>∃(G:NV)(A10:OA)(c11:Nat)(l12:List qB)(x13:Int),kq15≤k∧Env 55 G a∧At G [(0,.slice A0_0 x.length c0_0),(1,iv y),(2,iv z),(7,.slice A10 l12.length c11),(8,iv x13)]∧Sm W F w' F [row qB.k 216 (.slice A10 l12.length c11) l12]∧qq.l14 kq15 x y z l12 x13=some r) k ⟨_,A4,c5,([]:List qB),0,Nat.le_refl _,E,.of,S,H⟩ ?_
 rintro kq15 a u17 ⟨G,A10,c11,l12,x13,hkq,E,A,S,H⟩
 obtain _ | k16:=kq15
 ·
  exact zz H
 rw [qq.l14_s]at H
 obtain ⟨J,E⟩:=E.at A
 refine sq fun K18 hK18=>rr E fun a E=>?_
 refine E.ik 13 H (fun c20 E H=>?_) fun c20 E H=>?_
 ·
  refine wp_skip (hK18 _ _ (sq fun K21 hK21=>wp_block (sq fun K22 hK22=>?_)))
  have J44:∀ kq42,kq42≤k16→∀(G:NV)(y40:Bool)(a:Act)(w':World),Env 55 G a→At G [(0,.slice A0_0 x.length c0_0),(1,iv y),(2,iv z),(7,.slice A10 l12.length c11),(8,iv x13),(39,.bool y40)]→Sm W F w' F [row qB.k 216 (.slice A10 l12.length c11) l12]→qq.j41 kq42 x y z l12 x13 y40=some r→K22 a w':=by
   intro kq42 hkq G y40 a u45 E A S H
   obtain _ | k43:=kq42
   ·
    exact zz H
   rw [qq.j41_s]at H
   obtain ⟨J,E⟩:=E.at A
   refine hK22 _ _ ?_
   refine E.ib 39 H (fun c46 E H=>?_) fun c46 E H=>?_
   ·
    refine drawn 15 ⟨[13],[],fun q=>False⟩ mixed rfl (by kernel_rfl) (fun hst=>?_)
    replace S:=S.drew
    obtain ⟨c47,H⟩:=gd H
    have hE_:=E
    obtain ⟨ad48,rfl⟩:=g0_0.addr c47.1 c47.2
    replace E:=hE_
    obtain ⟨cs50,rfl,hc51⟩:=g0_0.el qA.z x13 c47.1 c47.2
    refine mny 5 hst E (.r 0 3<|.x 3 c47<|.r 4 1<|.c 5 (S.fc hc51 0)<|.r 6 2<|.x 8 c47<|.cs 9 (S.fcs hc51)<|.nil) (fun a E=>?_)
    obtain ⟨t56,h57,H⟩:=bd H
    refine on1 10 E (.cl en205 (qAw.calls (nth qA.z x x13) _ _ _ S.own.sub h57)) ?_
    rintro _ u55 a ⟨_,rfl,hC⟩ E
    refine ⟨.of hC.agr,?_⟩
    replace S:=S.lent hC
    refine mny 3 hst E (.r 11 1 .nil) (fun a E=>?_)
    refine on1 12 E (.lit (d:=qB.k) (e:=216) S [(⟨(nth qA.z x x13).f0,t56⟩:qB)] (.cons rfl .nil)) ?_
    rintro _ u58 a ⟨A59,c60,rfl,S,hg⟩ E
    refine ⟨.of hg,?_⟩
    obtain ⟨c62,H⟩:=gd H
    replace S:=S.front 1 rfl
    refine on1 13 E (.ap (d:=qB.k) 16 S (qCT (S.row_at (i:=1) rfl)) c62 c60) ?_
    rintro _ u65 a ⟨A63,c64,rfl,S,hz⟩ E
    refine ⟨.d,?_⟩
    refine mny 0 hst E (.r 14 1 .nil) (fun a E=>?_)
    refine dn ?_
    refine qCJ ?_
    refine hK21 _ _ (pl0 (plc E (.r 0 3 .nil) (fun a E=>pld ?_)))
    replace S:=S.pm [0] 2
    exact qCK ⟨k43,by omega,_,A63,c64,(l12++[(⟨(nth qA.z x x13).f0,t56⟩:qB)]),(w64 (x13+1)),by omega,E,.of,S,H⟩
   refine wp_skip ?_
   refine qCJ ?_
   refine hK21 _ _ (pl0 (plc E (.r 0 3 .nil) (fun a E=>pld ?_)))
   exact qCK ⟨k43,by omega,_,A10,c11,l12,(w64 (x13+1)),by omega,E,.of,S,H⟩
  refine pl0 (plc E (.r 0 3 .nil) (fun a E=>?_))
  rcases sp H with ⟨c23,H⟩ | ⟨c23,H⟩
  ·
   replace E:=E.kt 18 c23
   refine plc E (.r 3 12 .nil) (fun a E=>?_)
   rcases sp H with ⟨c24,H⟩ | ⟨c24,H⟩
   ·
    replace E:=E.kt 30 c24
    refine plc E (.r 15 9 .nil) (fun a E=>pld ?_)
    exact J44 _ (by omega) _ true _ _ E .of S H
   replace E:=E.kf 30 c24
   obtain ⟨c25,H⟩:=gd H
   have hE_:=E
   obtain ⟨ad26,rfl⟩:=g0_0.addr c25.1 c25.2
   replace E:=hE_
   obtain ⟨cs28,rfl,hc29⟩:=g0_0.el qA.z x13 c25.1 c25.2
   refine plc E (.r 15 2<|.x 17 c25<|.r 18 1<|.c 19 (S.fc hc29 2)<|.r 20 4<|.nil) (fun a E=>pld ?_)
   exact J44 _ (by omega) _ ((nth qA.z x x13).f2 == z) _ _ E .of S H
  replace E:=E.kf 18 c23
  obtain ⟨c30,H⟩:=gd H
  have hE_:=E
  obtain ⟨ad31,rfl⟩:=g0_0.addr c30.1 c30.2
  replace E:=hE_
  obtain ⟨cs33,rfl,hc34⟩:=g0_0.el qA.z x13 c30.1 c30.2
  refine plc E (.r 3 2<|.x 5 c30<|.r 6 1<|.c 7 (S.fc hc34 1)<|.r 8 4<|.nil) (fun a E=>?_)
  rcases sp H with ⟨c35,H⟩ | ⟨c35,H⟩
  ·
   replace E:=E.kt 27 c35
   refine plc E (.r 12 3 .nil) (fun a E=>?_)
   rcases sp H with ⟨c36,H⟩ | ⟨c36,H⟩
   ·
    replace E:=E.kt 30 c36
    refine plc E (.r 15 9 .nil) (fun a E=>pld ?_)
    exact J44 _ (by omega) _ true _ _ E .of S H
   replace E:=E.kf 30 c36
   refine plc E (.r 15 2<|.x 17 c30<|.r 18 1<|.c 19 (S.fc hc34 2)<|.r 20 4<|.nil) (fun a E=>pld ?_)
   exact J44 _ (by omega) _ ((nth qA.z x x13).f2 == z) _ _ E .of S H
  replace E:=E.kf 27 c35
  refine plc E (.r 12 12 .nil) (fun a E=>pld ?_)
  exact J44 _ (by omega) _ false _ _ E .of S H
 refine wp_exit ?_
 refine hK7 _ _ (rr E fun a E=>(wp_ret ?_))
 obtain rfl:=si H
 exact rt1 E ⟨_,rfl,_,_,_,rfl,S⟩
mutual
def qm.l14:Nat→List qA→List Int→List qB→Int→Option (List qB)
 | 0,_,_,_,_=>none
 | k+1,x,y,l12,x13=>if x13≤999 then (qm.l29 k x y l12 x13 0 false 0) else (some l12)
def qm.l29:Nat→List qA→List Int→List qB→Int→Int→Bool→Int→Option (List qB)
 | 0,_,_,_,_,_,_,_=>none
 | k+1,x,y,l12,x13,x26,y27,x28=>if x28<(x.length:Int) then (if 0≤x28∧x28<(y.length:Int) then (if (nth 0 y x28)=x13 then (if 0≤x28∧x28<(x.length:Int) then ((qAw.f (nth qA.z x x28)).bind fun t51=>(qm.l29 k x y l12 x13 (w64 (x26+t51)) true (w64 (x28+1)))) else (none)) else (qm.l29 k x y l12 x13 x26 y27 (w64 (x28+1)))) else (none)) else (if x26>65536 then (qm.j57 k x y l12 x13 y27 65536) else (qm.j57 k x y l12 x13 y27 x26))
def qm.j57:Nat→List qA→List Int→List qB→Int→Bool→Int→Option (List qB)
 | 0,_,_,_,_,_,_=>none
 | k+1,x,y,l12,x13,y27,x56=>if y27=true then (if ((l12.length:Int)+((1:Nat):Int)) * 16≤140737488355328 then (qm.l14 k x y (l12++[(⟨x13,x56⟩:qB)]) (w64 (x13+1))) else (none)) else (qm.l14 k x y l12 (w64 (x13+1)))
end
theorem qm.l14_s k x y l12 x13:type_of% (qm.l14.eq_2 x y l12 x13 k):=qm.l14.eq_2 x y l12 x13 k
theorem qm.l29_s k x y l12 x13 x26 y27 x28:type_of% (qm.l29.eq_2 x y l12 x13 x26 y27 x28 k):=qm.l29.eq_2 x y l12 x13 x26 y27 x28 k
theorem qm.j57_s k x y l12 x13 y27 x56:type_of% (qm.j57.eq_2 x y l12 x13 y27 x56 k):=qm.j57.eq_2 x y l12 x13 y27 x56 k
def qm.f(k:Nat)(x:List qA)(y:List Int):Option (List qB):=qm.l14 k x y ([]:List qB) 1
def qm.Post(W F:World)(r:List qB)(v:Value)(w':World):Prop:=∃(F':World)(RA0_0:OA)(rc0_0:Nat),v = .slice RA0_0 r.length rc0_0∧Sm W F w' F' [row qB.k 216 (.slice RA0_0 r.length rc0_0) r]
theorem qm.calls(k:Nat)(x:List qA)(y:List Int)(A0_0:OA)(c0_0:Nat)(A1_0:OA)(c1_0:Nat)(r:List qB)(W F:World)(hown:Sub F W)(g0_0:Rd qA.k F A0_0 c0_0 x)(g1_0:Rd ki F A1_0 c1_0 y)(H:qm.f k x y=some r):
    Cr 206 #[.slice A0_0 x.length c0_0,.slice A1_0 y.length c1_0] W (qm.Post W F r):=by
 have S:=St.start (Own.nil hown)
 unfold qm.f at H
 refine ent 44 rfl rfl rfl (fun a E=>?_)
 refine rr E fun a E=>(sq fun K2 hK2=>pl0 (ple E (.lit (d:=qB.k) (e:=216) S ([]:List qB) (.nil)) ?_))
 rintro _ u3 a ⟨A4,c5,rfl,S,hg⟩ E
 refine plc E (.r 1 1 .nil) (fun a E=>pld (hK2 _ _ (sq fun K7 hK7=>rr E fun a E=>(wp_block ?_))))
 refine wp_loop_ghost (fun kq15 a w'=>∃(G:NV)(A10:OA)(c11:Nat)(l12:List qB)(x13:Int),kq15≤k∧Env 44 G a∧At G [(0,.slice A0_0 x.length c0_0),(1,.slice A1_0 y.length c1_0),(5,.slice A10 l12.length c11),(6,iv x13)]∧Sm W F w' F [row qB.k 216 (.slice A10 l12.length c11) l12]∧qm.l14 kq15 x y l12 x13=some r) k ⟨_,A4,c5,([]:List qB),1,Nat.le_refl _,E,.of,S,H⟩ ?_
 rintro kq15 a u17 ⟨G,A10,c11,l12,x13,hkq,E,A,S,H⟩
 obtain _ | k16:=kq15
 ·
  exact zz H
 rw [qm.l14_s]at H
 obtain ⟨J,E⟩:=E.at A
 refine sq fun K18 hK18=>rr E fun a E=>?_
 refine E.ik 12 H (fun c20 E H=>?_) fun c20 E H=>?_
 ·
  refine wp_skip (hK18 _ _ (sq fun K21 hK21=>wp_block (rr E fun a E=>(rr E fun a E=>(sq fun K24 hK24=>rr E fun a E=>(wp_block ?_))))))
  refine wp_loop_ghost (fun kq30 a w'=>∃(G:NV)(x26:Int)(y27:Bool)(x28:Int),kq30≤k16∧Env 44 G a∧At G [(0,.slice A0_0 x.length c0_0),(1,.slice A1_0 y.length c1_0),(5,.slice A10 l12.length c11),(6,iv x13),(7,iv x26),(8,.bool y27),(9,iv x28)]∧Sm W F w' F [row qB.k 216 (.slice A10 l12.length c11) l12]∧qm.l29 kq30 x y l12 x13 x26 y27 x28=some r) k16 ⟨_,0,false,0,Nat.le_refl _,E,.of,S,H⟩ ?_
  rintro kq30 a u32 ⟨G,x26,y27,x28,hkq,E,A,S,H⟩
  obtain _ | k31:=kq30
  ·
   exact zz H
  rw [qm.l29_s]at H
  obtain ⟨J,E⟩:=E.at A
  refine sq fun K33 hK33=>rr E fun a E=>?_
  refine E.ik 18 H (fun c35 E H=>?_) fun c35 E H=>?_
  ·
   refine wp_skip (hK33 _ _ (sq fun K36 hK36=>wp_block (sq fun K37 hK37=>pl0 ?_)))
   obtain ⟨c38,H⟩:=gd H
   have hE_:=E
   obtain ⟨ad39,rfl⟩:=g1_0.addr c38.1 c38.2
   replace E:=hE_
   obtain ⟨cs41,rfl,hc42⟩:=g1_0.el 0 x28 c38.1 c38.2
   refine plc E (.r 0 2<|.x 2 c38<|.c 3 (S.fc hc42 0)<|.r 4 2<|.nil) (fun a E=>pld (hK37 _ _ ?_))
   refine E.ik 26 H (fun c43 E H=>?_) fun c43 E H=>?_
   ·
    refine sq fun K44 hK44=>pl0 ?_
    obtain ⟨c45,H⟩:=gd H
    have hE_:=E
    obtain ⟨ad46,rfl⟩:=g0_0.addr c45.1 c45.2
    replace E:=hE_
    obtain ⟨cs48,rfl,hc49⟩:=g0_0.el qA.z x28 c45.1 c45.2
    refine plc E (.r 0 3<|.x 3 c45<|.cs 4 (S.fcs hc49)<|.nil) (fun a E=>?_)
    obtain ⟨t51,h52,H⟩:=bd H
    refine ple E (.cl en205 (qAw.calls (nth qA.z x x28) _ _ _ S.own.sub h52)) ?_
    rintro _ u50 a ⟨_,rfl,hC⟩ E
    replace S:=S.lent hC
    refine plc E (.r 6 2 .nil) (fun a E=>pld (hK44 _ _ (pl0 (plc E (.r 0 1 .nil) (fun a E=>pld ?_)))))
    refine qCJ ?_
    refine hK36 _ _ (pl0 (plc E (.r 0 3 .nil) (fun a E=>pld ?_)))
    exact qCK ⟨k31,by omega,_,(w64 (x26+t51)),true,(w64 (x28+1)),by omega,E,.of,S,H⟩
   refine wp_skip ?_
   refine qCJ ?_
   refine hK36 _ _ (pl0 (plc E (.r 0 3 .nil) (fun a E=>pld ?_)))
   exact qCK ⟨k31,by omega,_,x26,y27,(w64 (x28+1)),by omega,E,.of,S,H⟩
  refine wp_exit ?_
  refine hK24 _ _ (sq fun K53 hK53=>?_)
  have J60:∀ kq58,kq58≤k31→∀(G:NV)(x56:Int)(a:Act)(w':World),Env 44 G a→At G [(0,.slice A0_0 x.length c0_0),(1,.slice A1_0 y.length c1_0),(5,.slice A10 l12.length c11),(6,iv x13),(7,iv x56),(8,.bool y27)]→Sm W F w' F [row qB.k 216 (.slice A10 l12.length c11) l12]→qm.j57 kq58 x y l12 x13 y27 x56=some r→K53 a w':=by
   intro kq58 hkq G x56 a u61 E A S H
   obtain _ | k59:=kq58
   ·
    exact zz H
   rw [qm.j57_s]at H
   obtain ⟨J,E⟩:=E.at A
   refine hK53 _ _ (rr E fun a E=>?_)
   refine E.ib 36 H (fun c63 E H=>?_) fun c63 E H=>?_
   ·
    refine pl0 (plc E (.r 0 4 .nil) (fun a E=>ple E (.lit (d:=qB.k) (e:=216) S [(⟨x13,x56⟩:qB)] (.cons rfl .nil)) ?_))
    rintro _ u64 a ⟨A65,c66,rfl,S,hg⟩ E
    obtain ⟨c68,H⟩:=gd H
    replace S:=S.front 1 rfl
    refine ple E (.ap (d:=qB.k) 16 S (qCT (S.row_at (i:=1) rfl)) c68 c66) ?_
    rintro _ u71 a ⟨A69,c70,rfl,S,hz⟩ E
    refine plc E (.r 6 1 .nil) (fun a E=>pld ?_)
    refine qCJ ?_
    refine hK21 _ _ (pl0 (plc E (.r 0 3 .nil) (fun a E=>pld ?_)))
    replace S:=S.pm [0] 2
    exact qCK ⟨k59,by omega,_,A69,c70,(l12++[(⟨x13,x56⟩:qB)]),(w64 (x13+1)),by omega,E,.of,S,H⟩
   refine wp_skip ?_
   refine qCJ ?_
   refine hK21 _ _ (pl0 (plc E (.r 0 3 .nil) (fun a E=>pld ?_)))
   exact qCK ⟨k59,by omega,_,A10,c11,l12,(w64 (x13+1)),by omega,E,.of,S,H⟩
  refine rr E fun a E=>?_
  refine E.ik 35 H (fun c55 E H=>?_) fun c55 E H=>?_
  ·
   refine pl0 (plc E (.r 0 1 .nil) (fun a E=>pld ?_))
   exact J60 _ (by omega) _ 65536 _ _ E .of S H
  refine wp_skip ?_
  exact J60 _ (by omega) _ x26 _ _ E .of S H
 refine wp_exit ?_
 refine hK7 _ _ (rr E fun a E=>(wp_ret ?_))
 obtain rfl:=si H
 exact rt1 E ⟨_,rfl,_,_,_,rfl,S⟩
def qAX.l12:Nat→List qA→List Int→Int→Option (List qB)
 | 0,_,_,_=>none
 | k+1,x,l10,x11=>if x11<(x.length:Int) then (if 0≤x11∧x11<(x.length:Int) then (if 0≤x11∧x11<((List.replicate ((x.length:Int)).toNat (0:Int)).length:Int) then (qAX.l12 k x (l10.set (x11).toNat ((nth qA.z x x11).f1)) (w64 (x11+1))) else (none)) else (none)) else ((qm.f k x l10).bind fun t40=>(some t40))
theorem qAX.l12_s k x l10 x11:type_of% (qAX.l12.eq_2 x l10 x11 k):=qAX.l12.eq_2 x l10 x11 k
def qAX.f(k:Nat)(x:List qA):Option (List qB):=if 0≤(x.length:Int)∧(x.length:Int) * 8≤140737488355328 then (qAX.l12 k x (List.replicate ((x.length:Int)).toNat (0:Int)) 0) else (none)
def qAX.Post(W F:World)(r:List qB)(v:Value)(w':World):Prop:=∃(F':World)(RA0_0:OA)(rc0_0:Nat),v = .slice RA0_0 r.length rc0_0∧Sm W F w' F' [row qB.k 216 (.slice RA0_0 r.length rc0_0) r]
theorem qAX.calls(k:Nat)(x:List qA)(A0_0:OA)(c0_0:Nat)(r:List qB)(W F:World)(hown:Sub F W)(g0_0:Rd qA.k F A0_0 c0_0 x)(H:qAX.f k x=some r):
    Cr 169 #[.slice A0_0 x.length c0_0] W (qAX.Post W F r):=by
 have S:=St.start (Own.nil hown)
 unfold qAX.f at H
 refine ent 25 rfl rfl rfl (fun a E=>?_)
 refine rr E fun a E=>(sq fun K2 hK2=>pl0 (plc E (.r 0 2 .nil) (fun a E=>?_)))
 obtain ⟨c3,H⟩:=gd H
 refine ple E (.mk (d:=ki) (e:=3) 8 0 S c3 (by rw [zr3]; exact rfl)) ?_
 rintro _ u6 a ⟨A4,c5,rfl,S,hg⟩ E
 refine plc E (.r 3 1 .nil) (fun a E=>pld (hK2 _ _ (sq fun K8 hK8=>rr E fun a E=>(wp_block ?_))))
 refine wp_loop_ghost (fun kq13 a w'=>∃(G:NV)(l10:List Int)(x11:Int),kq13≤k∧Env 25 G a∧At G [(0,.slice A0_0 x.length c0_0),(3,.slice A4 ((List.replicate ((x.length:Int)).toNat (0:Int)).length) c5),(4,iv x11)]∧Sm W F w' F [row ki 3 (.slice A4 ((List.replicate ((x.length:Int)).toNat (0:Int)).length) c5) l10]∧qAX.l12 kq13 x l10 x11=some r) k ⟨_,(List.replicate ((x.length:Int)).toNat (0:Int)),0,Nat.le_refl _,E,.of,S,H⟩ ?_
 rintro kq13 a u15 ⟨G,l10,x11,hkq,E,A,S,H⟩
 obtain _ | k14:=kq13
 ·
  exact zz H
 rw [qAX.l12_s]at H
 obtain ⟨J,E⟩:=E.at A
 refine sq fun K16 hK16=>rr E fun a E=>?_
 refine E.ik 11 H (fun c18 E H=>?_) fun c18 E H=>?_
 ·
  refine wp_skip (hK16 _ _ (sq fun K19 hK19=>wp_block (pl0 ?_)))
  obtain ⟨c20,H⟩:=gd H
  have hE_:=E
  obtain ⟨ad21,rfl⟩:=g0_0.addr c20.1 c20.2
  replace E:=hE_
  obtain ⟨cs23,rfl,hc24⟩:=g0_0.el qA.z x11 c20.1 c20.2
  obtain ⟨c25,H⟩:=gd H
  have hr26:=S.ra 0
  have c27:0≤x11∧x11<(l10.length:Int):=by rw [← (qCM hr26).1]; exact c25
  have hE_:=E
  obtain ⟨b28,rfl⟩:=qCR hr26 c27.1 c27.2
  replace E:=hE_
  have hr_:=S.ra 0
  obtain ⟨cs30,rfl,hc31⟩:=qCN hr_ 0 x11 c27.1 c27.2
  refine plc E (.r 0 4<|.x 4 c20<|.r 5 1<|.c 6 (S.fc hc24 1)<|.x 7 c25<|.nil) (fun a E=>?_)
  obtain ⟨cs33,rfl,hc34⟩:=qCN (S.row_at (i:=0) rfl) 0 x11 c27.1 c27.2
  refine ple E (.set (d:=ki) (n:=(List.replicate ((x.length:Int)).toNat (0:Int)).length) (i:=x11) ((nth qA.z x x11).f1) (0) (ea0 _ _) S c27 [iv (nth 0 l10 x11)] hc34 [iv ((nth qA.z x x11).f1)] rfl) ?_
  rintro _ u32 a ⟨rfl,S,hz⟩ E
  refine pld ?_
  refine qCJ ?_
  refine hK19 _ _ (pl0 (plc E (.r 0 3 .nil) (fun a E=>pld ?_)))
  exact qCK ⟨k14,by omega,_,(l10.set (x11).toNat ((nth qA.z x x11).f1)),(w64 (x11+1)),by omega,E,.of,S,H⟩
 refine wp_exit ?_
 refine hK8 _ _ (sq fun K35 hK35=>pl0 (plc E (.r 0 2 .nil) (fun a E=>?_)))
 have hn36:=(qCM (S.row_at (i:=0) rfl)).1
 replace E:=E.set (d:=3) (v:=.slice A4 l10.length c5) (Eq.trans (b:=.slice A4 ((List.replicate ((x.length:Int)).toNat (0:Int)).length) c5) (by kernel_rfl) (by rw [← hn36]))
 replace E:=E.set (d:=23) (v:=.slice A4 l10.length c5) (Eq.trans (b:=.slice A4 ((List.replicate ((x.length:Int)).toNat (0:Int)).length) c5) (by kernel_rfl) (by rw [← hn36]))
 replace S:Sm W F u15 F [row ki 3 (.slice A4 l10.length c5) l10]:=by rw [← hn36]; exact S
 obtain ⟨F37,hs,g38,S⟩:=S.give
 replace g0_0:=g0_0.mono hs
 obtain ⟨t40,h41,H⟩:=bd H
 refine ple E (.cl en206 (qm.calls k14 x l10 _ _ _ _ _ _ _ S.own.sub g0_0 g38 h41)) ?_
 rintro _ u39 a ⟨F42,A43,c44,rfl,hC⟩ E
 have hs:=hC.sub
 replace S:=S.called (X:=[]) hC
 replace g0_0:=g0_0.mono hs
 replace g38:=g38.mono hs
 refine plc E (.r 3 1 .nil) (fun a E=>pld (hK35 _ _ (wp_ret ?_)))
 obtain rfl:=si H
 exact rt1 E ⟨_,rfl,_,_,_,rfl,S⟩
def qAT.l12:Nat→List qA→Int→List Int→Int→Option (List qB)
 | 0,_,_,_,_=>none
 | k+1,x,y,l10,x11=>if x11<(x.length:Int) then (if 0≤x11∧x11<(x.length:Int) then (if (nth qA.z x x11).f1=y then (if 0≤x11∧x11<((List.replicate ((x.length:Int)).toNat (0:Int)).length:Int) then (qAT.l12 k x y (l10.set (x11).toNat ((nth qA.z x x11).f2)) (w64 (x11+1))) else (none)) else (qAT.l12 k x y l10 (w64 (x11+1)))) else (none)) else ((qm.f k x l10).bind fun t45=>(some t45))
theorem qAT.l12_s k x y l10 x11:type_of% (qAT.l12.eq_2 x y l10 x11 k):=qAT.l12.eq_2 x y l10 x11 k
def qAT.f(k:Nat)(x:List qA)(y:Int):Option (List qB):=if 0≤(x.length:Int)∧(x.length:Int) * 8≤140737488355328 then (qAT.l12 k x y (List.replicate ((x.length:Int)).toNat (0:Int)) 0) else (none)
def qAT.Post(W F:World)(r:List qB)(v:Value)(w':World):Prop:=∃(F':World)(RA0_0:OA)(rc0_0:Nat),v = .slice RA0_0 r.length rc0_0∧Sm W F w' F' [row qB.k 216 (.slice RA0_0 r.length rc0_0) r]
theorem qAT.calls(k:Nat)(x:List qA)(y:Int)(A0_0:OA)(c0_0:Nat)(r:List qB)(W F:World)(hown:Sub F W)(g0_0:Rd qA.k F A0_0 c0_0 x)(H:qAT.f k x y=some r):
    Cr 170 #[.slice A0_0 x.length c0_0,iv y] W (qAT.Post W F r):=by
 have S:=St.start (Own.nil hown)
 unfold qAT.f at H
 refine ent 34 rfl rfl rfl (fun a E=>?_)
 refine rr E fun a E=>(sq fun K2 hK2=>pl0 (plc E (.r 0 2 .nil) (fun a E=>?_)))
 obtain ⟨c3,H⟩:=gd H
 refine ple E (.mk (d:=ki) (e:=3) 8 0 S c3 (by rw [zr3]; exact rfl)) ?_
 rintro _ u6 a ⟨A4,c5,rfl,S,hg⟩ E
 refine plc E (.r 3 1 .nil) (fun a E=>pld (hK2 _ _ (sq fun K8 hK8=>rr E fun a E=>(wp_block ?_))))
 refine wp_loop_ghost (fun kq13 a w'=>∃(G:NV)(l10:List Int)(x11:Int),kq13≤k∧Env 34 G a∧At G [(0,.slice A0_0 x.length c0_0),(1,iv y),(5,.slice A4 ((List.replicate ((x.length:Int)).toNat (0:Int)).length) c5),(6,iv x11)]∧Sm W F w' F [row ki 3 (.slice A4 ((List.replicate ((x.length:Int)).toNat (0:Int)).length) c5) l10]∧qAT.l12 kq13 x y l10 x11=some r) k ⟨_,(List.replicate ((x.length:Int)).toNat (0:Int)),0,Nat.le_refl _,E,.of,S,H⟩ ?_
 rintro kq13 a u15 ⟨G,l10,x11,hkq,E,A,S,H⟩
 obtain _ | k14:=kq13
 ·
  exact zz H
 rw [qAT.l12_s]at H
 obtain ⟨J,E⟩:=E.at A
 refine sq fun K16 hK16=>rr E fun a E=>?_
 refine E.ik 13 H (fun c18 E H=>?_) fun c18 E H=>?_
 ·
  refine wp_skip (hK16 _ _ (sq fun K19 hK19=>wp_block (sq fun K20 hK20=>pl0 ?_)))
  obtain ⟨c21,H⟩:=gd H
  have hE_:=E
  obtain ⟨ad22,rfl⟩:=g0_0.addr c21.1 c21.2
  replace E:=hE_
  obtain ⟨cs24,rfl,hc25⟩:=g0_0.el qA.z x11 c21.1 c21.2
  refine plc E (.r 0 2<|.x 2 c21<|.r 3 1<|.c 4 (S.fc hc25 1)<|.r 5 2<|.nil) (fun a E=>pld (hK20 _ _ ?_))
  refine E.ik 22 H (fun c26 E H=>?_) fun c26 E H=>?_
  ·
   refine pl0 ?_
   obtain ⟨c30,H⟩:=gd H
   have hr31:=S.ra 0
   have c32:0≤x11∧x11<(l10.length:Int):=by rw [← (qCM hr31).1]; exact c30
   have hE_:=E
   obtain ⟨b33,rfl⟩:=qCR hr31 c32.1 c32.2
   replace E:=hE_
   have hr_:=S.ra 0
   obtain ⟨cs35,rfl,hc36⟩:=qCN hr_ 0 x11 c32.1 c32.2
   refine plc E (.r 0 4<|.x 4 c21<|.r 5 1<|.c 6 (S.fc hc25 2)<|.x 7 c30<|.nil) (fun a E=>?_)
   obtain ⟨cs38,rfl,hc39⟩:=qCN (S.row_at (i:=0) rfl) 0 x11 c32.1 c32.2
   refine ple E (.set (d:=ki) (n:=(List.replicate ((x.length:Int)).toNat (0:Int)).length) (i:=x11) ((nth qA.z x x11).f2) (0) (ea0 _ _) S c32 [iv (nth 0 l10 x11)] hc39 [iv ((nth qA.z x x11).f2)] rfl) ?_
   rintro _ u37 a ⟨rfl,S,hz⟩ E
   refine pld ?_
   refine qCJ ?_
   refine hK19 _ _ (pl0 (plc E (.r 0 3 .nil) (fun a E=>pld ?_)))
   exact qCK ⟨k14,by omega,_,(l10.set (x11).toNat ((nth qA.z x x11).f2)),(w64 (x11+1)),by omega,E,.of,S,H⟩
  refine wp_skip ?_
  refine qCJ ?_
  refine hK19 _ _ (pl0 (plc E (.r 0 3 .nil) (fun a E=>pld ?_)))
  exact qCK ⟨k14,by omega,_,l10,(w64 (x11+1)),by omega,E,.of,S,H⟩
 refine wp_exit ?_
 refine hK8 _ _ (sq fun K40 hK40=>pl0 (plc E (.r 0 2 .nil) (fun a E=>?_)))
 have hn41:=(qCM (S.row_at (i:=0) rfl)).1
 replace E:=E.set (d:=5) (v:=.slice A4 l10.length c5) (Eq.trans (b:=.slice A4 ((List.replicate ((x.length:Int)).toNat (0:Int)).length) c5) (by kernel_rfl) (by rw [← hn41]))
 replace E:=E.set (d:=32) (v:=.slice A4 l10.length c5) (Eq.trans (b:=.slice A4 ((List.replicate ((x.length:Int)).toNat (0:Int)).length) c5) (by kernel_rfl) (by rw [← hn41]))
 replace S:Sm W F u15 F [row ki 3 (.slice A4 l10.length c5) l10]:=by rw [← hn41]; exact S
 obtain ⟨F42,hs,g43,S⟩:=S.give
 replace g0_0:=g0_0.mono hs
 obtain ⟨t45,h46,H⟩:=bd H
 refine ple E (.cl en206 (qm.calls k14 x l10 _ _ _ _ _ _ _ S.own.sub g0_0 g43 h46)) ?_
 rintro _ u44 a ⟨F47,A48,c49,rfl,hC⟩ E
 have hs:=hC.sub
 replace S:=S.called (X:=[]) hC
 replace g0_0:=g0_0.mono hs
 replace g43:=g43.mono hs
 refine plc E (.r 3 1 .nil) (fun a E=>pld (hK40 _ _ (wp_ret ?_)))
 obtain rfl:=si H
 exact rt1 E ⟨_,rfl,_,_,_,rfl,S⟩
def qAt.f(x:Int):Option Int:=some (IntKind.u64.wrap ((IntKind.u64.wrap ((IntKind.u64.wrap (x.tdiv 4294967296)) * 4294967296))+(IntKind.u64.wrap (((BitVec.ofInt 64 (x.tmod 4294967296) ^^^ BitVec.ofInt 64 (IntKind.u64.wrap (x.tdiv 4294967296))).toNat:Int)))))
def qAt.Post(W F:World)(r:Int)(v:Value)(w':World):Prop:=∃(F':World),v = .int .u64 r∧Sm W F w' F' []
theorem qAt.calls(x:Int)(r:Int)(W F:World)(hown:Sub F W)(H:qAt.f x=some r):
    Cr 231 #[.int .u64 x] W (qAt.Post W F r):=by
 have S:=St.start (Own.nil hown)
 unfold qAt.f at H
 refine ent 15 rfl rfl rfl (fun a E=>?_)
 refine rr E fun a E=>(rr E fun a E=>(rr E fun a E=>(wp_ret ?_)))
 obtain rfl:=si H
 exact rt1 E ⟨_,rfl,_,rfl,S⟩
def qBC.f(x:Int):Option Int:=(qAt.f x).bind fun t4=>((qAt.f (IntKind.u64.wrap (t4 * 15485907386658061715))).bind fun t8=>((qAt.f (IntKind.u64.wrap (t8 * 15485907386658061715))).bind fun t12=>(some t12)))
def qBC.Post(W F:World)(r:Int)(v:Value)(w':World):Prop:=∃(F':World),v = .int .u64 r∧Sm W F w' F' []
theorem qBC.calls(x:Int)(r:Int)(W F:World)(hown:Sub F W)(H:qBC.f x=some r):
    Cr 209 #[.int .u64 x] W (qBC.Post W F r):=by
 have S:=St.start (Own.nil hown)
 unfold qBC.f at H
 refine ent 11 rfl rfl rfl (fun a E=>?_)
 refine rr E fun a E=>(sq fun K2 hK2=>pl0 (plc E (.r 0 1 .nil) (fun a E=>?_)))
 obtain ⟨t4,h5,H⟩:=bd H
 refine ple E (.cl en231 (qAt.calls x _ _ _ S.own.sub h5)) ?_
 rintro _ u3 a ⟨_,rfl,hC⟩ E
 replace S:=S.lent hC
 refine plc E (.r 2 2 .nil) (fun a E=>pld (hK2 _ _ (sq fun K6 hK6=>pl0 (plc E (.r 0 1 .nil) (fun a E=>?_)))))
 obtain ⟨t8,h9,H⟩:=bd H
 refine ple E (.cl en231 (qAt.calls (IntKind.u64.wrap (t4 * 15485907386658061715)) _ _ _ S.own.sub h9)) ?_
 rintro _ u7 a ⟨_,rfl,hC⟩ E
 replace S:=S.lent hC
 refine plc E (.r 2 2 .nil) (fun a E=>pld (hK6 _ _ (sq fun K10 hK10=>pl0 (plc E (.r 0 1 .nil) (fun a E=>?_)))))
 obtain ⟨t12,h13,H⟩:=bd H
 refine ple E (.cl en231 (qAt.calls (IntKind.u64.wrap (t8 * 15485907386658061715)) _ _ _ S.own.sub h13)) ?_
 rintro _ u11 a ⟨_,rfl,hC⟩ E
 replace S:=S.lent hC
 refine plc E (.r 2 1 .nil) (fun a E=>pld (hK10 _ _ (wp_ret ?_)))
 obtain rfl:=si H
 exact rt1 E ⟨_,rfl,_,rfl,S⟩
def qAR.l10:Nat→List Int→Int→Int→Option Int
 | 0,_,_,_=>none
 | k+1,y,x8,x9=>if x9<(y.length:Int) then (if 0≤x9∧x9<(y.length:Int) then ((qBC.f (IntKind.u64.wrap ((IntKind.u64.wrap (((BitVec.ofInt 64 x8 ^^^ BitVec.ofInt 64 (nth 0 y x9)).toNat:Int)))+11400714819323198485))).bind fun t24=>(qAR.l10 k y t24 (w64 (x9+1)))) else (none)) else (some x8)
theorem qAR.l10_s k y x8 x9:type_of% (qAR.l10.eq_2 y x8 x9 k):=qAR.l10.eq_2 y x8 x9 k
def qAR.f(k:Nat)(x:Int)(y:List Int):Option Int:=(qBC.f x).bind fun t4=>(qAR.l10 k y t4 0)
def qAR.Post(W F:World)(r:Int)(v:Value)(w':World):Prop:=∃(F':World),v = .int .u64 r∧Sm W F w' F' []
theorem qAR.calls(k:Nat)(x:Int)(y:List Int)(A1_0:OA)(c1_0:Nat)(r:Int)(W F:World)(hown:Sub F W)(g1_0:Rd (Kn.int .u64) F A1_0 c1_0 y)(H:qAR.f k x y=some r):
    Cr 172 #[.int .u64 x,.slice A1_0 y.length c1_0] W (qAR.Post W F r):=by
 have S:=St.start (Own.nil hown)
 unfold qAR.f at H
 refine ent 24 rfl rfl rfl (fun a E=>?_)
 refine rr E fun a E=>(sq fun K2 hK2=>pl0 (plc E (.r 0 1 .nil) (fun a E=>?_)))
 obtain ⟨t4,h5,H⟩:=bd H
 refine ple E (.cl en209 (qBC.calls x _ _ _ S.own.sub h5)) ?_
 rintro _ u3 a ⟨_,rfl,hC⟩ E
 replace S:=S.lent hC
 refine plc E (.r 2 1 .nil) (fun a E=>pld (hK2 _ _ (sq fun K6 hK6=>rr E fun a E=>(wp_block ?_))))
 refine wp_loop_ghost (fun kq11 a w'=>∃(G:NV)(x8:Int)(x9:Int),kq11≤k∧Env 24 G a∧At G [(1,.slice A1_0 y.length c1_0),(5,.int .u64 x8),(6,iv x9)]∧Sm W F w' F []∧qAR.l10 kq11 y x8 x9=some r) k ⟨_,t4,0,Nat.le_refl _,E,.of,S,H⟩ ?_
 rintro kq11 a u13 ⟨G,x8,x9,hkq,E,A,S,H⟩
 obtain _ | k12:=kq11
 ·
  exact zz H
 rw [qAR.l10_s]at H
 obtain ⟨J,E⟩:=E.at A
 refine sq fun K14 hK14=>rr E fun a E=>?_
 refine E.ik 12 H (fun c16 E H=>?_) fun c16 E H=>?_
 ·
  refine wp_skip (hK14 _ _ (sq fun K17 hK17=>wp_block (pl0 ?_)))
  obtain ⟨c18,H⟩:=gd H
  have hE_:=E
  obtain ⟨ad19,rfl⟩:=g1_0.addr c18.1 c18.2
  replace E:=hE_
  obtain ⟨cs21,rfl,hc22⟩:=g1_0.el 0 x9 c18.1 c18.2
  refine plc E (.r 0 3<|.x 3 c18<|.c 4 (S.fc hc22 0)<|.r 5 2<|.nil) (fun a E=>?_)
  obtain ⟨t24,h25,H⟩:=bd H
  refine ple E (.cl en209 (qBC.calls (IntKind.u64.wrap ((IntKind.u64.wrap (((BitVec.ofInt 64 x8 ^^^ BitVec.ofInt 64 (nth 0 y x9)).toNat:Int)))+11400714819323198485)) _ _ _ S.own.sub h25)) ?_
  rintro _ u23 a ⟨_,rfl,hC⟩ E
  replace S:=S.lent hC
  refine plc E (.r 8 1 .nil) (fun a E=>pld ?_)
  refine qCJ ?_
  refine hK17 _ _ (pl0 (plc E (.r 0 3 .nil) (fun a E=>pld ?_)))
  exact qCK ⟨k12,by omega,_,t24,(w64 (x9+1)),by omega,E,.of,S,H⟩
 refine wp_exit ?_
 refine hK6 _ _ (rr E fun a E=>(wp_ret ?_))
 obtain rfl:=si H
 exact rt1 E ⟨_,rfl,_,rfl,S⟩
mutual
def ql.j6:Nat→Int→Bool→Option Int
 | 0,_,_=>none
 | k+1,x,y5=>if y5=true then (some 0) else (if x≤32768 then ((ql.f k (w64 (2 * x))).bind fun t18=>(some (w64 (65536+t18)))) else (ql.l27 k (IntKind.u64.wrap ((IntKind.u64.wrap x) * 32768)) 0 0))
def ql.l27:Nat→Int→Int→Int→Option Int
 | 0,_,_,_=>none
 | k+1,x24,x25,x26=>if x26<16 then (if (IntKind.u64.wrap ((IntKind.u64.wrap (x24 * x24)).tdiv 2147483648))≤1073741824 then (ql.l27 k (IntKind.u64.wrap (2 * (IntKind.u64.wrap ((IntKind.u64.wrap (x24 * x24)).tdiv 2147483648)))) (w64 ((w64 (2 * x25))+1)) (w64 (x26+1))) else (ql.l27 k (IntKind.u64.wrap ((IntKind.u64.wrap (x24 * x24)).tdiv 2147483648)) (w64 (2 * x25)) (w64 (x26+1)))) else (some x25)
def ql.f:Nat→Int→Option Int
 | 0,_=>none
 | k+1,x=>if x<1 then (ql.j6 k x true) else (ql.j6 k x (decide (x>65536)))
end
theorem ql.j6_s k x y5:type_of% (ql.j6.eq_2 x y5 k):=ql.j6.eq_2 x y5 k
theorem ql.l27_s k x24 x25 x26:type_of% (ql.l27.eq_2 x24 x25 x26 k):=ql.l27.eq_2 x24 x25 x26 k
theorem ql.f_s k x:type_of% (ql.f.eq_2 x k):=ql.f.eq_2 x k
def ql.Post(W F:World)(r:Int)(v:Value)(w':World):Prop:=∃(F':World),v=iv r∧Sm W F w' F' []
theorem ql.calls:∀(k:Nat)(x:Int)(r:Int)(W F:World)(hown:Sub F W)(H:ql.f k x=some r),
    Cr 251 #[iv x] W (ql.Post W F r):=by
 intro k
 induction k using Nat.strongRecOn
 rename_i k ih
 intro x r W F hown H
 obtain _ | k1:=k
 ·
  exact zz H
 have S:=St.start (Own.nil hown)
 rw [ql.f_s]at H
 refine ent 38 rfl rfl rfl (fun a E=>?_)
 refine rr E fun a E=>(sq fun K2 hK2=>sq fun K3 hK3=>?_)
 have J9:∀ kq7,kq7≤k1→∀(G:NV)(y5:Bool)(a:Act)(w':World),Env 38 G a→At G [(0,iv x),(11,.bool y5)]→Sm W F w' F []→ql.j6 kq7 x y5=some r→K3 a w':=by
  intro kq7 hkq G y5 a u10 E A S H
  obtain _ | k8:=kq7
  ·
   exact zz H
  rw [ql.j6_s]at H
  obtain ⟨J,E⟩:=E.at A
  refine hK3 _ _ ?_
  refine E.ib 11 H (fun c11 E H=>?_) fun c11 E H=>?_
  ·
   refine rr E fun a E=>(wp_ret (qCH ?_))
   obtain rfl:=si H
   exact rt1 E ⟨_,rfl,_,rfl,S⟩
  refine wp_skip (hK2 _ _ (sq fun K13 hK13=>rr E fun a E=>?_))
  refine E.ik 13 H (fun c15 E H=>?_) fun c15 E H=>?_
  ·
   refine sq fun K16 hK16=>pl0 (plc E (.r 0 2 .nil) (fun a E=>?_))
   obtain ⟨t18,h19,H⟩:=bd H
   refine ple E (.cl en251 (ih k8 (by omega) (w64 (2 * x)) _ _ _ S.own.sub h19)) ?_
   rintro _ u17 a ⟨_,rfl,hC⟩ E
   replace S:=S.lent hC
   refine plc E (.r 3 2 .nil) (fun a E=>pld (hK16 _ _ (wp_ret (qCH ?_))))
   obtain rfl:=si H
   exact rt1 E ⟨_,rfl,_,rfl,S⟩
  refine wp_skip (hK13 _ _ (rr E fun a E=>(rr E fun a E=>(sq fun K22 hK22=>rr E fun a E=>(wp_block ?_)))))
  refine wp_loop_ghost (fun kq28 a w'=>∃(G:NV)(x24:Int)(x25:Int)(x26:Int),kq28≤k8∧Env 38 G a∧At G [(3,.int .u64 x24),(4,iv x25),(5,iv x26)]∧Sm W F w' F []∧ql.l27 kq28 x24 x25 x26=some r) k8 ⟨_,(IntKind.u64.wrap ((IntKind.u64.wrap x) * 32768)),0,0,Nat.le_refl _,E,.of,S,H⟩ ?_
  rintro kq28 a u30 ⟨G,x24,x25,x26,hkq,E,A,S,H⟩
  obtain _ | k29:=kq28
  ·
   exact zz H
  rw [ql.l27_s]at H
  obtain ⟨J,E⟩:=E.at A
  refine sq fun K31 hK31=>rr E fun a E=>?_
  refine E.ik 22 H (fun c33 E H=>?_) fun c33 E H=>?_
  ·
   refine wp_skip (hK31 _ _ (sq fun K34 hK34=>wp_block (rr E fun a E=>(rr E fun a E=>(rr E fun a E=>?_)))))
   refine E.ik 32 H (fun c38 E H=>?_) fun c38 E H=>?_
   ·
    refine rr E fun a E=>(pl0 (plc E (.r 0 3 .nil) (fun a E=>pld ?_)))
    refine qCJ ?_
    refine hK34 _ _ (pl0 (plc E (.r 0 3 .nil) (fun a E=>pld ?_)))
    exact qCK ⟨k29,by omega,_,(IntKind.u64.wrap (2 * (IntKind.u64.wrap ((IntKind.u64.wrap (x24 * x24)).tdiv 2147483648)))),(w64 ((w64 (2 * x25))+1)),(w64 (x26+1)),by omega,E,.of,S,H⟩
   refine wp_skip ?_
   refine qCJ ?_
   refine hK34 _ _ (pl0 (plc E (.r 0 3 .nil) (fun a E=>pld ?_)))
   exact qCK ⟨k29,by omega,_,(IntKind.u64.wrap ((IntKind.u64.wrap (x24 * x24)).tdiv 2147483648)),(w64 (2 * x25)),(w64 (x26+1)),by omega,E,.of,S,H⟩
  refine wp_exit ?_
  refine hK22 _ _ (rr E fun a E=>(wp_ret ?_))
  obtain rfl:=si H
  exact rt1 E ⟨_,rfl,_,rfl,S⟩
 refine pl0 (plc E (.r 0 3 .nil) (fun a E=>?_))
 rcases sp H with ⟨c4,H⟩ | ⟨c4,H⟩
 ·
  replace E:=E.kt 8 c4
  refine plc E (.r 3 3 .nil) (fun a E=>pld ?_)
  exact J9 _ (by omega) _ true _ _ E .of S H
 replace E:=E.kf 8 c4
 refine plc E (.r 3 3 .nil) (fun a E=>pld ?_)
 exact J9 _ (by omega) _ (decide (x>65536)) _ _ E .of S H
def qAz.f(k:Nat)(x:Int)(y:Int):Option Int:=(qAR.f k x [(IntKind.u64.wrap y)]).bind fun t8=>((ql.f k (w64 (1+(w64 (IntKind.u64.wrap (t8.tdiv 281474976710656)))))).bind fun t11=>(some t11))
def qAz.Post(W F:World)(r:Int)(v:Value)(w':World):Prop:=∃(F':World),v=iv r∧Sm W F w' F' []
theorem qAz.calls(k:Nat)(x:Int)(y:Int)(r:Int)(W F:World)(hown:Sub F W)(H:qAz.f k x y=some r):
    Cr 230 #[.int .u64 x,iv y] W (qAz.Post W F r):=by
 have S:=St.start (Own.nil hown)
 unfold qAz.f at H
 refine ent 14 rfl rfl rfl (fun a E=>?_)
 refine rr E fun a E=>(sq fun K2 hK2=>pl0 (plc E (.r 0 3 .nil) (fun a E=>ple E (.lit (d:=(Kn.int .u64)) (e:=182) S [(IntKind.u64.wrap y)] (.cons rfl .nil)) ?_)))
 rintro _ u3 a ⟨A4,c5,rfl,S,hg⟩ E
 obtain ⟨t8,h9,H⟩:=bd H
 refine ple E (.cl en172 (qAR.calls k x [(IntKind.u64.wrap y)] _ _ _ _ _ (Sub.refl _) (S.rd_at (i:=0) rfl) h9)) ?_
 rintro _ u7 a ⟨_,rfl,hC⟩ E
 replace S:=S.lent hC
 refine plc E (.r 5 3 .nil) (fun a E=>?_)
 obtain ⟨t11,h12,H⟩:=bd H
 refine ple E (.cl en251 (ql.calls k (w64 (1+(w64 (IntKind.u64.wrap (t8.tdiv 281474976710656))))) _ _ _ S.own.sub h12)) ?_
 rintro _ u10 a ⟨_,rfl,hC⟩ E
 replace S:=S.lent hC
 refine plc E (.r 9 1 .nil) (fun a E=>pld (hK2 _ _ (wp_ret ?_)))
 replace S:=S.tail
 obtain rfl:=si H
 exact rt1 E ⟨_,rfl,_,rfl,S⟩
mutual
def qAC.l7:Nat→Int→List qB→Int→Int→Option (Int × Bool)
 | 0,_,_,_,_=>none
 | k+1,x,y,x5,x6=>if x6<(y.length:Int) then (if 0≤x6∧x6<(y.length:Int) then (if (nth qB.z y x6).f1=0 then (qAC.l7 k x y x5 (w64 (x6+1))) else (if x5<0 then (qAC.j45 k x y x5 x6 true) else (if 0≤x5∧x5<(y.length:Int) then ((qAz.f k x ((nth qB.z y x6).f0)).bind fun t39=>((qAz.f k x ((nth qB.z y x5).f0)).bind fun t42=>(qAC.j45 k x y x5 x6 (decide ((w64 (t39 * (nth qB.z y x5).f1))<(w64 (t42 * (nth qB.z y x6).f1))))))) else (none)))) else (none)) else (if x5<0 then (some (0,false)) else (if 0≤x5∧x5<(y.length:Int) then (some ((nth qB.z y x5).f0,true)) else (none)))
def qAC.j45:Nat→Int→List qB→Int→Int→Bool→Option (Int × Bool)
 | 0,_,_,_,_,_=>none
 | k+1,x,y,x5,x6,y44=>if y44=true then (qAC.l7 k x y x6 (w64 (x6+1))) else (qAC.l7 k x y x5 (w64 (x6+1)))
end
theorem qAC.l7_s k x y x5 x6:type_of% (qAC.l7.eq_2 x y x5 x6 k):=qAC.l7.eq_2 x y x5 x6 k
theorem qAC.j45_s k x y x5 x6 y44:type_of% (qAC.j45.eq_2 x y x5 x6 y44 k):=qAC.j45.eq_2 x y x5 x6 y44 k
def qAC.f(k:Nat)(x:Int)(y:List qB):Option (Int × Bool):=qAC.l7 k x y (-1) 0
def qAC.Post(W F:World)(r:Int × Bool)(v:Value)(w':World):Prop:=∃(F':World),v = .tuple #[iv r.1,.bool r.2]∧Sm W F w' F' []
theorem qAC.calls(k:Nat)(x:Int)(y:List qB)(A1_0:OA)(c1_0:Nat)(r:Int × Bool)(W F:World)(hown:Sub F W)(g1_0:Rd qB.k F A1_0 c1_0 y)(H:qAC.f k x y=some r):
    Cr 207 #[.int .u64 x,.slice A1_0 y.length c1_0] W (qAC.Post W F r):=by
 have S:=St.start (Own.nil hown)
 unfold qAC.f at H
 refine ent 59 rfl rfl rfl (fun a E=>?_)
 refine rr E fun a E=>(rr E fun a E=>(sq fun K3 hK3=>rr E fun a E=>(wp_block ?_)))
 refine wp_loop_ghost (fun kq8 a w'=>∃(G:NV)(x5:Int)(x6:Int),kq8≤k∧Env 59 G a∧At G [(0,.int .u64 x),(1,.slice A1_0 y.length c1_0),(6,iv x5),(7,iv x6)]∧Sm W F w' F []∧qAC.l7 kq8 x y x5 x6=some r) k ⟨_,(-1),0,Nat.le_refl _,E,.of,S,H⟩ ?_
 rintro kq8 a u10 ⟨G,x5,x6,hkq,E,A,S,H⟩
 obtain _ | k9:=kq8
 ·
  exact zz H
 rw [qAC.l7_s]at H
 obtain ⟨J,E⟩:=E.at A
 refine sq fun K11 hK11=>rr E fun a E=>?_
 refine E.ik 11 H (fun c13 E H=>?_) fun c13 E H=>?_
 ·
  refine wp_skip (hK11 _ _ (sq fun K14 hK14=>wp_block (sq fun K15 hK15=>sq fun K16 hK16=>pl0 ?_)))
  obtain ⟨c17,H⟩:=gd H
  have hE_:=E
  obtain ⟨ad18,rfl⟩:=g1_0.addr c17.1 c17.2
  replace E:=hE_
  obtain ⟨cs20,rfl,hc21⟩:=g1_0.el qB.z x6 c17.1 c17.2
  refine plc E (.r 0 2<|.x 2 c17<|.r 3 1<|.c 4 (S.fc hc21 1)<|.r 5 1<|.nil) (fun a E=>pld (hK16 _ _ ?_))
  refine E.ik 19 H (fun c22 E H=>?_) fun c22 E H=>?_
  ·
   refine wp_exit ?_
   refine hK14 _ _ (pl0 (plc E (.r 0 3 .nil) (fun a E=>pld ?_)))
   exact qCK ⟨k9,by omega,_,x5,(w64 (x6+1)),by omega,E,.of,S,H⟩
  refine wp_skip (hK15 _ _ (sq fun K23 hK23=>?_))
  have J48:∀ kq46,kq46≤k9→∀(G:NV)(y44:Bool)(a:Act)(w':World),Env 59 G a→At G [(0,.int .u64 x),(1,.slice (some ad18) y.length c1_0),(6,iv x5),(7,iv x6),(50,.bool y44)]→Sm W F w' F []→qAC.j45 kq46 x y x5 x6 y44=some r→K23 a w':=by
   intro kq46 hkq G y44 a u49 E A S H
   obtain _ | k47:=kq46
   ·
    exact zz H
   rw [qAC.j45_s]at H
   obtain ⟨J,E⟩:=E.at A
   refine hK23 _ _ ?_
   refine E.ib 50 H (fun c50 E H=>?_) fun c50 E H=>?_
   ·
    refine pl0 (plc E (.r 0 2 .nil) (fun a E=>pld ?_))
    refine qCJ ?_
    refine hK14 _ _ (pl0 (plc E (.r 0 3 .nil) (fun a E=>pld ?_)))
    exact qCK ⟨k47,by omega,_,x6,(w64 (x6+1)),by omega,E,.of,S,H⟩
   refine wp_skip ?_
   refine qCJ ?_
   refine hK14 _ _ (pl0 (plc E (.r 0 3 .nil) (fun a E=>pld ?_)))
   exact qCK ⟨k47,by omega,_,x5,(w64 (x6+1)),by omega,E,.of,S,H⟩
  refine drawn 31 ⟨[],[],fun q=>False⟩ mixed rfl (by kernel_rfl) (fun hst=>?_)
  replace S:=S.drew
  refine mny 28 hst E (.r 0 3 .nil) (fun a E=>?_)
  rcases sp H with ⟨c24,H⟩ | ⟨c24,H⟩
  ·
   replace E:=E.kt 22 c24
   refine mny 0 hst E (.r 3 28 .nil) (fun a E=>?_)
   refine dn ?_
   exact J48 _ (by omega) _ true _ _ E .of S H
  replace E:=E.kf 22 c24
  obtain ⟨c28,H⟩:=gd H
  obtain ⟨cs30,rfl,hc31⟩:=g1_0.el qB.z x5 c28.1 c28.2
  refine mny 6 hst E (.r 3 3<|.x 6 c17<|.r 7 1<|.c 8 (S.fc hc21 0)<|.r 10 2<|.x 12 c28<|.r 13 1<|.c 14 (S.fc hc31 1)<|.r 16 3<|.x 19 c28<|.r 20 1<|.c 21 (S.fc hc31 0)<|.r 23 2<|.x 25 c17<|.r 26 1<|.c 27 (S.fc hc21 1)<|.nil) (fun a E=>?_)
  obtain ⟨t39,h40,H⟩:=bd H
  refine on1 9 E (.cl en230 (qAz.calls k9 x ((nth qB.z y x6).f0) _ _ _ S.own.sub h40)) ?_
  rintro _ u38 a ⟨_,rfl,hC⟩ E
  refine ⟨.of hC.agr,?_⟩
  replace S:=S.lent hC
  refine mny 4 hst E (.r 15 1 .nil) (fun a E=>?_)
  obtain ⟨t42,h43,H⟩:=bd H
  refine on1 22 E (.cl en230 (qAz.calls k9 x ((nth qB.z y x5).f0) _ _ _ S.own.sub h43)) ?_
  rintro _ u41 a ⟨_,rfl,hC⟩ E
  refine ⟨.of hC.agr,?_⟩
  replace S:=S.lent hC
  refine mny 0 hst E (.r 28 3 .nil) (fun a E=>?_)
  refine dn ?_
  exact J48 _ (by omega) _ (decide ((w64 (t39 * (nth qB.z y x5).f1))<(w64 (t42 * (nth qB.z y x6).f1)))) _ _ E .of S H
 refine wp_exit ?_
 refine hK3 _ _ (sq fun K51 hK51=>rr E fun a E=>?_)
 refine E.ik 53 H (fun c53 E H=>?_) fun c53 E H=>?_
 ·
  refine rr E fun a E=>(wp_ret (qCH ?_))
  obtain rfl:=si H
  exact rtN E ⟨_,rfl,_,rfl,S⟩
 refine wp_skip (hK51 _ _ (sq fun K55 hK55=>pl0 ?_))
 obtain ⟨c56,H⟩:=gd H
 have hE_:=E
 obtain ⟨ad57,rfl⟩:=g1_0.addr c56.1 c56.2
 replace E:=hE_
 obtain ⟨cs59,rfl,hc60⟩:=g1_0.el qB.z x5 c56.1 c56.2
 refine plc E (.r 0 2<|.x 2 c56<|.r 3 1<|.c 4 (S.fc hc60 0)<|.r 5 2<|.nil) (fun a E=>pld (hK55 _ _ (wp_ret ?_)))
 obtain rfl:=si H
 exact rtN E ⟨_,rfl,_,rfl,S⟩
def qAO.l14:Nat→List qB→Int→List qB→Int→Option (List qB)
 | 0,_,_,_,_=>none
 | k+1,x,y,l12,x13=>if x13<(x.length:Int) then (if 0≤x13∧x13<(x.length:Int) then (if (nth qB.z x x13).f0=y then (qAO.l14 k x y l12 (w64 (x13+1))) else (if ((l12.length:Int)+((1:Nat):Int)) * 16≤140737488355328 then (qAO.l14 k x y (l12++[(nth qB.z x x13)]) (w64 (x13+1))) else (none))) else (none)) else (some l12)
theorem qAO.l14_s k x y l12 x13:type_of% (qAO.l14.eq_2 x y l12 x13 k):=qAO.l14.eq_2 x y l12 x13 k
def qAO.f(k:Nat)(x:List qB)(y:Int):Option (List qB):=qAO.l14 k x y ([]:List qB) 0
def qAO.Post(W F:World)(r:List qB)(v:Value)(w':World):Prop:=∃(F':World)(RA0_0:OA)(rc0_0:Nat),v = .slice RA0_0 r.length rc0_0∧Sm W F w' F' [row qB.k 216 (.slice RA0_0 r.length rc0_0) r]
theorem qAO.calls(k:Nat)(x:List qB)(y:Int)(A0_0:OA)(c0_0:Nat)(r:List qB)(W F:World)(hown:Sub F W)(g0_0:Rd qB.k F A0_0 c0_0 x)(H:qAO.f k x y=some r):
    Cr 208 #[.slice A0_0 x.length c0_0,iv y] W (qAO.Post W F r):=by
 have S:=St.start (Own.nil hown)
 unfold qAO.f at H
 refine ent 29 rfl rfl rfl (fun a E=>?_)
 refine rr E fun a E=>(sq fun K2 hK2=>pl0 (ple E (.lit (d:=qB.k) (e:=216) S ([]:List qB) (.nil)) ?_))
 rintro _ u3 a ⟨A4,c5,rfl,S,hg⟩ E
 refine plc E (.r 1 1 .nil) (fun a E=>pld (hK2 _ _ (sq fun K7 hK7=>rr E fun a E=>(wp_block ?_))))
 refine wp_loop_ghost (fun kq15 a w'=>∃(G:NV)(A10:OA)(c11:Nat)(l12:List qB)(x13:Int),kq15≤k∧Env 29 G a∧At G [(0,.slice A0_0 x.length c0_0),(1,iv y),(5,.slice A10 l12.length c11),(6,iv x13)]∧Sm W F w' F [row qB.k 216 (.slice A10 l12.length c11) l12]∧qAO.l14 kq15 x y l12 x13=some r) k ⟨_,A4,c5,([]:List qB),0,Nat.le_refl _,E,.of,S,H⟩ ?_
 rintro kq15 a u17 ⟨G,A10,c11,l12,x13,hkq,E,A,S,H⟩
 obtain _ | k16:=kq15
 ·
  exact zz H
 rw [qAO.l14_s]at H
 obtain ⟨J,E⟩:=E.at A
 refine sq fun K18 hK18=>rr E fun a E=>?_
 refine E.ik 11 H (fun c20 E H=>?_) fun c20 E H=>?_
 ·
  refine wp_skip (hK18 _ _ (sq fun K21 hK21=>wp_block (sq fun K22 hK22=>pl0 ?_)))
  obtain ⟨c23,H⟩:=gd H
  have hE_:=E
  obtain ⟨ad24,rfl⟩:=g0_0.addr c23.1 c23.2
  replace E:=hE_
  obtain ⟨cs26,rfl,hc27⟩:=g0_0.el qB.z x13 c23.1 c23.2
  refine plc E (.r 0 2<|.x 2 c23<|.r 3 1<|.c 4 (S.fc hc27 0)<|.r 5 2<|.nil) (fun a E=>pld (hK22 _ _ ?_))
  refine E.ikn 20 H (fun c28 E H=>?_) fun c28 E H=>?_
  ·
   refine wp_skip ?_
   refine qCJ ?_
   refine hK21 _ _ (pl0 (plc E (.r 0 3 .nil) (fun a E=>pld ?_)))
   exact qCK ⟨k16,by omega,_,A10,c11,l12,(w64 (x13+1)),by omega,E,.of,S,H⟩
  refine pl0 (plc E (.r 0 3<|.x 3 c23<|.cs 4 (S.fcs hc27)<|.nil) (fun a E=>ple E (.lit (d:=qB.k) (e:=216) S [(nth qB.z x x13)] (.cons rfl .nil)) ?_))
  rintro _ u32 a ⟨A33,c34,rfl,S,hg⟩ E
  obtain ⟨c36,H⟩:=gd H
  replace S:=S.front 1 rfl
  refine ple E (.ap (d:=qB.k) 16 S (qCT (S.row_at (i:=1) rfl)) c36 c34) ?_
  rintro _ u39 a ⟨A37,c38,rfl,S,hz⟩ E
  refine plc E (.r 7 1 .nil) (fun a E=>pld ?_)
  refine qCJ ?_
  refine hK21 _ _ (pl0 (plc E (.r 0 3 .nil) (fun a E=>pld ?_)))
  replace S:=S.pm [0] 2
  exact qCK ⟨k16,by omega,_,A37,c38,(l12++[(nth qB.z x x13)]),(w64 (x13+1)),by omega,E,.of,S,H⟩
 refine wp_exit ?_
 refine hK7 _ _ (rr E fun a E=>(wp_ret ?_))
 obtain rfl:=si H
 exact rt1 E ⟨_,rfl,_,_,_,rfl,S⟩
def qAY.l20:Nat→Int→List qB→List qB→List Int→Int→Option (List Int)
 | 0,_,_,_,_,_=>none
 | k+1,x,y,l13,l17,x18=>if x18<(y.length:Int) then ((qAC.f k x l13).bind fun t30=>(if t30.2=true then (if ((l17.length:Int)+((1:Nat):Int)) * 8≤140737488355328 then ((qAO.f k l13 t30.1).bind fun t46=>(qAY.l20 k x y t46 (l17++[t30.1]) (w64 (x18+1)))) else (none)) else (some l17))) else (some l17)
theorem qAY.l20_s k x y l13 l17 x18:type_of% (qAY.l20.eq_2 x y l13 l17 x18 k):=qAY.l20.eq_2 x y l13 l17 x18 k
def qAY.f(k:Nat)(x:Int)(y:List qB):Option (List Int):=qAY.l20 k x y y ([]:List Int) 0
def qAY.Post(W F:World)(r:List Int)(v:Value)(w':World):Prop:=∃(F':World)(RA0_0:OA)(rc0_0:Nat),v = .slice RA0_0 r.length rc0_0∧Sm W F w' F' [row ki 3 (.slice RA0_0 r.length rc0_0) r]
theorem qAY.calls(k:Nat)(x:Int)(y:List qB)(A1_0:OA)(c1_0:Nat)(r:List Int)(W F:World)(hown:Sub F W)(g1_0:Rd qB.k F A1_0 c1_0 y)(H:qAY.f k x y=some r):
    Cr 171 #[.int .u64 x,.slice A1_0 y.length c1_0] W (qAY.Post W F r):=by
 have S:=St.start (Own.nil hown)
 unfold qAY.f at H
 refine ent 35 rfl rfl rfl (fun a E=>?_)
 refine rr E fun a E=>(sq fun K2 hK2=>pl0 (ple E (.lit (d:=ki) (e:=3) S ([]:List Int) (.nil)) ?_))
 rintro _ u3 a ⟨A4,c5,rfl,S,hg⟩ E
 refine plc E (.r 1 1 .nil) (fun a E=>pld (hK2 _ _ (rr E fun a E=>(sq fun K8 hK8=>rr E fun a E=>(wp_block ?_)))))
 refine wp_loop_ghost (fun kq21 a w'=>∃(G:NV)(A11:OA)(c12:Nat)(l13:List qB)(A15:OA)(c16:Nat)(l17:List Int)(x18:Int)(F19:World),kq21≤k∧Env 35 G a∧At G [(0,.int .u64 x),(1,.slice A11 l13.length c12),(5,.slice A15 l17.length c16),(6,iv (y.length:Int)),(7,iv x18)]∧Sm W F w' F19 [row ki 3 (.slice A15 l17.length c16) l17]∧Rd qB.k F19 A11 c12 l13∧qAY.l20 kq21 x y l13 l17 x18=some r) k ⟨_,A1_0,c1_0,y,A4,c5,([]:List Int),0,F,Nat.le_refl _,E,.of,S,g1_0,H⟩ ?_
 rintro kq21 a u23 ⟨G,A11,c12,l13,A15,c16,l17,x18,F19,hkq,E,A,S,g14,H⟩
 obtain _ | k22:=kq21
 ·
  exact zz H
 rw [qAY.l20_s]at H
 obtain ⟨J,E⟩:=E.at A
 refine sq fun K24 hK24=>rr E fun a E=>?_
 refine E.ik 15 H (fun c26 E H=>?_) fun c26 E H=>?_
 ·
  refine wp_skip (hK24 _ _ (sq fun K27 hK27=>wp_block (sq fun K28 hK28=>pl0 (plc E (.r 0 2 .nil) (fun a E=>?_)))))
  obtain ⟨t30,h31,H⟩:=bd H
  refine ple E (.cl en207 (qAC.calls k22 x l13 _ _ _ _ _ S.own.sub g14 h31)) ?_
  rintro _ u29 a ⟨_,rfl,hC⟩ E
  replace S:=S.lent hC
  refine plc E (.r 3 5 .nil) (fun a E=>pld (hK28 _ _ (sq fun K32 hK32=>rr E fun a E=>?_)))
  refine E.ibn 25 H (fun c34 E H=>?_) fun c34 E H=>?_
  ·
   refine wp_skip (hK32 _ _ (sq fun K36 hK36=>pl0 (plc E (.r 0 2 .nil) (fun a E=>ple E (.lit (d:=ki) (e:=3) S [t30.1] (.cons rfl .nil)) ?_))))
   rintro _ u37 a ⟨A38,c39,rfl,S,hg⟩ E
   obtain ⟨c41,H⟩:=gd H
   replace S:=S.front 1 rfl
   refine ple E (.ap (d:=ki) 8 S (qCT (S.row_at (i:=1) rfl)) c41 c39) ?_
   rintro _ u44 a ⟨A42,c43,rfl,S,hz⟩ E
   refine plc E (.r 4 1 .nil) (fun a E=>pld (hK36 _ _ (pl0 (plc E (.r 0 2 .nil) (fun a E=>?_)))))
   obtain ⟨t46,h47,H⟩:=bd H
   refine ple E (.cl en208 (qAO.calls k22 l13 t30.1 _ _ _ _ _ S.own.sub g14 h47)) ?_
   rintro _ u45 a ⟨F48,A49,c50,rfl,hC⟩ E
   have hs:=hC.sub
   replace S:=S.called (X:=[]) hC
   replace g14:=g14.mono hs
   refine plc E (.r 3 1 .nil) (fun a E=>pld ?_)
   refine qCJ ?_
   refine hK27 _ _ (pl0 (plc E (.r 0 3 .nil) (fun a E=>pld ?_)))
   obtain ⟨F53,hs,g54,S⟩:=S.give
   replace g14:=g14.mono hs
   replace S:=S.pm [0] 2
   exact qCK ⟨k22,by omega,_,A49,c50,t46,A42,c43,(l17++[t30.1]),(w64 (x18+1)),F53,by omega,E,.of,S,g54,H⟩
  refine rr E fun a E=>(wp_ret (qCH (qCI (qCH (qCH (qCI (qCH ?_)))))))
  obtain rfl:=si H
  exact rt1 E ⟨_,rfl,_,_,_,rfl,S⟩
 refine wp_exit ?_
 refine hK8 _ _ (rr E fun a E=>(wp_ret ?_))
 obtain rfl:=si H
 exact rt1 E ⟨_,rfl,_,_,_,rfl,S⟩
end Go.Proofs.YtpohepinmjmbkaaGreat.MF
