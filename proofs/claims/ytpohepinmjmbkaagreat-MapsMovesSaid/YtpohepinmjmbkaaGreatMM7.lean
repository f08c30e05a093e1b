import Derived.Test.YtpohepinmjmbkaaGreatMM6
namespace Go.Proofs.YtpohepinmjmbkaaGreat.MM
open Go Go.RowKit Go.Proofs.YtpohepinmjmbkaaGreat.Sl
set_option linter.unusedVariables false
set_option linter.unusedSimpArgs false
set_option maxHeartbeats 4000000
set_option maxRecDepth 100000
mutual
def qS.l7:Nat→qF→Int→Option Bool
 | 0,_,_=>none
 | k+1,x,x6=>if x6<(x.f5.length:Int) then (qS.j15 k x x6 (decide (x6<20))) else (qS.j15 k x x6 false)
def qS.j15:Nat→qF→Int→Bool→Option Bool
 | 0,_,_,_=>none
 | k+1,x,x6,y14=>if y14=true then (if 0≤x6∧x6<(x.f5.length:Int) then (if (((nth qD.z x.f5 x6).f1).length:Int)>20 then (some false) else (qS.l7 k x (w64 (x6+1)))) else (none)) else (qS.l36 k x 0)
def qS.l36:Nat→qF→Int→Option Bool
 | 0,_,_=>none
 | k+1,x,x35=>if x35<(x.f6.length:Int) then (qS.j44 k x x35 (decide (x35<20))) else (qS.j44 k x x35 false)
def qS.j44:Nat→qF→Int→Bool→Option Bool
 | 0,_,_,_=>none
 | k+1,x,x35,y43=>if y43=true then (if 0≤x35∧x35<(x.f6.length:Int) then (if (((nth qC.z x.f6 x35).f1).length:Int)>20 then (some false) else (qS.l65 k x x35 0)) else (none)) else (if (x.f4.length:Int)≤30 then (if (x.f5.length:Int)≤20 then (some (decide ((x.f6.length:Int)≤20))) else (some false)) else (some false))
def qS.l65:Nat→qF→Int→Int→Option Bool
 | 0,_,_,_=>none
 | k+1,x,x35,x64=>if x64<(((nth qC.z x.f6 x35).f1).length:Int) then (if 0≤x64∧x64<(((nth qC.z x.f6 x35).f1).length:Int) then (if (((nth qE.z ((nth qC.z x.f6 x35).f1) x64).f1).length:Int)>20 then (some false) else (qS.l65 k x x35 (w64 (x64+1)))) else (none)) else (qS.l36 k x (w64 (x35+1)))
end
theorem qS.l7_s k x x6:type_of% (qS.l7.eq_2 x x6 k):=qS.l7.eq_2 x x6 k
theorem qS.j15_s k x x6 y14:type_of% (qS.j15.eq_2 x x6 y14 k):=qS.j15.eq_2 x x6 y14 k
theorem qS.l36_s k x x35:type_of% (qS.l36.eq_2 x x35 k):=qS.l36.eq_2 x x35 k
theorem qS.j44_s k x x35 y43:type_of% (qS.j44.eq_2 x x35 y43 k):=qS.j44.eq_2 x x35 y43 k
theorem qS.l65_s k x x35 x64:type_of% (qS.l65.eq_2 x x35 x64 k):=qS.l65.eq_2 x x35 x64 k
def qS.f(k:Nat)(x:qF):Option Bool:=qS.l7 k x 0
def qS.Post(W F:World)(r:Bool)(v:Value)(w':World):Prop:=∃(F':World),v = .bool r∧Sm W F w' F' []
theorem qS.calls(k:Nat)(x:qF)(A0_4:OA)(c0_4:Nat)(A0_5:OA)(c0_5:Nat)(A0_6:OA)(c0_6:Nat)(r:Bool)(W F:World)(hown:Sub F W)(g0_4:Rd qA.k F A0_4 c0_4 x.f4)(g0_5:Rd qD.k F A0_5 c0_5 x.f5)(g0_6:Rd qC.k F A0_6 c0_6 x.f6)(H:qS.f k x=some r):
    Cr 20 #[.agg #[iv x.f0,iv x.f1,iv x.f2,iv x.f3,.slice A0_4 x.f4.length c0_4,.slice A0_5 x.f5.length c0_5,.slice A0_6 x.f6.length c0_6]] W (qS.Post W F r):=by
 have S:=St.start (Own.nil hown)
 unfold qS.f at H
 refine ent 83 rfl rfl rfl (fun a E=>?_)
 refine sq fun K1 hK1=>pl0 (ple E (.bx (t:=26) S [iv x.f0,iv x.f1,iv x.f2,iv x.f3,.slice A0_4 x.f4.length c0_4,.slice A0_5 x.f5.length c0_5,.slice A0_6 x.f6.length c0_6]) ?_)
 rintro _ u3 a ⟨b2,rfl,hb2,S,hg⟩ E
 refine plc E (.r 1 1 .nil) (fun a E=>pld (hK1 _ _ (sq fun K4 hK4=>rr E fun a E=>(wp_block ?_))))
 refine wp_loop_ghost (fun kq8 a w'=>∃(G:NV)(x6:Int),kq8≤k∧Env 83 G a∧At G [(1,.pointer (pb b2)),(3,iv x6)]∧Sm W F w' F [box b2 #[iv x.f0,iv x.f1,iv x.f2,iv x.f3,.slice A0_4 x.f4.length c0_4,.slice A0_5 x.f5.length c0_5,.slice A0_6 x.f6.length c0_6] 26]∧qS.l7 kq8 x x6=some r) k ⟨_,0,Nat.le_refl _,E,.of,S,H⟩ ?_
 rintro kq8 a u10 ⟨G,x6,hkq,E,A,S,H⟩
 obtain _ | k9:=kq8
 ·
  exact zz H
 rw [qS.l7_s]at H
 obtain ⟨J,E⟩:=E.at A
 refine sq fun K11 hK11=>sq fun K12 hK12=>?_
 have J18:∀ kq16,kq16≤k9→∀(G:NV)(y14:Bool)(a:Act)(w':World),Env 83 G a→At G [(1,.pointer (pb b2)),(3,iv x6),(14,.bool y14)]→Sm W F w' F [box b2 #[iv x.f0,iv x.f1,iv x.f2,iv x.f3,.slice A0_4 x.f4.length c0_4,.slice A0_5 x.f5.length c0_5,.slice A0_6 x.f6.length c0_6] 26]→qS.j15 kq16 x x6 y14=some r→K12 a w':=by
  intro kq16 hkq G y14 a u19 E A S H
  obtain _ | k17:=kq16
  ·
   exact zz H
  rw [qS.j15_s]at H
  obtain ⟨J,E⟩:=E.at A
  refine hK12 _ _ ?_
  refine E.ib 14 H (fun c20 E H=>?_) fun c20 E H=>?_
  ·
   refine wp_skip (hK11 _ _ (sq fun K21 hK21=>wp_block (sq fun K22 hK22=>pl0 ?_)))
   have hb2:=S.ba 0
   obtain ⟨c23,H⟩:=gd H
   have hE_:=E
   obtain ⟨ad24,rfl⟩:=g0_5.addr c23.1 c23.2
   replace E:=hE_
   obtain ⟨cs26,⟨A28,c29,rfl,g30⟩,hc27⟩:=g0_5.el qD.z x6 c23.1 c23.2
   refine plc E (.r 0 1<|.b 1 5 hb2<|.r 2 1<|.x 3 c23<|.r 4 1<|.c 5 (S.fc hc27 1)<|.r 6 2<|.nil) (fun a E=>pld (hK22 _ _ ?_))
   refine E.ik 24 H (fun c31 E H=>?_) fun c31 E H=>?_
   ·
    refine rr E fun a E=>(wp_ret (qBc (qBb (qBb (qBc (qBb ?_))))))
    replace S:=S.tail
    obtain rfl:=si H
    exact rt1 E ⟨_,rfl,_,rfl,S⟩
   refine wp_skip ?_
   refine qBd ?_
   refine hK21 _ _ (pl0 (plc E (.r 0 3 .nil) (fun a E=>pld ?_)))
   exact qBf ⟨k17,by omega,_,(w64 (x6+1)),by omega,E,.of,S,H⟩
  refine wp_exit ?_
  refine hK4 _ _ (sq fun K33 hK33=>rr E fun a E=>(wp_block ?_))
  refine wp_loop_ghost (fun kq37 a w'=>∃(G:NV)(x35:Int),kq37≤k17∧Env 83 G a∧At G [(1,.pointer (pb b2)),(4,iv x35)]∧Sm W F w' F [box b2 #[iv x.f0,iv x.f1,iv x.f2,iv x.f3,.slice A0_4 x.f4.length c0_4,.slice A0_5 x.f5.length c0_5,.slice A0_6 x.f6.length c0_6] 26]∧qS.l36 kq37 x x35=some r) k17 ⟨_,0,Nat.le_refl _,E,.of,S,H⟩ ?_
  rintro kq37 a u39 ⟨G,x35,hkq,E,A,S,H⟩
  obtain _ | k38:=kq37
  ·
   exact zz H
  rw [qS.l36_s]at H
  obtain ⟨J,E⟩:=E.at A
  refine sq fun K40 hK40=>sq fun K41 hK41=>?_
  have J47:∀ kq45,kq45≤k38→∀(G:NV)(y43:Bool)(a:Act)(w':World),Env 83 G a→At G [(1,.pointer (pb b2)),(4,iv x35),(33,.bool y43)]→Sm W F w' F [box b2 #[iv x.f0,iv x.f1,iv x.f2,iv x.f3,.slice A0_4 x.f4.length c0_4,.slice A0_5 x.f5.length c0_5,.slice A0_6 x.f6.length c0_6] 26]→qS.j44 kq45 x x35 y43=some r→K41 a w':=by
   intro kq45 hkq G y43 a u48 E A S H
   obtain _ | k46:=kq45
   ·
    exact zz H
   rw [qS.j44_s]at H
   obtain ⟨J,E⟩:=E.at A
   refine hK41 _ _ ?_
   refine E.ib 33 H (fun c49 E H=>?_) fun c49 E H=>?_
   ·
    refine wp_skip (hK40 _ _ (sq fun K50 hK50=>wp_block (sq fun K51 hK51=>sq fun K52 hK52=>pl0 ?_)))
    have hb2:=S.ba 0
    obtain ⟨c53,H⟩:=gd H
    have hE_:=E
    obtain ⟨ad54,rfl⟩:=g0_6.addr c53.1 c53.2
    replace E:=hE_
    obtain ⟨cs56,⟨A58,c59,rfl,g60⟩,hc57⟩:=g0_6.el qC.z x35 c53.1 c53.2
    refine plc E (.r 0 1<|.b 1 6 hb2<|.r 2 1<|.x 3 c53<|.r 4 1<|.c 5 (S.fc hc57 1)<|.r 6 2<|.nil) (fun a E=>pld (hK52 _ _ ?_))
    refine E.ik 43 H (fun c61 E H=>?_) fun c61 E H=>?_
    ·
     refine rr E fun a E=>(wp_ret (qBb (qBc (qBb (qBb (qBc (qBb ?_)))))))
     replace S:=S.tail
     obtain rfl:=si H
     exact rt1 E ⟨_,rfl,_,rfl,S⟩
    refine wp_skip (hK51 _ _ (rr E fun a E=>(wp_block ?_)))
    refine wp_loop_ghost (fun kq66 a w'=>∃(G:NV)(x64:Int),kq66≤k46∧Env 83 G a∧At G [(1,.pointer (pb b2)),(4,iv x35),(5,iv x64)]∧Sm W F w' F [box b2 #[iv x.f0,iv x.f1,iv x.f2,iv x.f3,.slice A0_4 x.f4.length c0_4,.slice A0_5 x.f5.length c0_5,.slice (some ad54) x.f6.length c0_6] 26]∧qS.l65 kq66 x x35 x64=some r) k46 ⟨_,0,Nat.le_refl _,E,.of,S,H⟩ ?_
    rintro kq66 a u68 ⟨G,x64,hkq,E,A,S,H⟩
    obtain _ | k67:=kq66
    ·
     exact zz H
    rw [qS.l65_s]at H
    obtain ⟨J,E⟩:=E.at A
    refine sq fun K69 hK69=>sq fun K70 hK70=>pl0 ?_
    have hb2:=S.ba 0
    obtain ⟨cs72,⟨A74,c75,rfl,g76⟩,hc73⟩:=g0_6.el qC.z x35 c53.1 c53.2
    refine plc E (.r 0 2<|.b 2 6 hb2<|.r 3 1<|.x 4 c53<|.r 5 1<|.c 6 (S.fc hc73 1)<|.r 7 2<|.nil) (fun a E=>pld (hK70 _ _ ?_))
    refine E.ik 52 H (fun c77 E H=>?_) fun c77 E H=>?_
    ·
     refine wp_skip (hK69 _ _ (sq fun K78 hK78=>wp_block (sq fun K79 hK79=>pl0 ?_)))
     obtain ⟨c83,H⟩:=gd H
     have hE_:=E
     obtain ⟨ad84,rfl⟩:=g76.addr c83.1 c83.2
     replace E:=hE_
     obtain ⟨cs86,⟨A88,c89,rfl,g90⟩,hc87⟩:=g76.el qE.z x64 c83.1 c83.2
     refine plc E (.r 0 1<|.b 1 6 hb2<|.r 2 1<|.x 3 c53<|.r 4 1<|.c 5 (S.fc hc73 1)<|.r 6 1<|.x 7 c83<|.r 8 1<|.c 9 (S.fc hc87 1)<|.r 10 2<|.nil) (fun a E=>pld (hK79 _ _ ?_))
     refine E.ik 66 H (fun c91 E H=>?_) fun c91 E H=>?_
     ·
      refine rr E fun a E=>(wp_ret (qBc (qBb (qBb (qBc (qBc (qBb (qBb (qBc (qBb ?_))))))))))
      replace S:=S.tail
      obtain rfl:=si H
      exact rt1 E ⟨_,rfl,_,rfl,S⟩
     refine wp_skip ?_
     refine qBd ?_
     refine hK78 _ _ (pl0 (plc E (.r 0 3 .nil) (fun a E=>pld ?_)))
     exact qBf ⟨k67,by omega,_,(w64 (x64+1)),by omega,E,.of,S,H⟩
    refine wp_exit ?_
    refine hK50 _ _ (pl0 (plc E (.r 0 3 .nil) (fun a E=>pld ?_)))
    exact qBf ⟨k67,by omega,_,(w64 (x35+1)),by omega,E,.of,S,H⟩
   refine wp_exit ?_
   refine hK33 _ _ (sq fun K93 hK93=>pl0 ?_)
   have hb2:=S.ba 0
   refine plc E (.r 0 1<|.b 1 4 hb2<|.r 2 3<|.nil) (fun a E=>?_)
   rcases sp H with ⟨c94,H⟩ | ⟨c94,H⟩
   ·
    replace E:=E.kt 71 c94
    refine plc E (.r 5 1<|.b 6 5 hb2<|.r 7 4<|.nil) (fun a E=>?_)
    rcases sp H with ⟨c95,H⟩ | ⟨c95,H⟩
    ·
     replace E:=E.kt 77 c95
     refine plc E (.r 11 1<|.b 12 6 hb2<|.r 13 4<|.nil) (fun a E=>pld (hK93 _ _ (wp_ret ?_)))
     replace S:=S.tail
     obtain rfl:=si H
     exact rt1 E ⟨_,rfl,_,rfl,S⟩
    replace E:=E.kf 77 c95
    refine plc E (.r 11 6 .nil) (fun a E=>pld (hK93 _ _ (wp_ret ?_)))
    replace S:=S.tail
    obtain rfl:=si H
    exact rt1 E ⟨_,rfl,_,rfl,S⟩
   replace E:=E.kf 71 c94
   refine plc E (.r 5 12 .nil) (fun a E=>pld (hK93 _ _ (wp_ret ?_)))
   replace S:=S.tail
   obtain rfl:=si H
   exact rt1 E ⟨_,rfl,_,rfl,S⟩
  refine pl0 ?_
  have hb2:=S.ba 0
  refine plc E (.r 0 2<|.b 2 6 hb2<|.r 3 3<|.nil) (fun a E=>?_)
  rcases sp H with ⟨c42,H⟩ | ⟨c42,H⟩
  ·
   replace E:=E.kt 30 c42
   refine plc E (.r 6 3 .nil) (fun a E=>pld ?_)
   exact J47 _ (by omega) _ (decide (x35<20)) _ _ E .of S H
  replace E:=E.kf 30 c42
  refine plc E (.r 6 3 .nil) (fun a E=>pld ?_)
  exact J47 _ (by omega) _ false _ _ E .of S H
 refine pl0 ?_
 have hb2:=S.ba 0
 refine plc E (.r 0 2<|.b 2 5 hb2<|.r 3 3<|.nil) (fun a E=>?_)
 rcases sp H with ⟨c13,H⟩ | ⟨c13,H⟩
 ·
  replace E:=E.kt 11 c13
  refine plc E (.r 6 3 .nil) (fun a E=>pld ?_)
  exact J18 _ (by omega) _ (decide (x6<20)) _ _ E .of S H
 replace E:=E.kf 11 c13
 refine plc E (.r 6 3 .nil) (fun a E=>pld ?_)
 exact J18 _ (by omega) _ false _ _ E .of S H
mutual
def qJ.j17:Nat→qF→qf→Bool→Option Bool
 | 0,_,_,_=>none
 | k+1,x,y,y16=>if y16=true then ((qAV.f k).bind fun t25=>(some t25)) else ((qAZ.f k x y).bind fun t29=>(if t29.2=0 then (qJ.l64 k x y t29 0 t29.1.f6) else ((qd.f k t29.1 x).bind fun t50=>(if t50=true then ((qAV.f k).bind fun t54=>(some t54)) else (some false)))))
def qJ.l64:Nat→qF→qf→qF × Int→Int→List qC→Option Bool
 | 0,_,_,_,_,_=>none
 | k+1,x,y,t29,x58,l61=>if x58<x.f3 then ((qAg.f k x x58).bind fun t74=>((qAg.f k (⟨t29.1.f0,t29.1.f1,t29.1.f2,t29.1.f3,t29.1.f4,t29.1.f5,l61⟩:qF) x58).bind fun t82=>((qm.f k t74 t82).bind fun t91=>(if y.f0=8 then (if x58=y.f5 then (if (y.f6.length:Int)>0 then ((qm.f k t82 y.f6).bind fun t100=>(qJ.j104 k x y t29 x58 l61 (!t100))) else (qJ.j104 k x y t29 x58 l61 false)) else (if t91=true then (qJ.j104 k x y t29 x58 l61 false) else (qJ.j104 k x y t29 x58 l61 true))) else (if y.f0=3 then (qJ.j121 k x y t29 x58 l61 t91 true) else (if y.f0=4 then (qJ.j121 k x y t29 x58 l61 t91 true) else (if y.f0=9 then (qJ.j121 k x y t29 x58 l61 t91 true) else (if y.f0=7 then (qJ.j121 k x y t29 x58 l61 t91 true) else (qJ.j121 k x y t29 x58 l61 t91 (y.f0 == 10)))))))))) else ((qAV.f k).bind fun t134=>(some t134))
def qJ.j104:Nat→qF→qf→qF × Int→Int→List qC→Bool→Option Bool
 | 0,_,_,_,_,_,_=>none
 | k+1,x,y,t29,x58,l61,y103=>if y103=true then (some false) else (qJ.l64 k x y t29 (w64 (x58+1)) l61)
def qJ.j121:Nat→qF→qf→qF × Int→Int→List qC→Bool→Bool→Option Bool
 | 0,_,_,_,_,_,_,_=>none
 | k+1,x,y,t29,x58,l61,t91,y120=>if y120=true then (if t91=true then (qJ.l64 k x y t29 (w64 (x58+1)) l61) else (some false)) else (qJ.l64 k x y t29 (w64 (x58+1)) l61)
end
theorem qJ.j17_s k x y y16:type_of% (qJ.j17.eq_2 x y y16 k):=qJ.j17.eq_2 x y y16 k
theorem qJ.l64_s k x y t29 x58 l61:type_of% (qJ.l64.eq_2 x y t29 x58 l61 k):=qJ.l64.eq_2 x y t29 x58 l61 k
theorem qJ.j104_s k x y t29 x58 l61 y103:type_of% (qJ.j104.eq_2 x y t29 x58 l61 y103 k):=qJ.j104.eq_2 x y t29 x58 l61 y103 k
theorem qJ.j121_s k x y t29 x58 l61 t91 y120:type_of% (qJ.j121.eq_2 x y t29 x58 l61 t91 y120 k):=qJ.j121.eq_2 x y t29 x58 l61 t91 y120 k
def qJ.f(k:Nat)(x:qF)(y:qf):Option Bool:=(qS.f k x).bind fun t9=>(if t9=true then (if (y.f6.length:Int)>20 then (qJ.j17 k x y true) else ((qZ.f k x).bind fun t14=>(qJ.j17 k x y (!t14)))) else (qJ.j17 k x y true))
def qJ.Post(W F:World)(r:Bool)(v:Value)(w':World):Prop:=∃(F':World),v = .bool r∧Sm W F w' F' []
theorem qJ.calls(k:Nat)(x:qF)(y:qf)(A0_4:OA)(c0_4:Nat)(A0_5:OA)(c0_5:Nat)(A0_6:OA)(c0_6:Nat)(A1_6:OA)(c1_6:Nat)(r:Bool)(W F:World)(hown:Sub F W)(g0_4:Rd qA.k F A0_4 c0_4 x.f4)(g0_5:Rd qD.k F A0_5 c0_5 x.f5)(g0_6:Rd qC.k F A0_6 c0_6 x.f6)(g1_6:Rd ki F A1_6 c1_6 y.f6)(H:qJ.f k x y=some r):
    Cr 5 #[.agg #[iv x.f0,iv x.f1,iv x.f2,iv x.f3,.slice A0_4 x.f4.length c0_4,.slice A0_5 x.f5.length c0_5,.slice A0_6 x.f6.length c0_6],.agg #[iv y.f0,iv y.f1,iv y.f2,iv y.f3,iv y.f4,iv y.f5,.slice A1_6 y.f6.length c1_6]] W (qJ.Post W F r):=by
 have S:=St.start (Own.nil hown)
 unfold qJ.f at H
 refine ent 95 rfl rfl rfl (fun a E=>?_)
 refine sq fun K1 hK1=>pl0 (ple E (.bx (t:=26) S [iv x.f0,iv x.f1,iv x.f2,iv x.f3,.slice A0_4 x.f4.length c0_4,.slice A0_5 x.f5.length c0_5,.slice A0_6 x.f6.length c0_6]) ?_)
 rintro _ u3 a ⟨b2,rfl,hb2,S,hg⟩ E
 refine ple E (.bx (t:=40) S [iv y.f0,iv y.f1,iv y.f2,iv y.f3,iv y.f4,iv y.f5,.slice A1_6 y.f6.length c1_6]) ?_
 rintro _ u5 a ⟨b4,rfl,hb4,S,hg⟩ E
 refine plc E (.r 2 1 .nil) (fun a E=>pld (hK1 _ _ (sq fun K6 hK6=>sq fun K7 hK7=>?_)))
 have J20:∀ kq18,kq18≤k→∀(G:NV)(y16:Bool)(a:Act)(w':World),Env 95 G a→At G [(2,.pointer (pb b2)),(3,.pointer (pb b4)),(24,.bool y16)]→Sm W F w' F [box b4 #[iv y.f0,iv y.f1,iv y.f2,iv y.f3,iv y.f4,iv y.f5,.slice A1_6 y.f6.length c1_6] 40,box b2 #[iv x.f0,iv x.f1,iv x.f2,iv x.f3,.slice A0_4 x.f4.length c0_4,.slice A0_5 x.f5.length c0_5,.slice A0_6 x.f6.length c0_6] 26]→qJ.j17 kq18 x y y16=some r→K7 a w':=by
  intro kq18 hkq G y16 a u21 E A S H
  obtain _ | k19:=kq18
  ·
   exact zz H
  rw [qJ.j17_s]at H
  obtain ⟨J,E⟩:=E.at A
  refine hK7 _ _ ?_
  refine E.ib 24 H (fun c22 E H=>?_) fun c22 E H=>?_
  ·
   refine sq fun K23 hK23=>pl0 ?_
   obtain ⟨t25,h26,H⟩:=bd H
   refine ple E (.cl en17 (qAV.calls k19 _ _ _ S.own.sub h26)) ?_
   rintro _ u24 a ⟨_,rfl,hC⟩ E
   replace S:=S.lent hC
   refine plc E (.r 1 1 .nil) (fun a E=>pld (hK23 _ _ (wp_ret (qBb ?_))))
   replace S:=S.pm [] 2
   obtain rfl:=si H
   exact rt1 E ⟨_,rfl,_,rfl,S⟩
  refine wp_skip (hK6 _ _ (sq fun K27 hK27=>pl0 ?_))
  have hb2:=S.ba 1
  have hb4:=S.ba 0
  refine plc E (.bn 0 0 7 hb2<|.bn 1 0 7 hb4<|.nil) (fun a E=>?_)
  obtain ⟨t29,h30,H⟩:=bd H
  refine ple E (.cl en26 (qAZ.calls k19 x y _ _ _ _ _ _ _ _ _ _ _ S.own.sub g0_4 g0_5 g0_6 g1_6 h30)) ?_
  rintro _ u28 a ⟨F31,A32,c33,A35,c36,A38,c39,rfl,hC,g34,g37⟩ E
  have hs:=hC.sub
  replace S:=S.called (X:=[]) hC
  replace g0_4:=g0_4.mono hs
  replace g0_5:=g0_5.mono hs
  replace g0_6:=g0_6.mono hs
  replace g1_6:=g1_6.mono hs
  refine plc E (.r 3 3 .nil) (fun a E=>ple E (.al (t:=26) S [iv 0,iv 0,iv 0,iv 0,.slice none 0 0,.slice none 0 0,.slice none 0 0]) ?_)
  rintro _ u43 a ⟨b42,rfl,hb42,S,hg⟩ E
  refine ple E (.sto S [iv t29.1.f0,iv t29.1.f1,iv t29.1.f2,iv t29.1.f3,.slice A32 t29.1.f4.length c33,.slice A35 t29.1.f5.length c36,.slice A38 t29.1.f6.length c39]) ?_
  rintro _ u44 a ⟨rfl,hb42,S,hz⟩ E
  refine plc E (.r 8 1 .nil) (fun a E=>pld (hK27 _ _ (sq fun K45 hK45=>rr E fun a E=>?_)))
  refine E.ikn 33 H (fun c47 E H=>?_) fun c47 E H=>?_
  ·
   refine wp_skip (hK45 _ _ (sq fun K56 hK56=>rr E fun a E=>(wp_block ?_)))
   replace S:=S.front 1 rfl
   obtain ⟨F130,hs,g131,S⟩:=S.give
   replace g34:=g34.mono hs
   replace g37:=g37.mono hs
   replace g0_4:=g0_4.mono hs
   replace g0_5:=g0_5.mono hs
   replace g0_6:=g0_6.mono hs
   replace g1_6:=g1_6.mono hs
   refine wp_loop_ghost (fun kq65 a w'=>∃(G:NV)(x58:Int)(A59:OA)(c60:Nat)(l61:List qC)(F63:World),kq65≤k19∧Env 95 G a∧At G [(2,.pointer (pb b2)),(3,.pointer (pb b4)),(5,.pointer (pb b42)),(7,iv x58)]∧Sm W F w' F63 [box b42 #[iv t29.1.f0,iv t29.1.f1,iv t29.1.f2,iv t29.1.f3,.slice A32 t29.1.f4.length c33,.slice A35 t29.1.f5.length c36,.slice A59 l61.length c60] 26,box b4 #[iv y.f0,iv y.f1,iv y.f2,iv y.f3,iv y.f4,iv y.f5,.slice A1_6 y.f6.length c1_6] 40,box b2 #[iv x.f0,iv x.f1,iv x.f2,iv x.f3,.slice A0_4 x.f4.length c0_4,.slice A0_5 x.f5.length c0_5,.slice A0_6 x.f6.length c0_6] 26]∧Rd qC.k F63 A59 c60 l61∧Rd qA.k F63 A32 c33 t29.1.f4∧Rd qD.k F63 A35 c36 t29.1.f5∧Rd ki F63 A1_6 c1_6 y.f6∧Rd qA.k F63 A0_4 c0_4 x.f4∧Rd qD.k F63 A0_5 c0_5 x.f5∧Rd qC.k F63 A0_6 c0_6 x.f6∧qJ.l64 kq65 x y t29 x58 l61=some r) k19 ⟨_,0,A38,c39,t29.1.f6,F130,Nat.le_refl _,E,.of,S,g131,g34,g37,g1_6,g0_4,g0_5,g0_6,H⟩ ?_
   rintro kq65 a u67 ⟨G,x58,A59,c60,l61,F63,hkq,E,A,S,g62,g34,g37,g1_6,g0_4,g0_5,g0_6,H⟩
   obtain _ | k66:=kq65
   ·
    exact zz H
   rw [qJ.l64_s]at H
   obtain ⟨J,E⟩:=E.at A
   refine sq fun K68 hK68=>sq fun K69 hK69=>pl0 ?_
   have hb2:=S.ba 2
   refine plc E (.r 0 2<|.b 2 3 hb2<|.r 3 1<|.nil) (fun a E=>pld (hK69 _ _ ?_))
   refine E.ik 43 H (fun c70 E H=>?_) fun c70 E H=>?_
   ·
    refine wp_skip (hK68 _ _ (sq fun K71 hK71=>wp_block (sq fun K72 hK72=>?_)))
    refine drawn 8 ⟨[],[],fun q=>False⟩ mixed rfl (by kernel_rfl) (fun hst=>?_)
    replace S:=S.drew
    have hb2:=S.ba 2
    have hb42:=S.ba 0
    refine mny 4 hst E (.bn 0 0 7 hb2<|.r 1 1<|.bn 3 0 7 hb42<|.r 4 1<|.nil) (fun a E=>?_)
    obtain ⟨t74,h75,H⟩:=bd H
    refine on1 2 E (.cl en22 (qAg.calls k66 x x58 _ _ _ _ _ _ _ _ _ S.own.sub g0_4 g0_5 g0_6 h75)) ?_
    rintro _ u73 a ⟨F76,A77,c78,rfl,hC⟩ E
    refine ⟨.of hC.agr,?_⟩
    have hs:=hC.sub
    replace S:=S.called (X:=[]) hC
    replace g0_4:=g0_4.mono hs
    replace g0_5:=g0_5.mono hs
    replace g0_6:=g0_6.mono hs
    replace g34:=g34.mono hs
    replace g37:=g37.mono hs
    replace g62:=g62.mono hs
    replace g1_6:=g1_6.mono hs
    obtain ⟨t82,h83,H⟩:=bd H
    refine on1 5 E (.cl en22 (qAg.calls k66 (⟨t29.1.f0,t29.1.f1,t29.1.f2,t29.1.f3,t29.1.f4,t29.1.f5,l61⟩:qF) x58 _ _ _ _ _ _ _ _ _ S.own.sub g34 g37 g62 h83)) ?_
    rintro _ u81 a ⟨F84,A85,c86,rfl,hC⟩ E
    refine ⟨.of hC.agr,?_⟩
    have hs:=hC.sub
    replace S:=S.called (X:=[]) hC
    replace g0_4:=g0_4.mono hs
    replace g0_5:=g0_5.mono hs
    replace g0_6:=g0_6.mono hs
    replace g34:=g34.mono hs
    replace g37:=g37.mono hs
    replace g62:=g62.mono hs
    replace g1_6:=g1_6.mono hs
    refine mny 0 hst E (.r 6 2 .nil) (fun a E=>?_)
    refine dn ?_
    refine hK72 _ _ (sq fun K89 hK89=>pl0 (plc E (.r 0 2 .nil) (fun a E=>?_)))
    obtain ⟨t91,h92,H⟩:=bd H
    refine ple E (.cl en21 (qm.calls k66 t74 t82 _ _ _ _ _ _ _ (Sub.refl _) (S.rd_at (i:=1) rfl) (S.rd_at (i:=0) rfl) h92)) ?_
    rintro _ u90 a ⟨_,rfl,hC⟩ E
    replace S:=S.lent hC
    refine plc E (.r 3 1 .nil) (fun a E=>pld (hK89 _ _ (sq fun K93 hK93=>pl0 ?_)))
    have hb4:=S.ba 3
    refine plc E (.r 0 1<|.b 1 0 hb4<|.nil) (fun a E=>pld (hK93 _ _ (wp_block (rr E fun a E=>?_))))
    refine E.ik 57 H (fun c95 E H=>?_) fun c95 E H=>?_
    ·
     refine sq fun K96 hK96=>?_
     have J107:∀ kq105,kq105≤k66→∀(G:NV)(y103:Bool)(a:Act)(w':World),Env 95 G a→At G [(2,.pointer (pb b2)),(3,.pointer (pb b4)),(5,.pointer (pb b42)),(7,iv x58),(85,.bool y103)]→Sm W F w' F84 [box b42 #[iv t29.1.f0,iv t29.1.f1,iv t29.1.f2,iv t29.1.f3,.slice A32 t29.1.f4.length c33,.slice A35 t29.1.f5.length c36,.slice A59 l61.length c60] 26,box b4 #[iv y.f0,iv y.f1,iv y.f2,iv y.f3,iv y.f4,iv y.f5,.slice A1_6 y.f6.length c1_6] 40,box b2 #[iv x.f0,iv x.f1,iv x.f2,iv x.f3,.slice A0_4 x.f4.length c0_4,.slice A0_5 x.f5.length c0_5,.slice A0_6 x.f6.length c0_6] 26]→qJ.j104 kq105 x y t29 x58 l61 y103=some r→K96 a w':=by
      intro kq105 hkq G y103 a u108 E A S H
      obtain _ | k106:=kq105
      ·
       exact zz H
      rw [qJ.j104_s]at H
      obtain ⟨J,E⟩:=E.at A
      refine hK96 _ _ ?_
      refine E.ib 85 H (fun c109 E H=>?_) fun c109 E H=>?_
      ·
       refine rr E fun a E=>(wp_ret (qBc (qBc (qBb (qBb (qBc (qBb ?_)))))))
       replace S:=S.pm [] 3
       obtain rfl:=si H
       exact rt1 E ⟨_,rfl,_,rfl,S⟩
      refine wp_skip ?_
      refine qBd ?_
      refine qBd ?_
      refine hK71 _ _ (pl0 (plc E (.r 0 3 .nil) (fun a E=>pld ?_)))
      exact qBf ⟨k106,by omega,_,(w64 (x58+1)),A59,c60,l61,F84,by omega,E,.of,S,g62,g34,g37,g1_6,g0_4,g0_5,g0_6,H⟩
     refine pl0 (plc E (.r 0 2<|.b 2 5 hb4<|.r 3 2<|.nil) (fun a E=>?_))
     rcases sp H with ⟨c97,H⟩ | ⟨c97,H⟩
     ·
      replace E:=E.ktn 63 c97
      refine plc E (.r 5 6<|.b 11 5 hb4<|.r 12 2<|.nil) (fun a E=>?_)
      replace E:=E.kt 72 c97
      refine plc E (.r 14 1<|.b 15 6 hb4<|.r 16 4<|.nil) (fun a E=>?_)
      rcases sp H with ⟨c98,H⟩ | ⟨c98,H⟩
      ·
       replace E:=E.kt 78 c98
       refine plc E (.r 20 2<|.b 22 6 hb4<|.nil) (fun a E=>?_)
       obtain ⟨t100,h101,H⟩:=bd H
       refine ple E (.cl en21 (qm.calls k66 t82 y.f6 _ _ _ _ _ _ _ (Sub.refl _) (S.rd_at (i:=0) rfl) (g1_6.mono S.own.sub) h101)) ?_
       rintro _ u99 a ⟨_,rfl,hC⟩ E
       replace S:=S.lent hC
       refine plc E (.r 24 3 .nil) (fun a E=>pld ?_)
       replace S:=S.pm [] 2
       exact J107 _ (by omega) _ (!t100) _ _ E .of S H
      replace E:=E.kf 78 c98
      refine plc E (.r 20 7 .nil) (fun a E=>pld ?_)
      replace S:=S.pm [] 2
      exact J107 _ (by omega) _ false _ _ E .of S H
     replace E:=E.kfn 63 c97
     refine plc E (.r 5 4 .nil) (fun a E=>?_)
     rcases sp H with ⟨c102,H⟩ | ⟨c102,H⟩
     ·
      replace E:=E.btn 67 c102
      refine plc E (.r 9 2<|.b 11 5 hb4<|.r 12 2<|.nil) (fun a E=>?_)
      replace E:=E.kf 72 c97
      refine plc E (.r 14 13 .nil) (fun a E=>pld ?_)
      replace S:=S.pm [] 2
      exact J107 _ (by omega) _ false _ _ E .of S H
     replace E:=E.bfn 67 c102
     refine plc E (.r 9 18 .nil) (fun a E=>pld ?_)
     replace S:=S.pm [] 2
     exact J107 _ (by omega) _ true _ _ E .of S H
    refine sq fun K111 hK111=>?_
    have J124:∀ kq122,kq122≤k66→∀(G:NV)(y120:Bool)(a:Act)(w':World),Env 95 G a→At G [(2,.pointer (pb b2)),(3,.pointer (pb b4)),(5,.pointer (pb b42)),(7,iv x58),(10,.bool t91),(86,.bool y120)]→Sm W F w' F84 [box b42 #[iv t29.1.f0,iv t29.1.f1,iv t29.1.f2,iv t29.1.f3,.slice A32 t29.1.f4.length c33,.slice A35 t29.1.f5.length c36,.slice A59 l61.length c60] 26,box b4 #[iv y.f0,iv y.f1,iv y.f2,iv y.f3,iv y.f4,iv y.f5,.slice A1_6 y.f6.length c1_6] 40,box b2 #[iv x.f0,iv x.f1,iv x.f2,iv x.f3,.slice A0_4 x.f4.length c0_4,.slice A0_5 x.f5.length c0_5,.slice A0_6 x.f6.length c0_6] 26]→qJ.j121 kq122 x y t29 x58 l61 t91 y120=some r→K111 a w':=by
     intro kq122 hkq G y120 a u125 E A S H
     obtain _ | k123:=kq122
     ·
      exact zz H
     rw [qJ.j121_s]at H
     obtain ⟨J,E⟩:=E.at A
     refine hK111 _ _ ?_
     refine E.ib 86 H (fun c126 E H=>?_) fun c126 E H=>?_
     ·
      refine rr E fun a E=>?_
      refine E.ibn 93 H (fun c128 E H=>?_) fun c128 E H=>?_
      ·
       refine wp_skip ?_
       refine qBd ?_
       refine qBd ?_
       refine hK71 _ _ (pl0 (plc E (.r 0 3 .nil) (fun a E=>pld ?_)))
       exact qBf ⟨k123,by omega,_,(w64 (x58+1)),A59,c60,l61,F84,by omega,E,.of,S,g62,g34,g37,g1_6,g0_4,g0_5,g0_6,H⟩
      refine rr E fun a E=>(wp_ret (qBc (qBc (qBb (qBb (qBc (qBb ?_)))))))
      replace S:=S.pm [] 3
      obtain rfl:=si H
      exact rt1 E ⟨_,rfl,_,rfl,S⟩
     refine wp_skip ?_
     refine qBd ?_
     refine qBd ?_
     refine hK71 _ _ (pl0 (plc E (.r 0 3 .nil) (fun a E=>pld ?_)))
     exact qBf ⟨k123,by omega,_,(w64 (x58+1)),A59,c60,l61,F84,by omega,E,.of,S,g62,g34,g37,g1_6,g0_4,g0_5,g0_6,H⟩
    refine rr E fun a E=>?_
    refine E.ik 86 H (fun c113 E H=>?_) fun c113 E H=>?_
    ·
     refine wp_skip ?_
     replace S:=S.pm [] 2
     exact J124 _ (by omega) _ true _ _ E .of S H
    refine rr E fun a E=>?_
    refine E.ik 86 H (fun c115 E H=>?_) fun c115 E H=>?_
    ·
     refine wp_skip ?_
     replace S:=S.pm [] 2
     exact J124 _ (by omega) _ true _ _ E .of S H
    refine rr E fun a E=>?_
    refine E.ik 86 H (fun c117 E H=>?_) fun c117 E H=>?_
    ·
     refine wp_skip ?_
     replace S:=S.pm [] 2
     exact J124 _ (by omega) _ true _ _ E .of S H
    refine rr E fun a E=>?_
    refine E.ik 86 H (fun c119 E H=>?_) fun c119 E H=>?_
    ·
     refine wp_skip ?_
     replace S:=S.pm [] 2
     exact J124 _ (by omega) _ true _ _ E .of S H
    refine pl0 (plc E (.r 0 2 .nil) (fun a E=>pld ?_))
    replace S:=S.pm [] 2
    exact J124 _ (by omega) _ (y.f0 == 10) _ _ E .of S H
   refine wp_exit ?_
   refine hK56 _ _ (sq fun K132 hK132=>pl0 ?_)
   obtain ⟨t134,h135,H⟩:=bd H
   refine ple E (.cl en17 (qAV.calls k66 _ _ _ S.own.sub h135)) ?_
   rintro _ u133 a ⟨_,rfl,hC⟩ E
   replace S:=S.lent hC
   refine plc E (.r 1 1 .nil) (fun a E=>pld (hK132 _ _ (wp_ret ?_)))
   replace S:=S.pm [] 3
   obtain rfl:=si H
   exact rt1 E ⟨_,rfl,_,rfl,S⟩
  refine sq fun K48 hK48=>pl0 ?_
  have hb2:=S.ba 3
  refine plc E (.bn 0 0 7 hb42<|.bn 1 0 7 hb2<|.nil) (fun a E=>?_)
  obtain ⟨t50,h51,H⟩:=bd H
  refine ple E (.cl en16 (qd.calls k19 t29.1 x _ _ _ _ _ _ _ _ _ _ _ _ _ _ _ (Sub.refl _) (g34.mono S.own.sub) (g37.mono S.own.sub) (S.rd_at (i:=1) rfl) (g0_4.mono S.own.sub) (g0_5.mono S.own.sub) (g0_6.mono S.own.sub) h51)) ?_
  rintro _ u49 a ⟨_,rfl,hC⟩ E
  replace S:=S.lent hC
  refine plc E (.r 3 1 .nil) (fun a E=>?_)
  rcases sp H with ⟨c52,H⟩ | ⟨c52,H⟩
  ·
   replace E:=E.bt 37 c52
   obtain ⟨t54,h55,H⟩:=bd H
   refine ple E (.cl en17 (qAV.calls k19 _ _ _ S.own.sub h55)) ?_
   rintro _ u53 a ⟨_,rfl,hC⟩ E
   replace S:=S.lent hC
   refine plc E (.r 5 2 .nil) (fun a E=>pld (hK48 _ _ (wp_ret (qBb ?_))))
   replace S:=S.pm [] 4
   obtain rfl:=si H
   exact rt1 E ⟨_,rfl,_,rfl,S⟩
  replace E:=E.bf 37 c52
  refine plc E (.r 4 3 .nil) (fun a E=>pld (hK48 _ _ (wp_ret (qBb ?_))))
  replace S:=S.pm [] 4
  obtain rfl:=si H
  exact rt1 E ⟨_,rfl,_,rfl,S⟩
 refine pl0 ?_
 have hb2:=S.ba 1
 refine plc E (.bn 0 0 7 hb2 .nil) (fun a E=>?_)
 obtain ⟨t9,h10,H⟩:=bd H
 refine ple E (.cl en20 (qS.calls k x _ _ _ _ _ _ _ _ _ S.own.sub g0_4 g0_5 g0_6 h10)) ?_
 rintro _ u8 a ⟨_,rfl,hC⟩ E
 replace S:=S.lent hC
 refine plc E (.r 2 2 .nil) (fun a E=>?_)
 rcases sp H with ⟨c11,H⟩ | ⟨c11,H⟩
 ·
  replace E:=E.btn 14 c11
  have hb4:=S.ba 0
  refine plc E (.r 4 1<|.b 5 6 hb4<|.r 6 4<|.nil) (fun a E=>?_)
  rcases sp H with ⟨c12,H⟩ | ⟨c12,H⟩
  ·
   replace E:=E.kt 20 c12
   refine plc E (.r 10 4 .nil) (fun a E=>pld ?_)
   exact J20 _ (by omega) _ true _ _ E .of S H
  replace E:=E.kf 20 c12
  have hb2:=S.ba 1
  refine plc E (.bn 10 0 7 hb2 .nil) (fun a E=>?_)
  obtain ⟨t14,h15,H⟩:=bd H
  refine ple E (.cl en19 (qZ.calls k x _ _ _ _ _ _ _ _ _ S.own.sub g0_4 g0_5 g0_6 h15)) ?_
  rintro _ u13 a ⟨_,rfl,hC⟩ E
  replace S:=S.lent hC
  refine plc E (.r 12 2 .nil) (fun a E=>pld ?_)
  exact J20 _ (by omega) _ (!t14) _ _ E .of S H
 replace E:=E.bfn 14 c11
 refine plc E (.r 4 10 .nil) (fun a E=>pld ?_)
 exact J20 _ (by omega) _ true _ _ E .of S H
end Go.Proofs.YtpohepinmjmbkaaGreat.MM
