import Derived.Test.YtpabbpebefdafaaPM0
namespace Go.Proofs.Ytpabbpebefdafaa.PM
open Go Go.RowKit Go.Proofs.Ytpabbpebefdafaa.Sl
set_option linter.unusedVariables false
set_option linter.unusedSimpArgs false
set_option maxHeartbeats 4000000
set_option maxRecDepth 100000
mutual
def qF.l7:Nat→qK→Int→Option Bool
 | 0,_,_=>none
 | k+1,x,x6=>if x6<(x.f5.length:Int) then (qF.j15 k x x6 (decide (x6<20))) else (qF.j15 k x x6 false)
def qF.j15:Nat→qK→Int→Bool→Option Bool
 | 0,_,_,_=>none
 | k+1,x,x6,y14=>if y14=true then (if 0≤x6∧x6<(x.f5.length:Int) then (if (((nth qI.z x.f5 x6).f1).length:Int)>20 then (some false) else (qF.l7 k x (w64 (x6+1)))) else (none)) else (qF.l36 k x 0)
def qF.l36:Nat→qK→Int→Option Bool
 | 0,_,_=>none
 | k+1,x,x35=>if x35<(x.f6.length:Int) then (qF.j44 k x x35 (decide (x35<20))) else (qF.j44 k x x35 false)
def qF.j44:Nat→qK→Int→Bool→Option Bool
 | 0,_,_,_=>none
 | k+1,x,x35,y43=>if y43=true then (if 0≤x35∧x35<(x.f6.length:Int) then (if (((nth qC.z x.f6 x35).f1).length:Int)>20 then (some false) else (qF.l65 k x x35 0)) else (none)) else (if (x.f4.length:Int)≤30 then (if (x.f5.length:Int)≤20 then (some (decide ((x.f6.length:Int)≤20))) else (some false)) else (some false))
def qF.l65:Nat→qK→Int→Int→Option Bool
 | 0,_,_,_=>none
 | k+1,x,x35,x64=>if x64<(((nth qC.z x.f6 x35).f1).length:Int) then (if 0≤x64∧x64<(((nth qC.z x.f6 x35).f1).length:Int) then (if (((nth qD.z ((nth qC.z x.f6 x35).f1) x64).f1).length:Int)>20 then (some false) else (qF.l65 k x x35 (w64 (x64+1)))) else (none)) else (qF.l36 k x (w64 (x35+1)))
end
theorem qF.l7_s k x x6:type_of% (qF.l7.eq_2 x x6 k):=qF.l7.eq_2 x x6 k
theorem qF.j15_s k x x6 y14:type_of% (qF.j15.eq_2 x x6 y14 k):=qF.j15.eq_2 x x6 y14 k
theorem qF.l36_s k x x35:type_of% (qF.l36.eq_2 x x35 k):=qF.l36.eq_2 x x35 k
theorem qF.j44_s k x x35 y43:type_of% (qF.j44.eq_2 x x35 y43 k):=qF.j44.eq_2 x x35 y43 k
theorem qF.l65_s k x x35 x64:type_of% (qF.l65.eq_2 x x35 x64 k):=qF.l65.eq_2 x x35 x64 k
def qF.f(k:Nat)(x:qK):Option Bool:=qF.l7 k x 0
def qF.Post(W F:World)(r:Bool)(v:Value)(w':World):Prop:=∃(F':World),v = .bool r∧Sm W F w' F' []
theorem qF.calls(k:Nat)(x:qK)(A0_4:OA)(c0_4:Nat)(A0_5:OA)(c0_5:Nat)(A0_6:OA)(c0_6:Nat)(r:Bool)(W F:World)(hown:Sub F W)(g0_4:Rd qA.k F A0_4 c0_4 x.f4)(g0_5:Rd qI.k F A0_5 c0_5 x.f5)(g0_6:Rd qC.k F A0_6 c0_6 x.f6)(H:qF.f k x=some r):
    Cr 15 #[.agg #[iv x.f0,iv x.f1,iv x.f2,iv x.f3,.slice A0_4 x.f4.length c0_4,.slice A0_5 x.f5.length c0_5,.slice A0_6 x.f6.length c0_6]] W (qF.Post W F r):=by
 have S:=sT hown
 unfold qF.f at H
 refine ent 83 rfl rfl rfl (fun a E=>?_)
 refine sq fun K1 hK1=>pl0 (plx (t:=65) E S [iv x.f0,iv x.f1,iv x.f2,iv x.f3,.slice A0_4 x.f4.length c0_4,.slice A0_5 x.f5.length c0_5,.slice A0_6 x.f6.length c0_6] fun b2 u3 hb2 S a E=>plc E (.r 1 1 .nil) (fun a E=>pld (hK1 _ _ (sq fun K4 hK4=>rr E fun a E=>(wp_block ?_)))))
 refine wp_loop_ghost (fun kq8 a w'=>∃(G:NV)(x6:Int),kq8≤k∧Env 83 G a∧At G [(1,.pointer (pb b2)),(3,iv x6)]∧Sm W F w' F [box b2 #[iv x.f0,iv x.f1,iv x.f2,iv x.f3,.slice A0_4 x.f4.length c0_4,.slice A0_5 x.f5.length c0_5,.slice A0_6 x.f6.length c0_6] 65]∧qF.l7 kq8 x x6=some r) k ⟨_,0,Nat.le_refl _,E,.of,S,H⟩ ?_
 rintro kq8 a u10 ⟨G,x6,hkq,E,A,S,H⟩
 obtain _ | k9:=kq8
 exact zz H
 rw [qF.l7_s]at H
 obtain ⟨J,E⟩:=E.at A
 refine sq fun K11 hK11=>sq fun K12 hK12=>?_
 have J18:∀ kq16,kq16≤k9→∀(G:NV)(y14:Bool)(a:Act)(w':World),Env 83 G a→At G [(1,.pointer (pb b2)),(3,iv x6),(14,.bool y14)]→Sm W F w' F [box b2 #[iv x.f0,iv x.f1,iv x.f2,iv x.f3,.slice A0_4 x.f4.length c0_4,.slice A0_5 x.f5.length c0_5,.slice A0_6 x.f6.length c0_6] 65]→qF.j15 kq16 x x6 y14=some r→K12 a w':=by
  intro kq16 hkq G y14 a u19 E A S H
  obtain _ | k17:=kq16
  exact zz H
  rw [qF.j15_s]at H
  obtain ⟨J,E⟩:=E.at A
  refine hK12 _ _ (E.ib 14 H (fun c20 E H=>?_) fun c20 E H=>?_)
  refine wp_skip (hK11 _ _ (sq fun K21 hK21=>wp_block (sq fun K22 hK22=>pl0 ?_)))
  have hb2:=S.ba 0
  obtain ⟨c23,H⟩:=gd H
  have hE_:=E
  obtain ⟨ad24,rfl⟩:=g0_5.addr c23.1 c23.2
  replace E:=hE_
  obtain ⟨cs26,⟨A28,c29,rfl,g30⟩,hc27⟩:=g0_5.el qI.z x6 c23.1 c23.2
  refine plc E (.r 0 1<|.b 1 5 hb2<|.r 2 1<|.x 3 c23<|.r 4 1<|.c 5 (S.fc hc27 1)<|.r 6 2<|.nil) (fun a E=>pld (hK22 _ _ (E.ik 24 H (fun c31 E H=>?_) fun c31 E H=>?_)))
  refine rr E fun a E=>(wp_ret (qAI (qAH (qAH (qAI (qAH ?_))))))
  replace S:=S.tail
  obtain rfl:=si H
  exact rt1 E ⟨_,rfl,_,rfl,S⟩
  refine wp_skip ?_
  refine qAL ?_
  refine hK21 _ _ (pl0 (plc E (.r 0 3 .nil) (fun a E=>pld ?_)))
  exact qAM ⟨k17,by omega,_,(w64 (x6+1)),by omega,E,.of,S,H⟩
  refine wp_exit ?_
  refine hK4 _ _ (sq fun K33 hK33=>rr E fun a E=>(wp_block ?_))
  refine wp_loop_ghost (fun kq37 a w'=>∃(G:NV)(x35:Int),kq37≤k17∧Env 83 G a∧At G [(1,.pointer (pb b2)),(4,iv x35)]∧Sm W F w' F [box b2 #[iv x.f0,iv x.f1,iv x.f2,iv x.f3,.slice A0_4 x.f4.length c0_4,.slice A0_5 x.f5.length c0_5,.slice A0_6 x.f6.length c0_6] 65]∧qF.l36 kq37 x x35=some r) k17 ⟨_,0,Nat.le_refl _,E,.of,S,H⟩ ?_
  rintro kq37 a u39 ⟨G,x35,hkq,E,A,S,H⟩
  obtain _ | k38:=kq37
  exact zz H
  rw [qF.l36_s]at H
  obtain ⟨J,E⟩:=E.at A
  refine sq fun K40 hK40=>sq fun K41 hK41=>?_
  have J47:∀ kq45,kq45≤k38→∀(G:NV)(y43:Bool)(a:Act)(w':World),Env 83 G a→At G [(1,.pointer (pb b2)),(4,iv x35),(33,.bool y43)]→Sm W F w' F [box b2 #[iv x.f0,iv x.f1,iv x.f2,iv x.f3,.slice A0_4 x.f4.length c0_4,.slice A0_5 x.f5.length c0_5,.slice A0_6 x.f6.length c0_6] 65]→qF.j44 kq45 x x35 y43=some r→K41 a w':=by
   intro kq45 hkq G y43 a u48 E A S H
   obtain _ | k46:=kq45
   exact zz H
   rw [qF.j44_s]at H
   obtain ⟨J,E⟩:=E.at A
   refine hK41 _ _ (E.ib 33 H (fun c49 E H=>?_) fun c49 E H=>?_)
   refine wp_skip (hK40 _ _ (sq fun K50 hK50=>wp_block (sq fun K51 hK51=>sq fun K52 hK52=>pl0 ?_)))
   have hb2:=S.ba 0
   obtain ⟨c53,H⟩:=gd H
   have hE_:=E
   obtain ⟨ad54,rfl⟩:=g0_6.addr c53.1 c53.2
   replace E:=hE_
   obtain ⟨cs56,⟨A58,c59,rfl,g60⟩,hc57⟩:=g0_6.el qC.z x35 c53.1 c53.2
   refine plc E (.r 0 1<|.b 1 6 hb2<|.r 2 1<|.x 3 c53<|.r 4 1<|.c 5 (S.fc hc57 1)<|.r 6 2<|.nil) (fun a E=>pld (hK52 _ _ (E.ik 43 H (fun c61 E H=>?_) fun c61 E H=>?_)))
   refine rr E fun a E=>(wp_ret (qAH (qAI (qAH (qAH (qAI (qAH ?_)))))))
   replace S:=S.tail
   obtain rfl:=si H
   exact rt1 E ⟨_,rfl,_,rfl,S⟩
   refine wp_skip (hK51 _ _ (rr E fun a E=>(wp_block ?_)))
   refine wp_loop_ghost (fun kq66 a w'=>∃(G:NV)(x64:Int),kq66≤k46∧Env 83 G a∧At G [(1,.pointer (pb b2)),(4,iv x35),(5,iv x64)]∧Sm W F w' F [box b2 #[iv x.f0,iv x.f1,iv x.f2,iv x.f3,.slice A0_4 x.f4.length c0_4,.slice A0_5 x.f5.length c0_5,.slice (some ad54) x.f6.length c0_6] 65]∧qF.l65 kq66 x x35 x64=some r) k46 ⟨_,0,Nat.le_refl _,E,.of,S,H⟩ ?_
   rintro kq66 a u68 ⟨G,x64,hkq,E,A,S,H⟩
   obtain _ | k67:=kq66
   exact zz H
   rw [qF.l65_s]at H
   obtain ⟨J,E⟩:=E.at A
   refine sq fun K69 hK69=>sq fun K70 hK70=>pl0 ?_
   have hb2:=S.ba 0
   obtain ⟨cs72,⟨A74,c75,rfl,g76⟩,hc73⟩:=g0_6.el qC.z x35 c53.1 c53.2
   refine plc E (.r 0 2<|.b 2 6 hb2<|.r 3 1<|.x 4 c53<|.r 5 1<|.c 6 (S.fc hc73 1)<|.r 7 2<|.nil) (fun a E=>pld (hK70 _ _ (E.ik 52 H (fun c77 E H=>?_) fun c77 E H=>?_)))
   refine wp_skip (hK69 _ _ (sq fun K78 hK78=>wp_block (sq fun K79 hK79=>pl0 ?_)))
   obtain ⟨c83,H⟩:=gd H
   have hE_:=E
   obtain ⟨ad84,rfl⟩:=g76.addr c83.1 c83.2
   replace E:=hE_
   obtain ⟨cs86,⟨A88,c89,rfl,g90⟩,hc87⟩:=g76.el qD.z x64 c83.1 c83.2
   refine plc E (.r 0 1<|.b 1 6 hb2<|.r 2 1<|.x 3 c53<|.r 4 1<|.c 5 (S.fc hc73 1)<|.r 6 1<|.x 7 c83<|.r 8 1<|.c 9 (S.fc hc87 1)<|.r 10 2<|.nil) (fun a E=>pld (hK79 _ _ (E.ik 66 H (fun c91 E H=>?_) fun c91 E H=>?_)))
   refine rr E fun a E=>(wp_ret (qAI (qAH (qAH (qAI (qAI (qAH (qAH (qAI (qAH ?_))))))))))
   replace S:=S.tail
   obtain rfl:=si H
   exact rt1 E ⟨_,rfl,_,rfl,S⟩
   refine wp_skip ?_
   refine qAL ?_
   refine hK78 _ _ (pl0 (plc E (.r 0 3 .nil) (fun a E=>pld ?_)))
   exact qAM ⟨k67,by omega,_,(w64 (x64+1)),by omega,E,.of,S,H⟩
   refine wp_exit ?_
   refine hK50 _ _ (pl0 (plc E (.r 0 3 .nil) (fun a E=>pld ?_)))
   exact qAM ⟨k67,by omega,_,(w64 (x35+1)),by omega,E,.of,S,H⟩
   refine wp_exit ?_
   refine hK33 _ _ (sq fun K93 hK93=>pl0 ?_)
   have hb2:=S.ba 0
   refine plc E (.r 0 1<|.b 1 4 hb2<|.r 2 3<|.nil) (fun a E=>E.fk 71 H (fun c94 E H=>?_) fun c94 E H=>?_)
   refine plc E (.r 5 1<|.b 6 5 hb2<|.r 7 4<|.nil) (fun a E=>E.fk 77 H (fun c95 E H=>?_) fun c95 E H=>?_)
   refine plc E (.r 11 1<|.b 12 6 hb2<|.r 13 4<|.nil) (fun a E=>pld (hK93 _ _ (wp_ret ?_)))
   replace S:=S.tail
   obtain rfl:=si H
   exact rt1 E ⟨_,rfl,_,rfl,S⟩
   refine plc E (.r 11 6 .nil) (fun a E=>pld (hK93 _ _ (wp_ret ?_)))
   replace S:=S.tail
   obtain rfl:=si H
   exact rt1 E ⟨_,rfl,_,rfl,S⟩
   refine plc E (.r 5 12 .nil) (fun a E=>pld (hK93 _ _ (wp_ret ?_)))
   replace S:=S.tail
   obtain rfl:=si H
   exact rt1 E ⟨_,rfl,_,rfl,S⟩
  refine pl0 (plc E (.r 0 2<|.b 2 6 (S.ba 0)<|.r 3 3<|.nil) (fun a E=>E.fk 30 H (fun c42 E H=>?_) fun c42 E H=>?_))
  refine plc E (.r 6 3 .nil) (fun a E=>pld ?_)
  exact J47 _ (by omega) _ (decide (x35<20)) _ _ E .of S H
  refine plc E (.r 6 3 .nil) (fun a E=>pld ?_)
  exact J47 _ (by omega) _ false _ _ E .of S H
 refine pl0 (plc E (.r 0 2<|.b 2 5 (S.ba 0)<|.r 3 3<|.nil) (fun a E=>E.fk 11 H (fun c13 E H=>?_) fun c13 E H=>?_))
 refine plc E (.r 6 3 .nil) (fun a E=>pld ?_)
 exact J18 _ (by omega) _ (decide (x6<20)) _ _ E .of S H
 refine plc E (.r 6 3 .nil) (fun a E=>pld ?_)
 exact J18 _ (by omega) _ false _ _ E .of S H
def qV.l9:Nat→List Int→List Int→Int→Option Bool
 | 0,_,_,_=>none
 | k+1,x,y,x8=>if x8<(x.length:Int) then (if 0≤x8∧x8<(x.length:Int) then (if 0≤x8∧x8<(y.length:Int) then (if (nth 0 x x8)=(nth 0 y x8) then (qV.l9 k x y (w64 (x8+1))) else (some false)) else (none)) else (none)) else (some true)
theorem qV.l9_s k x y x8:type_of% (qV.l9.eq_2 x y x8 k):=qV.l9.eq_2 x y x8 k
def qV.f(k:Nat)(x:List Int)(y:List Int):Option Bool:=if (x.length:Int)=(y.length:Int) then (qV.l9 k x y 0) else (some false)
def qV.Post(W F:World)(r:Bool)(v:Value)(w':World):Prop:=∃(F':World),v = .bool r∧Sm W F w' F' []
theorem qV.calls(k:Nat)(x:List Int)(y:List Int)(A0_0:OA)(c0_0:Nat)(A1_0:OA)(c1_0:Nat)(r:Bool)(W F:World)(hown:Sub F W)(g0_0:Rd ki F A0_0 c0_0 x)(g1_0:Rd ki F A1_0 c1_0 y)(H:qV.f k x y=some r):
    Cr 31 #[.slice A0_0 x.length c0_0,.slice A1_0 y.length c1_0] W (qV.Post W F r):=by
 have S:=sT hown
 unfold qV.f at H
 refine ent 26 rfl rfl rfl (fun a E=>?_)
 refine rr E fun a E=>(sq fun K2 hK2=>rr E fun a E=>(E.ikn 10 H (fun c4 E H=>?_) fun c4 E H=>?_))
 refine wp_skip (hK2 _ _ (sq fun K6 hK6=>rr E fun a E=>(wp_block ?_)))
 refine wp_loop_ghost (fun kq10 a w'=>∃(G:NV)(x8:Int),kq10≤k∧Env 26 G a∧At G [(0,.slice A0_0 x.length c0_0),(1,.slice A1_0 y.length c1_0),(5,iv x8)]∧Sm W F w' F []∧qV.l9 kq10 x y x8=some r) k ⟨_,0,Nat.le_refl _,E,.of,S,H⟩ ?_
 rintro kq10 a u12 ⟨G,x8,hkq,E,A,S,H⟩
 obtain _ | k11:=kq10
 exact zz H
 rw [qV.l9_s]at H
 obtain ⟨J,E⟩:=E.at A
 refine sq fun K13 hK13=>rr E fun a E=>(E.ik 14 H (fun c15 E H=>?_) fun c15 E H=>?_)
 refine wp_skip (hK13 _ _ (sq fun K16 hK16=>wp_block (sq fun K17 hK17=>?_)))
 refine drawn 9 ⟨[],[],fun q=>False⟩ mixed rfl (by kernel_rfl) (fun hst=>?_)
 replace S:=S.drew
 obtain ⟨c18,H⟩:=gd H
 have hE_:=E
 obtain ⟨ad19,rfl⟩:=g0_0.addr c18.1 c18.2
 replace E:=hE_
 obtain ⟨cs21,rfl,hc22⟩:=g0_0.el 0 x8 c18.1 c18.2
 obtain ⟨c23,H⟩:=gd H
 have hE_:=E
 obtain ⟨ad24,rfl⟩:=g1_0.addr c23.1 c23.2
 replace E:=hE_
 obtain ⟨cs26,rfl,hc27⟩:=g1_0.el 0 x8 c23.1 c23.2
 refine mny 0 hst E (.r 0 2<|.x 2 c18<|.c 3 (S.fc hc22 0)<|.r 4 2<|.x 6 c23<|.c 7 (S.fc hc27 0)<|.r 8 1<|.nil) (fun a E=>?_)
 refine dn ?_
 refine hK17 _ _ (E.ikn 25 H (fun c28 E H=>?_) fun c28 E H=>?_)
 refine wp_skip ?_
 refine qAL ?_
 refine hK16 _ _ (pl0 (plc E (.r 0 3 .nil) (fun a E=>pld ?_)))
 exact qAM ⟨k11,by omega,_,(w64 (x8+1)),by omega,E,.of,S,H⟩
 refine rr E fun a E=>(wp_ret (qAI (qAH (qAH (qAI (qAH ?_))))))
 obtain rfl:=si H
 exact rt1 E ⟨_,rfl,_,rfl,S⟩
 refine wp_exit ?_
 refine hK6 _ _ (rr E fun a E=>(wp_ret ?_))
 obtain rfl:=si H
 exact rt1 E ⟨_,rfl,_,rfl,S⟩
 refine rr E fun a E=>(wp_ret (qAH ?_))
 obtain rfl:=si H
 exact rt1 E ⟨_,rfl,_,rfl,S⟩
def acceptor_in.f(x:Int)(y:Int)(z:Int):Option Bool:=if x≥y then (some (decide (x≤z))) else (some false)
def acceptor_in.Post(W F:World)(r:Bool)(v:Value)(w':World):Prop:=∃(F':World),v = .bool r∧Sm W F w' F' []
theorem acceptor_in.calls(x:Int)(y:Int)(z:Int)(r:Bool)(W F:World)(hown:Sub F W)(H:acceptor_in.f x y z=some r):
    Cr 28 #[iv x,iv y,iv z] W (acceptor_in.Post W F r):=by
 have S:=sT hown
 unfold acceptor_in.f at H
 refine ent 15 rfl rfl rfl (fun a E=>?_)
 refine rr E fun a E=>(sq fun K2 hK2=>pl0 (plc E (.r 0 4 .nil) (fun a E=>E.fk 10 H (fun c3 E H=>?_) fun c3 E H=>?_)))
 refine plc E (.r 4 5 .nil) (fun a E=>pld (hK2 _ _ (wp_ret ?_)))
 obtain rfl:=si H
 exact rt1 E ⟨_,rfl,_,rfl,S⟩
 refine plc E (.r 4 5 .nil) (fun a E=>pld (hK2 _ _ (wp_ret ?_)))
 obtain rfl:=si H
 exact rt1 E ⟨_,rfl,_,rfl,S⟩
def qW.l9:Nat→List Int→List Int→Int→Option Bool
 | 0,_,_,_=>none
 | k+1,x,y,x8=>if x8<(x.length:Int) then (if 0≤x8∧x8<(x.length:Int) then (if 0≤x8∧x8<(y.length:Int) then (if (nth 0 x x8)=(nth 0 y x8) then (qW.l9 k x y (w64 (x8+1))) else (some false)) else (none)) else (none)) else (some true)
theorem qW.l9_s k x y x8:type_of% (qW.l9.eq_2 x y x8 k):=qW.l9.eq_2 x y x8 k
def qW.f(k:Nat)(x:List Int)(y:List Int):Option Bool:=if (x.length:Int)=(y.length:Int) then (qW.l9 k x y 0) else (some false)
def qW.Post(W F:World)(r:Bool)(v:Value)(w':World):Prop:=∃(F':World),v = .bool r∧Sm W F w' F' []
theorem qW.calls(k:Nat)(x:List Int)(y:List Int)(A0_0:OA)(c0_0:Nat)(A1_0:OA)(c1_0:Nat)(r:Bool)(W F:World)(hown:Sub F W)(g0_0:Rd ki F A0_0 c0_0 x)(g1_0:Rd ki F A1_0 c1_0 y)(H:qW.f k x y=some r):
    Cr 66 #[.slice A0_0 x.length c0_0,.slice A1_0 y.length c1_0] W (qW.Post W F r):=by
 have S:=sT hown
 unfold qW.f at H
 refine ent 26 rfl rfl rfl (fun a E=>?_)
 refine rr E fun a E=>(sq fun K2 hK2=>rr E fun a E=>(E.ikn 10 H (fun c4 E H=>?_) fun c4 E H=>?_))
 refine wp_skip (hK2 _ _ (sq fun K6 hK6=>rr E fun a E=>(wp_block ?_)))
 refine wp_loop_ghost (fun kq10 a w'=>∃(G:NV)(x8:Int),kq10≤k∧Env 26 G a∧At G [(0,.slice A0_0 x.length c0_0),(1,.slice A1_0 y.length c1_0),(12,iv (x.length:Int)),(13,iv x8)]∧Sm W F w' F []∧qW.l9 kq10 x y x8=some r) k ⟨_,0,Nat.le_refl _,E,.of,S,H⟩ ?_
 rintro kq10 a u12 ⟨G,x8,hkq,E,A,S,H⟩
 obtain _ | k11:=kq10
 exact zz H
 rw [qW.l9_s]at H
 obtain ⟨J,E⟩:=E.at A
 refine rr E fun a E=>(sq fun K14 hK14=>E.ik 14 H (fun c15 E H=>?_) fun c15 E H=>?_)
 refine wp_skip (hK14 _ _ (sq fun K16 hK16=>wp_block (rr E fun a E=>(sq fun K18 hK18=>?_))))
 refine drawn 9 ⟨[],[],fun q=>False⟩ mixed rfl (by kernel_rfl) (fun hst=>?_)
 replace S:=S.drew
 obtain ⟨c19,H⟩:=gd H
 have hE_:=E
 obtain ⟨ad20,rfl⟩:=g0_0.addr c19.1 c19.2
 replace E:=hE_
 obtain ⟨cs22,rfl,hc23⟩:=g0_0.el 0 x8 c19.1 c19.2
 obtain ⟨c24,H⟩:=gd H
 have hE_:=E
 obtain ⟨ad25,rfl⟩:=g1_0.addr c24.1 c24.2
 replace E:=hE_
 obtain ⟨cs27,rfl,hc28⟩:=g1_0.el 0 x8 c24.1 c24.2
 refine mny 0 hst E (.r 0 2<|.x 2 c19<|.c 3 (S.fc hc23 0)<|.r 4 2<|.x 6 c24<|.c 7 (S.fc hc28 0)<|.r 8 1<|.nil) (fun a E=>?_)
 refine dn ?_
 refine hK18 _ _ (E.ikn 24 H (fun c29 E H=>?_) fun c29 E H=>?_)
 refine wp_skip ?_
 refine qAL ?_
 refine hK16 _ _ (pl0 (plc E (.r 0 2 .nil) (fun a E=>pld ?_)))
 exact qAM ⟨k11,by omega,_,(w64 (x8+1)),by omega,E,.of,S,H⟩
 refine rr E fun a E=>(wp_ret (qAI (qAH (qAH (qAI (qAH ?_))))))
 obtain rfl:=si H
 exact rt1 E ⟨_,rfl,_,rfl,S⟩
 refine wp_exit ?_
 refine hK6 _ _ (rr E fun a E=>(wp_ret ?_))
 obtain rfl:=si H
 exact rt1 E ⟨_,rfl,_,rfl,S⟩
 refine rr E fun a E=>(wp_ret (qAH ?_))
 obtain rfl:=si H
 exact rt1 E ⟨_,rfl,_,rfl,S⟩
def acceptor_SameDelta.f(k:Nat)(x:qp)(y:qp):Option Bool:=if x.f0=y.f0 then (if x.f1=y.f1 then (if x.f2=y.f2 then (if x.f3=y.f3 then (if x.f4=y.f4 then (if x.f5=y.f5 then ((qW.f k x.f6 y.f6).bind fun t14=>(some t14)) else (some false)) else (some false)) else (some false)) else (some false)) else (some false)) else (some false)
def acceptor_SameDelta.Post(W F:World)(r:Bool)(v:Value)(w':World):Prop:=∃(F':World),v = .bool r∧Sm W F w' F' []
theorem acceptor_SameDelta.calls(k:Nat)(x:qp)(y:qp)(A0_6:OA)(c0_6:Nat)(A1_6:OA)(c1_6:Nat)(r:Bool)(W F:World)(hown:Sub F W)(g0_6:Rd ki F A0_6 c0_6 x.f6)(g1_6:Rd ki F A1_6 c1_6 y.f6)(H:acceptor_SameDelta.f k x y=some r):
    Cr 53 #[.agg #[iv x.f0,iv x.f1,iv x.f2,iv x.f3,iv x.f4,iv x.f5,.slice A0_6 x.f6.length c0_6],.agg #[iv y.f0,iv y.f1,iv y.f2,iv y.f3,iv y.f4,iv y.f5,.slice A1_6 y.f6.length c1_6]] W (acceptor_SameDelta.Post W F r):=by
 have S:=sT hown
 unfold acceptor_SameDelta.f at H
 refine ent 52 rfl rfl rfl (fun a E=>?_)
 refine sq fun K1 hK1=>pl0 (plx (t:=41) E S [iv x.f0,iv x.f1,iv x.f2,iv x.f3,iv x.f4,iv x.f5,.slice A0_6 x.f6.length c0_6] fun b2 u3 hb2 S a E=>plx (t:=41) E S [iv y.f0,iv y.f1,iv y.f2,iv y.f3,iv y.f4,iv y.f5,.slice A1_6 y.f6.length c1_6] fun b4 u5 hb4 S a E=>plc E (.r 2 1 .nil) (fun a E=>pld (hK1 _ _ (sq fun K6 hK6=>pl0 ?_))))
 have hb2:=S.ba 1
 refine plc E (.r 0 1<|.b 1 0 hb2<|.r 2 1<|.b 3 0 hb4<|.r 4 2<|.nil) (fun a E=>E.fk 10 H (fun c7 E H=>?_) fun c7 E H=>?_)
 refine plc E (.r 6 1<|.b 7 1 hb2<|.r 8 1<|.b 9 1 hb4<|.r 10 3<|.nil) (fun a E=>E.fk 17 H (fun c8 E H=>?_) fun c8 E H=>?_)
 refine plc E (.r 13 1<|.b 14 2 hb2<|.r 15 1<|.b 16 2 hb4<|.r 17 3<|.nil) (fun a E=>E.fk 24 H (fun c9 E H=>?_) fun c9 E H=>?_)
 refine plc E (.r 20 1<|.b 21 3 hb2<|.r 22 1<|.b 23 3 hb4<|.r 24 3<|.nil) (fun a E=>E.fk 31 H (fun c10 E H=>?_) fun c10 E H=>?_)
 refine plc E (.r 27 1<|.b 28 4 hb2<|.r 29 1<|.b 30 4 hb4<|.r 31 3<|.nil) (fun a E=>E.fk 38 H (fun c11 E H=>?_) fun c11 E H=>?_)
 refine plc E (.r 34 1<|.b 35 5 hb2<|.r 36 1<|.b 37 5 hb4<|.r 38 3<|.nil) (fun a E=>E.fk 45 H (fun c12 E H=>?_) fun c12 E H=>?_)
 refine plc E (.r 41 1<|.b 42 6 hb2<|.r 43 1<|.b 44 6 hb4<|.nil) (fun a E=>?_)
 obtain ⟨t14,h15,H⟩:=bd H
 refine plq E S en66 (qW.calls k x.f6 y.f6 _ _ _ _ _ _ _ S.own.sub g0_6 g1_6 h15) fun u13 S a E=>plc E (.r 46 2 .nil) (fun a E=>pld (hK6 _ _ (wp_ret ?_)))
 replace S:=S.pm [] 2
 obtain rfl:=si H
 exact rt1 E ⟨_,rfl,_,rfl,S⟩
 refine plc E (.r 41 7 .nil) (fun a E=>pld (hK6 _ _ (wp_ret ?_)))
 replace S:=S.pm [] 2
 obtain rfl:=si H
 exact rt1 E ⟨_,rfl,_,rfl,S⟩
 refine plc E (.r 34 14 .nil) (fun a E=>pld (hK6 _ _ (wp_ret ?_)))
 replace S:=S.pm [] 2
 obtain rfl:=si H
 exact rt1 E ⟨_,rfl,_,rfl,S⟩
 refine plc E (.r 27 21 .nil) (fun a E=>pld (hK6 _ _ (wp_ret ?_)))
 replace S:=S.pm [] 2
 obtain rfl:=si H
 exact rt1 E ⟨_,rfl,_,rfl,S⟩
 refine plc E (.r 20 28 .nil) (fun a E=>pld (hK6 _ _ (wp_ret ?_)))
 replace S:=S.pm [] 2
 obtain rfl:=si H
 exact rt1 E ⟨_,rfl,_,rfl,S⟩
 refine plc E (.r 13 35 .nil) (fun a E=>pld (hK6 _ _ (wp_ret ?_)))
 replace S:=S.pm [] 2
 obtain rfl:=si H
 exact rt1 E ⟨_,rfl,_,rfl,S⟩
 refine plc E (.r 6 42 .nil) (fun a E=>pld (hK6 _ _ (wp_ret ?_)))
 replace S:=S.pm [] 2
 obtain rfl:=si H
 exact rt1 E ⟨_,rfl,_,rfl,S⟩
def acceptor_bare.j34:Nat→qp→Int→Int→Int→Int→Int→List Int→Option qp
 | 0,_,_,_,_,_,_,_=>none
 | k+1,x,x25,x26,x27,x28,x29,l32=>some (⟨x.f0,x25,x26,x27,x28,x29,l32⟩:qp)
theorem acceptor_bare.j34_s k x x25 x26 x27 x28 x29 l32:type_of% (acceptor_bare.j34.eq_2 x x25 x26 x27 x28 x29 l32 k):=acceptor_bare.j34.eq_2 x x25 x26 x27 x28 x29 l32 k
def acceptor_bare.f(k:Nat)(x:qp):Option qp:=if x.f0=1 then (acceptor_bare.j34 k x x.f1 x.f2 x.f3 x.f4 0 []) else (if x.f0=2 then (acceptor_bare.j34 k x x.f1 0 0 x.f4 0 []) else (if x.f0=8 then (acceptor_bare.j34 k x 0 0 0 0 x.f5 x.f6) else (if x.f0=9 then (acceptor_bare.j34 k x 0 0 0 0 0 []) else (if x.f0=10 then (acceptor_bare.j34 k x 0 0 0 x.f4 x.f5 []) else (acceptor_bare.j34 k x x.f1 0 0 0 0 [])))))
def acceptor_bare.Post(W F:World)(r:qp)(v:Value)(w':World):Prop:=∃(F':World)(RA0_6:OA)(rc0_6:Nat),v = .agg #[iv r.f0,iv r.f1,iv r.f2,iv r.f3,iv r.f4,iv r.f5,.slice RA0_6 r.f6.length rc0_6]∧Sm W F w' F' []∧Rd ki F' RA0_6 rc0_6 r.f6
theorem acceptor_bare.calls(k:Nat)(x:qp)(A0_6:OA)(c0_6:Nat)(r:qp)(W F:World)(hown:Sub F W)(g0_6:Rd ki F A0_6 c0_6 x.f6)(H:acceptor_bare.f k x=some r):
    Cr 54 #[.agg #[iv x.f0,iv x.f1,iv x.f2,iv x.f3,iv x.f4,iv x.f5,.slice A0_6 x.f6.length c0_6]] W (acceptor_bare.Post W F r):=by
 have S:=sT hown
 unfold acceptor_bare.f at H
 refine ent 47 rfl rfl rfl (fun a E=>?_)
 refine sq fun K1 hK1=>pl0 (plx (t:=41) E S [iv x.f0,iv x.f1,iv x.f2,iv x.f3,iv x.f4,iv x.f5,.slice A0_6 x.f6.length c0_6] fun b2 u3 hb2 S a E=>pla (t:=41) E S [iv 0,iv 0,iv 0,iv 0,iv 0,iv 0,.slice none 0 0] fun b4 u5 hb4 S a E=>pld (hK1 _ _ (sq fun K6 hK6=>?_)))
 have J37:∀ kq35,kq35≤k→∀(G:NV)(x25:Int)(x26:Int)(x27:Int)(x28:Int)(x29:Int)(A30:OA)(c31:Nat)(l32:List Int)(a:Act)(w':World),Env 47 G a→At G [(1,.pointer (pb b2)),(2,.pointer (pb b4))]→Sm W F w' F [box b2 #[iv x.f0,iv x25,iv x26,iv x27,iv x28,iv x29,.slice A30 l32.length c31] 41,box b4 #[iv 0,iv 0,iv 0,iv 0,iv 0,iv 0,.slice none 0 0] 41]→Rd ki F A30 c31 l32→acceptor_bare.j34 kq35 x x25 x26 x27 x28 x29 l32=some r→K6 a w':=by
  intro kq35 hkq G x25 x26 x27 x28 x29 A30 c31 l32 a u38 E A S g33 H
  obtain _ | k36:=kq35
  exact zz H
  rw [acceptor_bare.j34_s]at H
  obtain ⟨J,E⟩:=E.at A
  refine hK6 _ _ (sq fun K39 hK39=>pl0 (plc E (.bn 0 0 7 (S.ba 0) .nil) (fun a E=>?_)))
  replace S:=S.front 1 rfl
  refine pls E S [iv x.f0,iv x25,iv x26,iv x27,iv x28,iv x29,.slice A30 l32.length c31] fun u40 hb4 S a E=>pld (hK39 _ _ (wp_ret ?_))
  replace S:=S.pm [] 2
  obtain rfl:=si H
  exact ret1 E rfl (.cell (by kernel_rfl) (qBJ [iv x.f0,iv x25,iv x26,iv x27,iv x28,iv x29,.slice A30 l32.length c31] ag41 sz41 hb4 rfl) .nil) ⟨_,rfl,_,_,_,rfl,S,g33⟩
 refine sq fun K7 hK7=>pl0 ?_
 have hb2:=S.ba 1
 refine plc E (.r 0 1<|.b 1 0 hb2<|.nil) (fun a E=>pld (hK7 _ _ (wp_block (rr E fun a E=>(E.ik 10 H (fun c9 E H=>?_) fun c9 E H=>?_)))))
 refine pl0 (plc E (.r 0 1 .nil) (fun a E=>?_))
 replace S:=S.front 1 rfl
 refine pls E S [iv x.f0,iv x.f1,iv x.f2,iv x.f3,iv x.f4,iv 0,.slice A0_6 x.f6.length c0_6] fun u10 hb2 S a E=>plc E (.r 2 1 .nil) (fun a E=>pls E S [iv x.f0,iv x.f1,iv x.f2,iv x.f3,iv x.f4,iv 0,.slice none 0 0] fun u11 hb2 S a E=>pld ?_)
 refine qAL ?_
 exact J37 _ (by omega) _ x.f1 x.f2 x.f3 x.f4 0 none 0 [] _ _ E .of S (Rd.nil _ _) H
 refine rr E fun a E=>(E.ik 14 H (fun c13 E H=>?_) fun c13 E H=>?_)
 refine pl0 (plc E (.r 0 1<|.b 1 0 hb2<|.r 2 1<|.b 3 1 hb2<|.r 4 1<|.b 5 4 hb2<|.r 6 1<|.nil) (fun a E=>?_))
 replace S:=S.front 1 rfl
 refine pls E S [iv x.f0,iv x.f1,iv 0,iv 0,iv x.f4,iv 0,.slice none 0 0] fun u14 hb2 S a E=>pld ?_
 refine qAL ?_
 exact J37 _ (by omega) _ x.f1 0 0 x.f4 0 none 0 [] _ _ E .of S (Rd.nil _ _) H
 refine rr E fun a E=>(E.ik 23 H (fun c16 E H=>?_) fun c16 E H=>?_)
 refine pl0 (plc E (.r 0 1<|.b 1 0 hb2<|.r 2 1<|.b 3 5 hb2<|.r 4 1<|.b 5 6 hb2<|.r 6 1<|.nil) (fun a E=>?_))
 replace S:=S.front 1 rfl
 refine pls E S [iv x.f0,iv 0,iv 0,iv 0,iv 0,iv x.f5,.slice A0_6 x.f6.length c0_6] fun u17 hb2 S a E=>pld ?_
 refine qAL ?_
 exact J37 _ (by omega) _ 0 0 0 0 x.f5 A0_6 c0_6 x.f6 _ _ E .of S g0_6 H
 refine rr E fun a E=>(E.ik 32 H (fun c19 E H=>?_) fun c19 E H=>?_)
 refine pl0 (plc E (.r 0 1<|.b 1 0 hb2<|.r 2 1<|.nil) (fun a E=>?_))
 replace S:=S.front 1 rfl
 refine pls E S [iv x.f0,iv 0,iv 0,iv 0,iv 0,iv 0,.slice none 0 0] fun u20 hb2 S a E=>pld ?_
 refine qAL ?_
 exact J37 _ (by omega) _ 0 0 0 0 0 none 0 [] _ _ E .of S (Rd.nil _ _) H
 refine rr E fun a E=>(E.ik 37 H (fun c22 E H=>?_) fun c22 E H=>?_)
 refine pl0 (plc E (.r 0 1<|.b 1 0 hb2<|.r 2 1<|.b 3 5 hb2<|.r 4 1<|.b 5 4 hb2<|.r 6 1<|.nil) (fun a E=>?_))
 replace S:=S.front 1 rfl
 refine pls E S [iv x.f0,iv 0,iv 0,iv 0,iv x.f4,iv x.f5,.slice none 0 0] fun u23 hb2 S a E=>pld ?_
 refine qAL ?_
 exact J37 _ (by omega) _ 0 0 0 x.f4 x.f5 none 0 [] _ _ E .of S (Rd.nil _ _) H
 refine pl0 (plc E (.r 0 1<|.b 1 0 hb2<|.r 2 1<|.b 3 1 hb2<|.r 4 1<|.nil) (fun a E=>?_))
 replace S:=S.front 1 rfl
 refine pls E S [iv x.f0,iv x.f1,iv 0,iv 0,iv 0,iv 0,.slice none 0 0] fun u24 hb2 S a E=>pld ?_
 refine qAL ?_
 exact J37 _ (by omega) _ x.f1 0 0 0 0 none 0 [] _ _ E .of S (Rd.nil _ _) H
mutual
def acceptor_CheckDelta.j23:Nat→qp→Bool→Option Int
 | 0,_,_=>none
 | k+1,x,y21=>if y21=true then (some 1) else (if (([x.f1,x.f2,x.f3,x.f4,x.f5].length:Int)+(x.f6.length:Int)) * 8≤140737488355328 then (acceptor_CheckDelta.l41 k x 0) else (none))
def acceptor_CheckDelta.l41:Nat→qp→Int→Option Int
 | 0,_,_=>none
 | k+1,x,x40=>if x40<(([x.f1,x.f2,x.f3,x.f4,x.f5]++x.f6).length:Int) then (if 0≤x40∧x40<(([x.f1,x.f2,x.f3,x.f4,x.f5]++x.f6).length:Int) then ((acceptor_in.f (nth 0 ([x.f1,x.f2,x.f3,x.f4,x.f5]++x.f6) x40) 0 2147483647).bind fun t58=>(if t58=true then (acceptor_CheckDelta.l41 k x (w64 (x40+1))) else (some 1))) else (none)) else (some 0)
end
theorem acceptor_CheckDelta.j23_s k x y21:type_of% (acceptor_CheckDelta.j23.eq_2 x y21 k):=acceptor_CheckDelta.j23.eq_2 x y21 k
theorem acceptor_CheckDelta.l41_s k x x40:type_of% (acceptor_CheckDelta.l41.eq_2 x x40 k):=acceptor_CheckDelta.l41.eq_2 x x40 k
def acceptor_CheckDelta.f(k:Nat)(x:qp):Option Int:=(acceptor_in.f x.f0 1 10).bind fun t7=>(if t7=true then ((acceptor_bare.f k x).bind fun t11=>((acceptor_SameDelta.f k x t11).bind fun t18=>(if t18=true then (acceptor_CheckDelta.j23 k x (decide ((x.f6.length:Int)>3))) else (acceptor_CheckDelta.j23 k x true)))) else (acceptor_CheckDelta.j23 k x true))
def acceptor_CheckDelta.Post(W F:World)(r:Int)(v:Value)(w':World):Prop:=∃(F':World),v=iv r∧Sm W F w' F' []
theorem acceptor_CheckDelta.calls(k:Nat)(x:qp)(A0_6:OA)(c0_6:Nat)(r:Int)(W F:World)(hown:Sub F W)(g0_6:Rd ki F A0_6 c0_6 x.f6)(H:acceptor_CheckDelta.f k x=some r):
    Cr 30 #[.agg #[iv x.f0,iv x.f1,iv x.f2,iv x.f3,iv x.f4,iv x.f5,.slice A0_6 x.f6.length c0_6]] W (acceptor_CheckDelta.Post W F r):=by
 have S:=sT hown
 unfold acceptor_CheckDelta.f at H
 refine ent 45 rfl rfl rfl (fun a E=>?_)
 refine sq fun K1 hK1=>pl0 (plx (t:=41) E S [iv x.f0,iv x.f1,iv x.f2,iv x.f3,iv x.f4,iv x.f5,.slice A0_6 x.f6.length c0_6] fun b2 u3 hb2 S a E=>plc E (.r 1 1 .nil) (fun a E=>pld (hK1 _ _ (sq fun K4 hK4=>sq fun K5 hK5=>?_))))
 have J26:∀ kq24,kq24≤k→∀(G:NV)(y21:Bool)(F22:World)(a:Act)(w':World),Env 45 G a→At G [(1,.pointer (pb b2)),(21,.bool y21)]→Sm W F w' F22 [box b2 #[iv x.f0,iv x.f1,iv x.f2,iv x.f3,iv x.f4,iv x.f5,.slice A0_6 x.f6.length c0_6] 41]→Rd ki F22 A0_6 c0_6 x.f6→acceptor_CheckDelta.j23 kq24 x y21=some r→K5 a w':=by
  intro kq24 hkq G y21 F22 a u27 E A S g0_6 H
  obtain _ | k25:=kq24
  exact zz H
  rw [acceptor_CheckDelta.j23_s]at H
  obtain ⟨J,E⟩:=E.at A
  refine hK5 _ _ (E.ib 21 H (fun c28 E H=>?_) fun c28 E H=>?_)
  refine rr E fun a E=>(wp_ret (qAH ?_))
  replace S:=S.tail
  obtain rfl:=si H
  exact rt1 E ⟨_,rfl,_,rfl,S⟩
  refine wp_skip (hK4 _ _ (sq fun K30 hK30=>sq fun K31 hK31=>pl0 ?_))
  have hb2:=S.ba 0
  refine plc E (.r 0 1<|.b 1 1 hb2<|.r 2 1<|.b 3 2 hb2<|.r 4 1<|.b 5 3 hb2<|.r 6 1<|.b 7 4 hb2<|.r 8 1<|.b 9 5 hb2<|.nil) (fun a E=>ple E (.lit (d:=ki) (e:=3) S [x.f1,x.f2,x.f3,x.f4,x.f5] (.cons rfl<|.cons rfl<|.cons rfl<|.cons rfl<|.cons rfl .nil)) ?_)
  rintro _ u32 a ⟨A33,c34,rfl,S,hg⟩ E
  refine plc E (.r 11 1<|.b 12 6 (S.ba 1)<|.nil) (fun a E=>?_)
  obtain ⟨c36,H⟩:=gd H
  refine ple E (.ap (d:=ki) 8 S (g0_6.src S.own.sub) c36 c0_6) ?_
  rintro _ u39 a ⟨A37,c38,rfl,S,hz⟩ E
  refine plc E (.r 14 2 .nil) (fun a E=>pld (hK31 _ _ (wp_block ?_)))
  replace S:=S.front 1 rfl
  refine wp_loop_ghost (fun kq42 a w'=>∃(G:NV)(x40:Int),kq42≤k25∧Env 45 G a∧At G [(35,.slice A37 (([x.f1,x.f2,x.f3,x.f4,x.f5]++x.f6).length) c38),(36,iv (([x.f1,x.f2,x.f3,x.f4,x.f5]++x.f6).length:Int)),(37,iv x40)]∧Sm W F w' F22 [box b2 #[iv x.f0,iv x.f1,iv x.f2,iv x.f3,iv x.f4,iv x.f5,.slice A0_6 x.f6.length c0_6] 41,row ki 3 (.slice A37 (([x.f1,x.f2,x.f3,x.f4,x.f5]++x.f6).length) c38) ([x.f1,x.f2,x.f3,x.f4,x.f5]++x.f6)]∧acceptor_CheckDelta.l41 kq42 x x40=some r) k25 ⟨_,0,Nat.le_refl _,E,.of,S,H⟩ ?_
  rintro kq42 a u44 ⟨G,x40,hkq,E,A,S,H⟩
  obtain _ | k43:=kq42
  exact zz H
  rw [acceptor_CheckDelta.l41_s]at H
  obtain ⟨J,E⟩:=E.at A
  refine rr E fun a E=>(sq fun K46 hK46=>E.ik 38 H (fun c47 E H=>?_) fun c47 E H=>?_)
  refine wp_skip (hK46 _ _ (sq fun K48 hK48=>wp_block (sq fun K49 hK49=>pl0 ?_)))
  obtain ⟨c50,H⟩:=gd H
  have hr51:=S.ra 1
  have hE_:=E
  obtain ⟨b52,rfl⟩:=qCo hr51 c50.1 c50.2
  replace E:=hE_
  have hr_:=S.ra 1
  obtain ⟨cs54,rfl,hc55⟩:=qDh hr_ 0 x40 c50.1 c50.2
  refine plc E (.x 0 c50<|.c 1 (hc55 0 _ rfl)<|.r 2 1<|.nil) (fun a E=>pld (hK49 _ _ (sq fun K56 hK56=>pl0 (plc E (.r 0 1 .nil) (fun a E=>?_)))))
  obtain ⟨t58,h59,H⟩:=bd H
  refine plq E S en28 (acceptor_in.calls (nth 0 ([x.f1,x.f2,x.f3,x.f4,x.f5]++x.f6) x40) 0 2147483647 _ _ _ S.own.sub h59) fun u57 S a E=>plc E (.r 2 1 .nil) (fun a E=>pld (hK56 _ _ (E.ibn 43 H (fun c60 E H=>?_) fun c60 E H=>?_)))
  refine wp_skip ?_
  refine qAL ?_
  refine hK48 _ _ (pl0 (plc E (.r 0 2 .nil) (fun a E=>pld ?_)))
  exact qAM ⟨k43,by omega,_,(w64 (x40+1)),by omega,E,.of,S,H⟩
  refine rr E fun a E=>(wp_ret (qAI (qAH (qAH (qAI (qAH ?_))))))
  replace S:=S.pm [] 2
  obtain rfl:=si H
  exact rt1 E ⟨_,rfl,_,rfl,S⟩
  refine wp_exit ?_
  refine hK30 _ _ (rr E fun a E=>(wp_ret ?_))
  replace S:=S.pm [] 2
  obtain rfl:=si H
  exact rt1 E ⟨_,rfl,_,rfl,S⟩
 refine drawn 17 ⟨[],[],fun q=>False⟩ mixed rfl (by kernel_rfl) (fun hst=>?_)
 replace S:=S.drew
 have hb2:=S.ba 0
 refine mny 15 hst E (.r 0 1<|.b 1 0 hb2<|.nil) (fun a E=>?_)
 obtain ⟨t7,h8,H⟩:=bd H
 refine on1 2 E (.cl en28 (acceptor_in.calls x.f0 1 10 _ _ _ S.own.sub h8)) ?_
 rintro _ u6 a ⟨_,rfl,hC⟩ E
 refine ⟨.of hC.agr,?_⟩
 replace S:=S.lent hC
 refine mny 12 hst E (.r 3 2 .nil) (fun a E=>?_)
 refine E.fbn 9 H (fun c9 E H=>?_) fun c9 E H=>?_
 have hb2:=S.ba 0
 refine mny 10 hst E (.bn 5 0 7 hb2<|.bn 6 0 7 hb2<|.nil) (fun a E=>?_)
 obtain ⟨t11,h12,H⟩:=bd H
 refine on1 7 E (.cl en54 (acceptor_bare.calls k x _ _ _ _ _ S.own.sub g0_6 h12)) ?_
 rintro _ u10 a ⟨F13,A14,c15,rfl,hC,g16⟩ E
 refine ⟨.of hC.agr,?_⟩
 have hs:=hC.sub
 replace S:=S.called (X:=[]) hC
 replace g0_6:=g0_6.mono hs
 obtain ⟨t18,h19,H⟩:=bd H
 refine on1 8 E (.cl en53 (acceptor_SameDelta.calls k x t11 _ _ _ _ _ _ _ S.own.sub g0_6 g16 h19)) ?_
 rintro _ u17 a ⟨_,rfl,hC⟩ E
 refine ⟨.of hC.agr,?_⟩
 replace S:=S.lent hC
 refine mny 5 hst E (.r 9 3 .nil) (fun a E=>?_)
 refine E.fbn 16 H (fun c20 E H=>?_) fun c20 E H=>?_
 have hb2:=S.ba 0
 refine mny 0 hst E (.r 12 1<|.b 13 6 hb2<|.r 14 3<|.nil) (fun a E=>?_)
 refine dn ?_
 exact J26 _ (by omega) _ (decide ((x.f6.length:Int)>3)) F13 _ _ E .of S g0_6 H
 refine mny 0 hst E (.r 12 5 .nil) (fun a E=>?_)
 refine dn ?_
 exact J26 _ (by omega) _ true F13 _ _ E .of S g0_6 H
 refine mny 0 hst E (.r 5 12 .nil) (fun a E=>?_)
 refine dn ?_
 exact J26 _ (by omega) _ true F _ _ E .of S g0_6 H
def qx.f(x:List Int):Option (List Int):=if (([(x.length:Int)].length:Int)+(x.length:Int)) * 8≤140737488355328 then (some ([(x.length:Int)]++x)) else (none)
def qx.Post(W F:World)(r:List Int)(v:Value)(w':World):Prop:=∃(F':World)(RA0_0:OA)(rc0_0:Nat),v = .slice RA0_0 r.length rc0_0∧Sm W F w' F' [row ki 3 (.slice RA0_0 r.length rc0_0) r]
theorem qx.calls(x:List Int)(A0_0:OA)(c0_0:Nat)(r:List Int)(W F:World)(hown:Sub F W)(g0_0:Rd ki F A0_0 c0_0 x)(H:qx.f x=some r):
    Cr 35 #[.slice A0_0 x.length c0_0] W (qx.Post W F r):=by
 have S:=sT hown
 unfold qx.f at H
 refine ent 8 rfl rfl rfl (fun a E=>?_)
 refine rr E fun a E=>(sq fun K2 hK2=>pl0 (plc E (.r 0 2 .nil) (fun a E=>ple E (.lit (d:=ki) (e:=3) S [(x.length:Int)] (.cons rfl .nil)) ?_)))
 rintro _ u3 a ⟨A4,c5,rfl,S,hg⟩ E
 refine plc E (.r 3 1 .nil) (fun a E=>?_)
 obtain ⟨c7,H⟩:=gd H
 refine ple E (.ap (d:=ki) 8 S (g0_0.src S.own.sub) c7 c0_0) ?_
 rintro _ u10 a ⟨A8,c9,rfl,S,hz⟩ E
 refine plc E (.r 5 1 .nil) (fun a E=>pld (hK2 _ _ (wp_ret ?_)))
 obtain rfl:=si H
 exact rt1 E ⟨_,rfl,_,_,_,rfl,S⟩
def qAB.f(x:qp):Option (List Int):=(qx.f x.f6).bind fun t5=>(if (([x.f0,x.f1,x.f2,x.f3,x.f4,x.f5].length:Int)+(t5.length:Int)) * 8≤140737488355328 then (some ([x.f0,x.f1,x.f2,x.f3,x.f4,x.f5]++t5)) else (none))
def qAB.Post(W F:World)(r:List Int)(v:Value)(w':World):Prop:=∃(F':World)(RA0_0:OA)(rc0_0:Nat),v = .slice RA0_0 r.length rc0_0∧Sm W F w' F' [row ki 3 (.slice RA0_0 r.length rc0_0) r]
theorem qAB.calls(x:qp)(A0_6:OA)(c0_6:Nat)(r:List Int)(W F:World)(hown:Sub F W)(g0_6:Rd ki F A0_6 c0_6 x.f6)(H:qAB.f x=some r):
    Cr 55 #[.agg #[iv x.f0,iv x.f1,iv x.f2,iv x.f3,iv x.f4,iv x.f5,.slice A0_6 x.f6.length c0_6]] W (qAB.Post W F r):=by
 have S:=sT hown
 unfold qAB.f at H
 refine ent 20 rfl rfl rfl (fun a E=>?_)
 refine sq fun K1 hK1=>pl0 (plx (t:=41) E S [iv x.f0,iv x.f1,iv x.f2,iv x.f3,iv x.f4,iv x.f5,.slice A0_6 x.f6.length c0_6] fun b2 u3 hb2 S a E=>plc E (.r 1 1 .nil) (fun a E=>pld (hK1 _ _ (sq fun K4 hK4=>?_))))
 refine drawn 18 ⟨[16],[],fun q=>False⟩ mixed rfl (by kernel_rfl) (fun hst=>?_)
 replace S:=S.drew
 have hb2:=S.ba 0
 refine mny 4 hst E (.r 0 1<|.b 1 0 hb2<|.r 2 1<|.b 3 1 hb2<|.r 4 1<|.b 5 2 hb2<|.r 6 1<|.b 7 3 hb2<|.r 8 1<|.b 9 4 hb2<|.r 10 1<|.b 11 5 hb2<|.r 13 1<|.b 14 6 hb2<|.nil) (fun a E=>?_)
 obtain ⟨t5,h6,H⟩:=bd H
 refine meet2 (fun a w'=>∃(G:NV)(A13:OA)(c14:Nat)(A8:OA)(c9:Nat)(F18:World),Env 20 G a∧At G [(2,.slice none 0 0),(15,.slice A8 ([x.f0,x.f1,x.f2,x.f3,x.f4,x.f5].length) c9),(18,.slice A13 t5.length c14)]∧Sm W F w' F18 [box b2 #[iv x.f0,iv x.f1,iv x.f2,iv x.f3,iv x.f4,iv x.f5,.slice A0_6 x.f6.length c0_6] 41,row ki 3 (.slice A13 t5.length c14) t5,row ki 3 (.slice A8 ([x.f0,x.f1,x.f2,x.f3,x.f4,x.f5].length) c9) [x.f0,x.f1,x.f2,x.f3,x.f4,x.f5]]∧Rd ki F18 A0_6 c0_6 x.f6) 2 65535 ?_ (fun hJ=>?_)
 rintro a u19 ⟨G,A13,c14,A8,c9,F18,E,A,S,g0_6⟩
 obtain ⟨J,E⟩:=E.at A
 obtain ⟨c20,H⟩:=gd H
 replace S:=S.front 2 rfl
 refine on1 16 E (.ap (d:=ki) 8 S (qAN (S.row_at (i:=2) rfl)) c20 c14) ?_
 rintro _ u23 a ⟨A21,c22,rfl,S,hz⟩ E
 refine ⟨.d,?_⟩
 refine mny 0 hst E (.r 17 1 .nil) (fun a E=>?_)
 refine dn ?_
 refine hK4 _ _ (wp_ret ?_)
 replace S:=S.pm [0] 3
 obtain rfl:=si H
 exact rt1 E ⟨_,rfl,_,_,_,rfl,S⟩
 refine pk2 12 15 ?_ ?_
 refine pk1 12 E (.lit (d:=ki) (e:=3) S [x.f0,x.f1,x.f2,x.f3,x.f4,x.f5] (.cons rfl<|.cons rfl<|.cons rfl<|.cons rfl<|.cons rfl<|.cons rfl .nil)) ?_
 rintro _ u7 a ⟨A8,c9,rfl,S,hg⟩ E
 refine ⟨.of hg,?_⟩
 refine on1 15 E (.cl en35 (qx.calls x.f6 _ _ _ _ _ S.own.sub g0_6 h6)) ?_
 rintro _ u11 a ⟨F12,A13,c14,rfl,hC⟩ E
 refine ⟨.of hC.agr,?_⟩
 have hs:=hC.sub
 replace S:=S.called (X:=[]) hC
 replace g0_6:=g0_6.mono hs
 replace S:=S.pm [2,0,1] 3
 exact hJ _ _ ⟨_,A13,c14,A8,c9,F12,E,.of,S,g0_6⟩
 refine pk1 15 E (.cl en35 (qx.calls x.f6 _ _ _ _ _ S.own.sub g0_6 h6)) ?_
 rintro _ u11 a ⟨F12,A13,c14,rfl,hC⟩ E
 refine ⟨.of hC.agr,?_⟩
 have hs:=hC.sub
 replace S:=S.called (X:=[]) hC
 replace g0_6:=g0_6.mono hs
 refine on1 12 E (.lit (d:=ki) (e:=3) S [x.f0,x.f1,x.f2,x.f3,x.f4,x.f5] (.cons rfl<|.cons rfl<|.cons rfl<|.cons rfl<|.cons rfl<|.cons rfl .nil)) ?_
 rintro _ u7 a ⟨A8,c9,rfl,S,hg⟩ E
 refine ⟨.of hg,?_⟩
 replace S:=S.pm [2,1,0] 3
 exact hJ _ _ ⟨_,A13,c14,A8,c9,F12,E,.of,S,g0_6⟩
def qAC.f(k:Nat)(x:qp):Option (qP × Int):=(acceptor_CheckDelta.f k x).bind fun t9=>(if t9=0 then ((qAB.f x).bind fun t18=>(some ((⟨t18,[]⟩:qP),0))) else (some ((⟨[],[]⟩:qP),t9)))
def qAC.Post(W F:World)(r:qP × Int)(v:Value)(w':World):Prop:=∃(F':World)(RA0_0:OA)(rc0_0:Nat)(RA0_1:OA)(rc0_1:Nat),v = .tuple #[.agg #[.slice RA0_0 r.1.f0.length rc0_0,.slice RA0_1 r.1.f1.length rc0_1],iv r.2]∧Sm W F w' F' [row ki 3 (.slice RA0_0 r.1.f0.length rc0_0) r.1.f0]∧Rd Kn.string F' RA0_1 rc0_1 r.1.f1
theorem qAC.calls(k:Nat)(x:qp)(A0_6:OA)(c0_6:Nat)(r:qP × Int)(W F:World)(hown:Sub F W)(g0_6:Rd ki F A0_6 c0_6 x.f6)(H:qAC.f k x=some r):
    Cr 32 #[.agg #[iv x.f0,iv x.f1,iv x.f2,iv x.f3,iv x.f4,iv x.f5,.slice A0_6 x.f6.length c0_6]] W (qAC.Post W F r):=by
 have S:=sT hown
 unfold qAC.f at H
 refine ent 14 rfl rfl rfl (fun a E=>?_)
 refine sq fun K1 hK1=>pl0 (plx (t:=41) E S [iv x.f0,iv x.f1,iv x.f2,iv x.f3,iv x.f4,iv x.f5,.slice A0_6 x.f6.length c0_6] fun b2 u3 hb2 S a E=>pla (t:=69) E S [.slice none 0 0,.slice none 0 0] fun b4 u5 hb4 S a E=>plc E (.r 2 1 .nil) (fun a E=>pld (hK1 _ _ (sq fun K6 hK6=>sq fun K7 hK7=>pl0 ?_))))
 have hb2:=S.ba 1
 refine plc E (.bn 0 0 7 hb2 .nil) (fun a E=>?_)
 obtain ⟨t9,h10,H⟩:=bd H
 refine plq E S en30 (acceptor_CheckDelta.calls k x _ _ _ _ _ S.own.sub g0_6 h10) fun u8 S a E=>plc E (.r 2 1 .nil) (fun a E=>pld (hK7 _ _ (rr E fun a E=>(E.ikn 8 H (fun c12 E H=>?_) fun c12 E H=>?_))))
 refine wp_skip (hK6 _ _ (sq fun K16 hK16=>pl0 (plc E (.bn 0 0 7 (S.ba 1) .nil) (fun a E=>?_))))
 obtain ⟨t18,h19,H⟩:=bd H
 refine ple E (.cl en55 (qAB.calls x _ _ _ _ _ S.own.sub g0_6 h19)) ?_
 rintro _ u17 a ⟨F20,A21,c22,rfl,hC⟩ E
 have hs:=hC.sub
 replace S:=S.called (X:=[]) hC
 replace g0_6:=g0_6.mono hs
 refine plc E (.r 2 1 .nil) (fun a E=>?_)
 replace S:=S.front 1 rfl
 refine pls E S [.slice A21 t18.length c22,.slice none 0 0] fun u25 hb4 S a E=>plc E (.r 4 1 .nil) (fun a E=>pld (hK16 _ _ (wp_ret ?_)))
 replace S:=S.pm [1] 3
 obtain rfl:=si H
 exact rtm E (.b hb4 ag69 sz69 (.t .nil)) ⟨_,rfl,_,_,_,_,_,rfl,S,(Rd.nil _ _)⟩
 refine sq fun K13 hK13=>pl0 (plc E (.r 0 2 .nil) (fun a E=>pls E S [.slice none 0 0,.slice none 0 0] fun u14 hb4 S a E=>plc E (.r 3 1 .nil) (fun a E=>pld (hK13 _ _ (wp_ret (qAH ?_))))))
 replace S:=S.nilrow ki 3
 replace S:=S.pm [0] 3
 obtain rfl:=si H
 exact rtm E (.b hb4 ag69 sz69 (.t .nil)) ⟨_,rfl,_,_,_,_,_,rfl,S,(Rd.nil _ _)⟩
def qj.f(k:Nat):Option Bool:=(qAC.f k (⟨3,5,0,0,0,0,[]⟩:qp)).bind fun t4=>(if t4.2=0 then ((qV.f k t4.1.f0 [3,5,0,0,0,0,0]).bind fun t24=>(some t24)) else (some false))
def qj.Post(W F:World)(r:Bool)(v:Value)(w':World):Prop:=∃(F':World),v = .bool r∧Sm W F w' F' []
theorem qj.calls(k:Nat)(r:Bool)(W F:World)(hown:Sub F W)(H:qj.f k=some r):
    Cr 16 #[] W (qj.Post W F r):=by
 have S:=sT hown
 unfold qj.f at H
 refine ent 16 rfl rfl rfl (fun a E=>?_)
 refine rr E fun a E=>(sq fun K2 hK2=>pl0 (plc E (.r 0 1 .nil) (fun a E=>?_)))
 obtain ⟨t4,h5,H⟩:=bd H
 refine ple E (.cl en32 (qAC.calls k (⟨3,5,0,0,0,0,[]⟩:qp) _ _ _ _ _ S.own.sub (Rd.nil _ _) h5)) ?_
 rintro _ u3 a ⟨F6,A7,c8,A11,c12,rfl,hC,g13⟩ E
 have hs:=hC.sub
 replace S:=S.called (X:=[]) hC
 refine plc E (.r 2 3 .nil) (fun a E=>pla (t:=69) E S [.slice none 0 0,.slice none 0 0] fun b14 u15 hb14 S a E=>pls E S [.slice A7 t4.1.f0.length c8,.slice A11 t4.1.f1.length c12] fun u16 hb14 S a E=>plc E (.r 7 1 .nil) (fun a E=>pld (hK2 _ _ (sq fun K17 hK17=>pl0 (plc E (.r 0 3 .nil) (fun a E=>E.fk 10 H (fun c18 E H=>?_) fun c18 E H=>?_))))))
 refine plc E (.r 3 1<|.b 4 0 hb14<|.nil) (fun a E=>ple E (.lit (d:=ki) (e:=3) S [3,5,0,0,0,0,0] (.cons rfl<|.cons rfl<|.cons rfl<|.cons rfl<|.cons rfl<|.cons rfl<|.cons rfl .nil)) ?_)
 rintro _ u19 a ⟨A20,c21,rfl,S,hg⟩ E
 obtain ⟨t24,h25,H⟩:=bd H
 refine plq E S en31 (qV.calls k t4.1.f0 [3,5,0,0,0,0,0] _ _ _ _ _ _ _ (Sub.refl _) (S.rd_at (i:=2) rfl) (S.rd_at (i:=0) rfl) h25) fun u23 S a E=>plc E (.r 7 2 .nil) (fun a E=>pld (hK17 _ _ (wp_ret ?_)))
 replace S:=S.pm [] 3
 obtain rfl:=si H
 exact rt1 E ⟨_,rfl,_,rfl,S⟩
 refine plc E (.r 3 6 .nil) (fun a E=>pld (hK17 _ _ (wp_ret ?_)))
 replace S:=S.pm [] 2
 obtain rfl:=si H
 exact rt1 E ⟨_,rfl,_,rfl,S⟩
def qy.f(x:Int)(y:Int)(z:Int):Option Bool:=if x≥y then (some (decide (x≤z))) else (some false)
def qy.Post(W F:World)(r:Bool)(v:Value)(w':World):Prop:=∃(F':World),v = .bool r∧Sm W F w' F' []
theorem qy.calls(x:Int)(y:Int)(z:Int)(r:Bool)(W F:World)(hown:Sub F W)(H:qy.f x y z=some r):
    Cr 56 #[iv x,iv y,iv z] W (qy.Post W F r):=by
 have S:=sT hown
 unfold qy.f at H
 refine ent 15 rfl rfl rfl (fun a E=>?_)
 refine rr E fun a E=>(sq fun K2 hK2=>pl0 (plc E (.r 0 4 .nil) (fun a E=>E.fk 10 H (fun c3 E H=>?_) fun c3 E H=>?_)))
 refine plc E (.r 4 5 .nil) (fun a E=>pld (hK2 _ _ (wp_ret ?_)))
 obtain rfl:=si H
 exact rt1 E ⟨_,rfl,_,rfl,S⟩
 refine plc E (.r 4 5 .nil) (fun a E=>pld (hK2 _ _ (wp_ret ?_)))
 obtain rfl:=si H
 exact rt1 E ⟨_,rfl,_,rfl,S⟩
def qAA.f(x:Int)(y:Int)(z:Int):Option Bool:=if x≥y then (some (decide (x≤z))) else (some false)
def qAA.Post(W F:World)(r:Bool)(v:Value)(w':World):Prop:=∃(F':World),v = .bool r∧Sm W F w' F' []
theorem qAA.calls(x:Int)(y:Int)(z:Int)(r:Bool)(W F:World)(hown:Sub F W)(H:qAA.f x y z=some r):
    Cr 67 #[iv x,iv y,iv z] W (qAA.Post W F r):=by
 have S:=sT hown
 unfold qAA.f at H
 refine ent 15 rfl rfl rfl (fun a E=>?_)
 refine rr E fun a E=>(sq fun K2 hK2=>pl0 (plc E (.r 0 4 .nil) (fun a E=>E.fk 10 H (fun c3 E H=>?_) fun c3 E H=>?_)))
 refine plc E (.r 4 5 .nil) (fun a E=>pld (hK2 _ _ (wp_ret ?_)))
 obtain rfl:=si H
 exact rt1 E ⟨_,rfl,_,rfl,S⟩
 refine plc E (.r 4 5 .nil) (fun a E=>pld (hK2 _ _ (wp_ret ?_)))
 obtain rfl:=si H
 exact rt1 E ⟨_,rfl,_,rfl,S⟩
mutual
def qi.l9:Nat→List qA→Int→Option Int
 | 0,_,_=>none
 | k+1,x,x8=>if x8<(x.length:Int) then (if 0≤x8∧x8<(x.length:Int) then ((qAA.f ((nth qA.z x x8).f0) 1 999).bind fun t28=>(if t28=true then ((qAA.f ((nth qA.z x x8).f1) 1 9).bind fun t32=>(if t32=true then ((qAA.f ((nth qA.z x x8).f2) 1 9).bind fun t36=>(if t36=true then ((qAA.f ((nth qA.z x x8).f3) 0 65536).bind fun t40=>(if t40=true then (if x8>0 then (if 0≤(w64 (x8 - 1))∧(w64 (x8 - 1))<(x.length:Int) then (qi.j49 k x x8 (decide ((nth qA.z x x8).f0≤(nth qA.z x (w64 (x8 - 1))).f0))) else (none)) else (qi.j49 k x x8 false)) else (qi.j49 k x x8 true))) else (qi.j49 k x x8 true))) else (qi.j49 k x x8 true))) else (qi.j49 k x x8 true))) else (none)) else (some 0)
def qi.j49:Nat→List qA→Int→Bool→Option Int
 | 0,_,_,_=>none
 | k+1,x,x8,y48=>if y48=true then (some 1) else (qi.l9 k x (w64 (x8+1)))
end
theorem qi.l9_s k x x8:type_of% (qi.l9.eq_2 x x8 k):=qi.l9.eq_2 x x8 k
theorem qi.j49_s k x x8 y48:type_of% (qi.j49.eq_2 x x8 y48 k):=qi.j49.eq_2 x x8 y48 k
def qi.f(k:Nat)(x:List qA):Option Int:=if (x.length:Int)>12 then (some 1) else (qi.l9 k x 0)
def qi.Post(W F:World)(r:Int)(v:Value)(w':World):Prop:=∃(F':World),v=iv r∧Sm W F w' F' []
theorem qi.calls(k:Nat)(x:List qA)(A0_0:OA)(c0_0:Nat)(r:Int)(W F:World)(hown:Sub F W)(g0_0:Rd qA.k F A0_0 c0_0 x)(H:qi.f k x=some r):
    Cr 57 #[.slice A0_0 x.length c0_0] W (qi.Post W F r):=by
 have S:=sT hown
 unfold qi.f at H
 refine ent 53 rfl rfl rfl (fun a E=>?_)
 refine rr E fun a E=>(sq fun K2 hK2=>rr E fun a E=>(E.ik 7 H (fun c4 E H=>?_) fun c4 E H=>?_))
 refine rr E fun a E=>(wp_ret (qAH ?_))
 obtain rfl:=si H
 exact rt1 E ⟨_,rfl,_,rfl,S⟩
 refine wp_skip (hK2 _ _ (sq fun K6 hK6=>rr E fun a E=>(wp_block ?_)))
 refine wp_loop_ghost (fun kq10 a w'=>∃(G:NV)(x8:Int),kq10≤k∧Env 53 G a∧At G [(0,.slice A0_0 x.length c0_0),(8,.slice A0_0 x.length c0_0),(9,iv (x.length:Int)),(10,iv x8)]∧Sm W F w' F []∧qi.l9 kq10 x x8=some r) k ⟨_,0,Nat.le_refl _,E,.of,S,H⟩ ?_
 rintro kq10 a u12 ⟨G,x8,hkq,E,A,S,H⟩
 obtain _ | k11:=kq10
 exact zz H
 rw [qi.l9_s]at H
 obtain ⟨J,E⟩:=E.at A
 refine rr E fun a E=>(sq fun K14 hK14=>E.ik 11 H (fun c15 E H=>?_) fun c15 E H=>?_)
 refine wp_skip (hK14 _ _ (sq fun K16 hK16=>wp_block (sq fun K17 hK17=>pl0 ?_)))
 obtain ⟨c18,H⟩:=gd H
 have hE_:=E
 obtain ⟨ad19,rfl⟩:=g0_0.addr c18.1 c18.2
 replace E:=hE_
 obtain ⟨cs21,rfl,hc22⟩:=g0_0.el qA.z x8 c18.1 c18.2
 refine plc E (.r 0 1<|.x 1 c18<|.cs 2 (S.fcs hc22)<|.nil) (fun a E=>pla (t:=96) E S [iv 0,iv 0,iv 0,iv 0,.bool false,.bool false] fun b23 u24 hb23 S a E=>plc E (.r 4 1 .nil) (fun a E=>pls E S [iv ((nth qA.z x x8).f0),iv ((nth qA.z x x8).f1),iv ((nth qA.z x x8).f2),iv ((nth qA.z x x8).f3),.bool ((nth qA.z x x8).f4),.bool ((nth qA.z x x8).f5)] fun u25 hb23 S a E=>pld (hK17 _ _ (sq fun K26 hK26=>?_))))
 have J52:∀ kq50,kq50≤k11→∀(G:NV)(y48:Bool)(a:Act)(w':World),Env 53 G a→At G [(0,.slice (some ad19) x.length c0_0),(8,.slice (some ad19) x.length c0_0),(9,iv (x.length:Int)),(10,iv x8),(51,.bool y48)]→Sm W F w' F [box b23 #[iv ((nth qA.z x x8).f0),iv ((nth qA.z x x8).f1),iv ((nth qA.z x x8).f2),iv ((nth qA.z x x8).f3),.bool ((nth qA.z x x8).f4),.bool ((nth qA.z x x8).f5)] 96]→qi.j49 kq50 x x8 y48=some r→K26 a w':=by
  intro kq50 hkq G y48 a u53 E A S H
  obtain _ | k51:=kq50
  exact zz H
  rw [qi.j49_s]at H
  obtain ⟨J,E⟩:=E.at A
  refine hK26 _ _ (E.ib 51 H (fun c54 E H=>?_) fun c54 E H=>?_)
  refine rr E fun a E=>(wp_ret (qAI (qAH (qAH (qAI (qAH ?_))))))
  replace S:=S.tail
  obtain rfl:=si H
  exact rt1 E ⟨_,rfl,_,rfl,S⟩
  refine wp_skip ?_
  refine qAL ?_
  refine hK16 _ _ (pl0 (plc E (.r 0 2 .nil) (fun a E=>pld ?_)))
  replace S:=S.tail
  exact qAM ⟨k51,by omega,_,(w64 (x8+1)),by omega,E,.of,S,H⟩
 refine drawn 37 ⟨[],[],fun q=>False⟩ mixed rfl (by kernel_rfl) (fun hst=>?_)
 replace S:=S.drew
 have hb23:=S.ba 0
 refine mny 35 hst E (.r 0 1<|.b 1 0 hb23<|.nil) (fun a E=>?_)
 obtain ⟨t28,h29,H⟩:=bd H
 refine on1 2 E (.cl en67 (qAA.calls ((nth qA.z x x8).f0) 1 999 _ _ _ S.own.sub h29)) ?_
 rintro _ u27 a ⟨_,rfl,hC⟩ E
 refine ⟨.of hC.agr,?_⟩
 replace S:=S.lent hC
 refine mny 32 hst E (.r 3 2 .nil) (fun a E=>?_)
 refine E.fbn 19 H (fun c30 E H=>?_) fun c30 E H=>?_
 have hb23:=S.ba 0
 refine mny 30 hst E (.r 5 1<|.b 6 1 hb23<|.nil) (fun a E=>?_)
 obtain ⟨t32,h33,H⟩:=bd H
 refine on1 7 E (.cl en67 (qAA.calls ((nth qA.z x x8).f1) 1 9 _ _ _ S.own.sub h33)) ?_
 rintro _ u31 a ⟨_,rfl,hC⟩ E
 refine ⟨.of hC.agr,?_⟩
 replace S:=S.lent hC
 refine mny 26 hst E (.r 8 3 .nil) (fun a E=>?_)
 refine E.fbn 25 H (fun c34 E H=>?_) fun c34 E H=>?_
 have hb23:=S.ba 0
 refine mny 24 hst E (.r 11 1<|.b 12 2 hb23<|.nil) (fun a E=>?_)
 obtain ⟨t36,h37,H⟩:=bd H
 refine on1 13 E (.cl en67 (qAA.calls ((nth qA.z x x8).f2) 1 9 _ _ _ S.own.sub h37)) ?_
 rintro _ u35 a ⟨_,rfl,hC⟩ E
 refine ⟨.of hC.agr,?_⟩
 replace S:=S.lent hC
 refine mny 20 hst E (.r 14 3 .nil) (fun a E=>?_)
 refine E.fbn 31 H (fun c38 E H=>?_) fun c38 E H=>?_
 have hb23:=S.ba 0
 refine mny 18 hst E (.r 17 1<|.b 18 3 hb23<|.nil) (fun a E=>?_)
 obtain ⟨t40,h41,H⟩:=bd H
 refine on1 19 E (.cl en67 (qAA.calls ((nth qA.z x x8).f3) 0 65536 _ _ _ S.own.sub h41)) ?_
 rintro _ u39 a ⟨_,rfl,hC⟩ E
 refine ⟨.of hC.agr,?_⟩
 replace S:=S.lent hC
 refine mny 14 hst E (.r 20 3 .nil) (fun a E=>?_)
 refine E.fbn 37 H (fun c42 E H=>?_) fun c42 E H=>?_
 refine mny 11 hst E (.r 23 3 .nil) (fun a E=>?_)
 refine E.fk 40 H (fun c43 E H=>?_) fun c43 E H=>?_
 have hb23:=S.ba 0
 obtain ⟨c44,H⟩:=gd H
 obtain ⟨cs46,rfl,hc47⟩:=g0_0.el qA.z (w64 (x8 - 1)) c44.1 c44.2
 refine mny 0 hst E (.r 26 1<|.b 27 0 hb23<|.r 28 3<|.x 31 c44<|.r 32 1<|.c 33 (S.fc hc47 0)<|.r 34 3<|.nil) (fun a E=>?_)
 refine dn ?_
 exact J52 _ (by omega) _ (decide ((nth qA.z x x8).f0≤(nth qA.z x (w64 (x8 - 1))).f0)) _ _ E .of S H
 refine mny 0 hst E (.r 26 11 .nil) (fun a E=>?_)
 refine dn ?_
 exact J52 _ (by omega) _ false _ _ E .of S H
 refine mny 0 hst E (.r 23 14 .nil) (fun a E=>?_)
 refine dn ?_
 exact J52 _ (by omega) _ true _ _ E .of S H
 refine mny 0 hst E (.r 17 20 .nil) (fun a E=>?_)
 refine dn ?_
 exact J52 _ (by omega) _ true _ _ E .of S H
 refine mny 0 hst E (.r 11 26 .nil) (fun a E=>?_)
 refine dn ?_
 exact J52 _ (by omega) _ true _ _ E .of S H
 refine mny 0 hst E (.r 5 32 .nil) (fun a E=>?_)
 refine dn ?_
 exact J52 _ (by omega) _ true _ _ E .of S H
 refine wp_exit ?_
 refine hK6 _ _ (rr E fun a E=>(wp_ret ?_))
 obtain rfl:=si H
 exact rt1 E ⟨_,rfl,_,rfl,S⟩
def qX.l5:Nat→List Int→Int→Int→Option Int
 | 0,_,_,_=>none
 | k+1,x,y,x4=>if x4<(x.length:Int) then (if 0≤x4∧x4<(x.length:Int) then (if y=(nth 0 x x4) then (some x4) else (qX.l5 k x y (w64 (x4+1)))) else (none)) else (some (-1))
theorem qX.l5_s k x y x4:type_of% (qX.l5.eq_2 x y x4 k):=qX.l5.eq_2 x y x4 k
def qX.f(k:Nat)(x:List Int)(y:Int):Option Int:=qX.l5 k x y 0
def qX.Post(W F:World)(r:Int)(v:Value)(w':World):Prop:=∃(F':World),v=iv r∧Sm W F w' F' []
theorem qX.calls(k:Nat)(x:List Int)(y:Int)(A0_0:OA)(c0_0:Nat)(r:Int)(W F:World)(hown:Sub F W)(g0_0:Rd ki F A0_0 c0_0 x)(H:qX.f k x y=some r):
    Cr 72 #[.slice A0_0 x.length c0_0,iv y] W (qX.Post W F r):=by
 have S:=sT hown
 unfold qX.f at H
 refine ent 19 rfl rfl rfl (fun a E=>?_)
 refine rr E fun a E=>(sq fun K2 hK2=>rr E fun a E=>(wp_block ?_))
 refine wp_loop_ghost (fun kq6 a w'=>∃(G:NV)(x4:Int),kq6≤k∧Env 19 G a∧At G [(0,.slice A0_0 x.length c0_0),(1,iv y),(7,iv (x.length:Int)),(8,iv x4)]∧Sm W F w' F []∧qX.l5 kq6 x y x4=some r) k ⟨_,0,Nat.le_refl _,E,.of,S,H⟩ ?_
 rintro kq6 a u8 ⟨G,x4,hkq,E,A,S,H⟩
 obtain _ | k7:=kq6
 exact zz H
 rw [qX.l5_s]at H
 obtain ⟨J,E⟩:=E.at A
 refine rr E fun a E=>(sq fun K10 hK10=>E.ik 9 H (fun c11 E H=>?_) fun c11 E H=>?_)
 refine wp_skip (hK10 _ _ (sq fun K12 hK12=>wp_block (rr E fun a E=>(sq fun K14 hK14=>pl0 ?_))))
 obtain ⟨c15,H⟩:=gd H
 have hE_:=E
 obtain ⟨ad16,rfl⟩:=g0_0.addr c15.1 c15.2
 replace E:=hE_
 obtain ⟨cs18,rfl,hc19⟩:=g0_0.el 0 x4 c15.1 c15.2
 refine plc E (.r 0 3<|.x 3 c15<|.c 4 (S.fc hc19 0)<|.r 5 1<|.nil) (fun a E=>pld (hK14 _ _ (E.ik 16 H (fun c20 E H=>?_) fun c20 E H=>?_)))
 refine rr E fun a E=>(wp_ret (qAI (qAH (qAH (qAI (qAH ?_))))))
 obtain rfl:=si H
 exact rt1 E ⟨_,rfl,_,rfl,S⟩
 refine wp_skip ?_
 refine qAL ?_
 refine hK12 _ _ (pl0 (plc E (.r 0 2 .nil) (fun a E=>pld ?_)))
 exact qAM ⟨k7,by omega,_,(w64 (x4+1)),by omega,E,.of,S,H⟩
 refine wp_exit ?_
 refine hK2 _ _ (rr E fun a E=>(wp_ret ?_))
 obtain rfl:=si H
 exact rt1 E ⟨_,rfl,_,rfl,S⟩
def qn.f(k:Nat)(x:List Int)(y:Int):Option Bool:=(qX.f k x y).bind fun t4=>(some (decide (t4≥0)))
def qn.Post(W F:World)(r:Bool)(v:Value)(w':World):Prop:=∃(F':World),v = .bool r∧Sm W F w' F' []
theorem qn.calls(k:Nat)(x:List Int)(y:Int)(A0_0:OA)(c0_0:Nat)(r:Bool)(W F:World)(hown:Sub F W)(g0_0:Rd ki F A0_0 c0_0 x)(H:qn.f k x y=some r):
    Cr 68 #[.slice A0_0 x.length c0_0,iv y] W (qn.Post W F r):=by
 have S:=sT hown
 unfold qn.f at H
 refine ent 9 rfl rfl rfl (fun a E=>?_)
 refine rr E fun a E=>(sq fun K2 hK2=>pl0 (plc E (.r 0 2 .nil) (fun a E=>?_)))
 obtain ⟨t4,h5,H⟩:=bd H
 refine plq E S en72 (qX.calls k x y _ _ _ _ _ S.own.sub g0_0 h5) fun u3 S a E=>plc E (.r 3 2 .nil) (fun a E=>pld (hK2 _ _ (wp_ret ?_)))
 obtain rfl:=si H
 exact rt1 E ⟨_,rfl,_,rfl,S⟩
mutual
def qd.l18:Nat→List qA→List Int→List Int→Int→Option Bool
 | 0,_,_,_,_=>none
 | k+1,x,y,l16,x17=>if x17<(y.length:Int) then (if 0≤x17∧x17<(y.length:Int) then (qd.l35 k x y l16 x17 0) else (none)) else (some true)
def qd.l35:Nat→List qA→List Int→List Int→Int→Int→Option Bool
 | 0,_,_,_,_,_=>none
 | k+1,x,y,l16,x17,x34=>if x34<(x.length:Int) then (if 0≤x34∧x34<(x.length:Int) then (if (nth qA.z x x34).f0=(nth 0 y x17) then ((qn.f k l16 ((nth qA.z x x34).f1)).bind fun t55=>(qd.j58 k x y l16 x17 x34 (!t55))) else (qd.j58 k x y l16 x17 x34 false)) else (none)) else (some false)
def qd.j58:Nat→List qA→List Int→List Int→Int→Int→Bool→Option Bool
 | 0,_,_,_,_,_,_=>none
 | k+1,x,y,l16,x17,x34,y57=>if y57=true then (if ((l16.length:Int)+((1:Nat):Int)) * 8≤140737488355328 then (qd.l18 k x y (l16++[(nth qA.z x x34).f1]) (w64 (x17+1))) else (none)) else (qd.l35 k x y l16 x17 (w64 (x34+1)))
end
theorem qd.l18_s k x y l16 x17:type_of% (qd.l18.eq_2 x y l16 x17 k):=qd.l18.eq_2 x y l16 x17 k
theorem qd.l35_s k x y l16 x17 x34:type_of% (qd.l35.eq_2 x y l16 x17 x34 k):=qd.l35.eq_2 x y l16 x17 x34 k
theorem qd.j58_s k x y l16 x17 x34 y57:type_of% (qd.j58.eq_2 x y l16 x17 x34 y57 k):=qd.j58.eq_2 x y l16 x17 x34 y57 k
def qd.f(k:Nat)(x:List qA)(y:List Int):Option Bool:=(qi.f k x).bind fun t5=>(if t5=0 then (qd.l18 k x y [] 0) else (some false))
def qd.Post(W F:World)(r:Bool)(v:Value)(w':World):Prop:=∃(F':World),v = .bool r∧Sm W F w' F' []
theorem qd.calls(k:Nat)(x:List qA)(y:List Int)(A0_0:OA)(c0_0:Nat)(A1_0:OA)(c1_0:Nat)(r:Bool)(W F:World)(hown:Sub F W)(g0_0:Rd qA.k F A0_0 c0_0 x)(g1_0:Rd ki F A1_0 c1_0 y)(H:qd.f k x y=some r):
    Cr 58 #[.slice A0_0 x.length c0_0,.slice A1_0 y.length c1_0] W (qd.Post W F r):=by
 have S:=sT hown
 unfold qd.f at H
 refine ent 43 rfl rfl rfl (fun a E=>?_)
 refine rr E fun a E=>?_
 refine wp_scope_straight ?_
 refine sq fun K2 hK2=>sq fun K3 hK3=>pl0 (plc E (.r 0 1 .nil) (fun a E=>?_))
 obtain ⟨t5,h6,H⟩:=bd H
 refine plq E S en57 (qi.calls k x _ _ _ _ _ S.own.sub g0_0 h6) fun u4 S a E=>plc E (.r 2 1 .nil) (fun a E=>pld (hK3 _ _ (E.ikn 12 H (fun c7 E H=>?_) fun c7 E H=>?_)))
 refine wp_skip (hK2 _ _ (rr E fun a E=>(sq fun K10 hK10=>?_)))
 refine wp_label ?_
 refine hK10 _ _ (sq fun K11 hK11=>rr E fun a E=>(wp_block ?_))
 replace S:=S.nilrow ki 3
 refine wp_loop_ghost (fun kq19 a w'=>∃(G:NV)(A14:OA)(c15:Nat)(l16:List Int)(x17:Int),kq19≤k∧Env 43 G a∧At G [(0,.slice A0_0 x.length c0_0),(5,.slice A14 l16.length c15),(13,.slice A1_0 y.length c1_0),(14,iv (y.length:Int)),(15,iv x17)]∧Sm W F w' F [row ki 3 (.slice A14 l16.length c15) l16]∧qd.l18 kq19 x y l16 x17=some r) k ⟨_,none,0,[],0,Nat.le_refl _,E,.of,S,H⟩ ?_
 rintro kq19 a u21 ⟨G,A14,c15,l16,x17,hkq,E,A,S,H⟩
 obtain _ | k20:=kq19
 exact zz H
 rw [qd.l18_s]at H
 obtain ⟨J,E⟩:=E.at A
 refine rr E fun a E=>(sq fun K23 hK23=>E.ik 16 H (fun c24 E H=>?_) fun c24 E H=>?_)
 refine wp_skip (hK23 _ _ (sq fun K25 hK25=>wp_block (sq fun K26 hK26=>pl0 ?_)))
 obtain ⟨c27,H⟩:=gd H
 have hE_:=E
 obtain ⟨ad28,rfl⟩:=g1_0.addr c27.1 c27.2
 replace E:=hE_
 obtain ⟨cs30,rfl,hc31⟩:=g1_0.el 0 x17 c27.1 c27.2
 refine plc E (.x 0 c27<|.c 1 (S.fc hc31 0)<|.r 2 1<|.nil) (fun a E=>pld (hK26 _ _ (sq fun K32 hK32=>rr E fun a E=>(wp_block ?_))))
 refine wp_loop_ghost (fun kq36 a w'=>∃(G:NV)(x34:Int),kq36≤k20∧Env 43 G a∧At G [(0,.slice A0_0 x.length c0_0),(5,.slice A14 l16.length c15),(7,iv (nth 0 y x17)),(13,.slice (some ad28) y.length c1_0),(14,iv (y.length:Int)),(15,iv x17),(19,.slice A0_0 x.length c0_0),(20,iv (x.length:Int)),(21,iv x34)]∧Sm W F w' F [row ki 3 (.slice A14 l16.length c15) l16]∧qd.l35 kq36 x y l16 x17 x34=some r) k20 ⟨_,0,Nat.le_refl _,E,.of,S,H⟩ ?_
 rintro kq36 a u38 ⟨G,x34,hkq,E,A,S,H⟩
 obtain _ | k37:=kq36
 exact zz H
 rw [qd.l35_s]at H
 obtain ⟨J,E⟩:=E.at A
 refine rr E fun a E=>(sq fun K40 hK40=>E.ik 22 H (fun c41 E H=>?_) fun c41 E H=>?_)
 refine wp_skip (hK40 _ _ (sq fun K42 hK42=>wp_block (sq fun K43 hK43=>pl0 ?_)))
 obtain ⟨c44,H⟩:=gd H
 have hE_:=E
 obtain ⟨ad45,rfl⟩:=g0_0.addr c44.1 c44.2
 replace E:=hE_
 obtain ⟨cs47,rfl,hc48⟩:=g0_0.el qA.z x34 c44.1 c44.2
 refine plc E (.x 0 c44<|.cs 1 (S.fcs hc48)<|.nil) (fun a E=>pla (t:=96) E S [iv 0,iv 0,iv 0,iv 0,.bool false,.bool false] fun b49 u50 hb49 S a E=>pls E S [iv ((nth qA.z x x34).f0),iv ((nth qA.z x x34).f1),iv ((nth qA.z x x34).f2),iv ((nth qA.z x x34).f3),.bool ((nth qA.z x x34).f4),.bool ((nth qA.z x x34).f5)] fun u51 hb49 S a E=>pld (hK43 _ _ (sq fun K52 hK52=>?_)))
 have J61:∀ kq59,kq59≤k37→∀(G:NV)(y57:Bool)(a:Act)(w':World),Env 43 G a→At G [(0,.slice (some ad45) x.length c0_0),(5,.slice A14 l16.length c15),(7,iv (nth 0 y x17)),(9,.pointer (pb b49)),(13,.slice (some ad28) y.length c1_0),(14,iv (y.length:Int)),(15,iv x17),(19,.slice (some ad45) x.length c0_0),(20,iv (x.length:Int)),(21,iv x34),(35,.bool y57)]→Sm W F w' F [box b49 #[iv ((nth qA.z x x34).f0),iv ((nth qA.z x x34).f1),iv ((nth qA.z x x34).f2),iv ((nth qA.z x x34).f3),.bool ((nth qA.z x x34).f4),.bool ((nth qA.z x x34).f5)] 96,row ki 3 (.slice A14 l16.length c15) l16]→qd.j58 kq59 x y l16 x17 x34 y57=some r→K52 a w':=by
  intro kq59 hkq G y57 a u62 E A S H
  obtain _ | k60:=kq59
  exact zz H
  rw [qd.j58_s]at H
  obtain ⟨J,E⟩:=E.at A
  refine hK52 _ _ (E.ib 35 H (fun c63 E H=>?_) fun c63 E H=>?_)
  refine sq fun K64 hK64=>pl0 (plc E (.r 0 2<|.b 2 1 (S.ba 0)<|.nil) (fun a E=>ple E (.lit (d:=ki) (e:=3) S [(nth qA.z x x34).f1] (.cons rfl .nil)) ?_))
  rintro _ u65 a ⟨A66,c67,rfl,S,hg⟩ E
  obtain ⟨c69,H⟩:=gd H
  replace S:=S.front 2 rfl
  refine ple E (.ap (d:=ki) 8 S (qAN (S.row_at (i:=1) rfl)) c69 c67) ?_
  rintro _ u72 a ⟨A70,c71,rfl,S,hz⟩ E
  refine plc E (.r 5 1 .nil) (fun a E=>pld (hK64 _ _ ?_))
  refine wp_exit ?_
  refine hK25 _ _ (pl0 (plc E (.r 0 2 .nil) (fun a E=>pld ?_)))
  replace S:=S.pm [0] 3
  exact qAM ⟨k60,by omega,_,A70,c71,(l16++[(nth qA.z x x34).f1]),(w64 (x17+1)),by omega,E,.of,S,H⟩
  refine wp_skip ?_
  refine qAL ?_
  refine hK42 _ _ (pl0 (plc E (.r 0 2 .nil) (fun a E=>pld ?_)))
  replace S:=S.tail
  exact qAM ⟨k60,by omega,_,(w64 (x34+1)),by omega,E,.of,S,H⟩
 refine pl0 (plc E (.r 0 1<|.b 1 0 hb49<|.r 2 3<|.nil) (fun a E=>E.fk 29 H (fun c53 E H=>?_) fun c53 E H=>?_))
 refine plc E (.r 5 2<|.b 7 1 hb49<|.nil) (fun a E=>?_)
 obtain ⟨t55,h56,H⟩:=bd H
 refine plq E S en68 (qn.calls k37 l16 ((nth qA.z x x34).f1) _ _ _ _ _ (Sub.refl _) (S.rd_at (i:=1) rfl) h56) fun u54 S a E=>plc E (.r 9 2 .nil) (fun a E=>pld ?_)
 exact J61 _ (by omega) _ (!t55) _ _ E .of S H
 refine plc E (.r 5 6 .nil) (fun a E=>pld ?_)
 exact J61 _ (by omega) _ false _ _ E .of S H
 refine wp_exit ?_
 refine hK32 _ _ (rr E fun a E=>(wp_ret (qAI (qAH (qAH (qAI (qAH (qAq ?_))))))))
 replace S:=S.tail
 obtain rfl:=si H
 exact rt1 E ⟨_,rfl,_,rfl,S⟩
 refine wp_exit ?_
 refine hK11 _ _ (rr E fun a E=>(wp_ret (qAq ?_)))
 replace S:=S.tail
 obtain rfl:=si H
 exact rt1 E ⟨_,rfl,_,rfl,S⟩
 refine rr E fun a E=>(wp_ret (qAH (qAq ?_)))
 obtain rfl:=si H
 exact rt1 E ⟨_,rfl,_,rfl,S⟩
def qz.f(k:Nat)(x:qD)(xf0_:qD):Option Bool:=(qW.f k x.f1 xf0_.f1).bind fun t6=>(some t6)
def qz.Post(W F:World)(r:Bool)(v:Value)(w':World):Prop:=∃(F':World),v = .bool r∧Sm W F w' F' []
theorem qz.calls(k:Nat)(x:qD)(xf0_:qD)(A0_1:OA)(c0_1:Nat)(pf0_:Nat)(Af0_1:OA)(cf0_1:Nat)(r:Bool)(W F:World)(hown:Sub F W)(g0_1:Rd ki F A0_1 c0_1 x.f1)(gf0_1:Rd ki F Af0_1 cf0_1 xf0_.f1)(hpf0_:F.heap[pf0_]? = some (.cells #[iv xf0_.f0,.slice Af0_1 xf0_.f1.length cf0_1] 92 (0,0)))(H:qz.f k x xf0_=some r):
    Cr 74 #[.agg #[iv x.f0,.slice A0_1 x.f1.length c0_1],.pointer (pb pf0_)] W (qz.Post W F r):=by
 have S:=sT hown
 unfold qz.f at H
 refine ent 9 rfl rfl rfl (fun a E=>?_)
 refine sq fun K1 hK1=>pl0 (plx (t:=92) E S [iv x.f0,.slice A0_1 x.f1.length c0_1] fun b2 u3 hb2 S a E=>plc E (.r 1 1 .nil) (fun a E=>pld (hK1 _ _ (sq fun K4 hK4=>pl0 (plc E (.r 0 1<|.b 1 1 hb2<|.r 2 1<|.b 3 1 (S.own.sub _ _ _ _ hpf0_)<|.nil) (fun a E=>?_))))))
 obtain ⟨t6,h7,H⟩:=bd H
 refine plq E S en66 (qW.calls k x.f1 xf0_.f1 _ _ _ _ _ _ _ S.own.sub g0_1 gf0_1 h7) fun u5 S a E=>plc E (.r 5 1 .nil) (fun a E=>pld (hK4 _ _ (wp_ret ?_)))
 replace S:=S.tail
 obtain rfl:=si H
 exact rt1 E ⟨_,rfl,_,rfl,S⟩
def qG.l5:Nat→List qD→qD→Int→Option Int
 | 0,_,_,_=>none
 | k+1,x,x1c0_,x4=>if x4<(x.length:Int) then (if 0≤x4∧x4<(x.length:Int) then ((qz.f k (nth qD.z x x4) x1c0_).bind fun t24=>(if t24=true then (some x4) else (qG.l5 k x x1c0_ (w64 (x4+1))))) else (none)) else (some (-1))
theorem qG.l5_s k x x1c0_ x4:type_of% (qG.l5.eq_2 x x1c0_ x4 k):=qG.l5.eq_2 x x1c0_ x4 k
def qG.f(k:Nat)(x:List qD)(x1c0_:qD):Option Int:=qG.l5 k x x1c0_ 0
def qG.Post(W F:World)(r:Int)(v:Value)(w':World):Prop:=∃(F':World),v=iv r∧Sm W F w' F' []
theorem qG.calls(k:Nat)(x:List qD)(x1c0_:qD)(A0_0:OA)(c0_0:Nat)(p1c0_:Nat)(A1c0_1:OA)(c1c0_1:Nat)(r:Int)(W F:World)(hown:Sub F W)(g0_0:Rd qD.k F A0_0 c0_0 x)(g1c0_1:Rd ki F A1c0_1 c1c0_1 x1c0_.f1)(hp1c0_:F.heap[p1c0_]? = some (.cells #[iv x1c0_.f0,.slice A1c0_1 x1c0_.f1.length c1c0_1] 92 (0,0)))(H:qG.f k x x1c0_=some r):
    Cr 75 #[.slice A0_0 x.length c0_0,.func (.func 74) #[] #[.pointer (pb p1c0_)]] W (qG.Post W F r):=by
 have S:=sT hown
 unfold qG.f at H
 refine ent 19 rfl rfl rfl (fun a E=>?_)
 refine rr E fun a E=>(sq fun K2 hK2=>rr E fun a E=>(wp_block ?_))
 refine wp_loop_ghost (fun kq6 a w'=>∃(G:NV)(x4:Int),kq6≤k∧Env 19 G a∧At G [(0,.slice A0_0 x.length c0_0),(1,.func (.func 74) #[] #[.pointer (pb p1c0_)]),(7,iv (x.length:Int)),(8,iv x4)]∧Sm W F w' F []∧qG.l5 kq6 x x1c0_ x4=some r) k ⟨_,0,Nat.le_refl _,E,.of,S,H⟩ ?_
 rintro kq6 a u8 ⟨G,x4,hkq,E,A,S,H⟩
 obtain _ | k7:=kq6
 exact zz H
 rw [qG.l5_s]at H
 obtain ⟨J,E⟩:=E.at A
 refine rr E fun a E=>(sq fun K10 hK10=>E.ik 9 H (fun c11 E H=>?_) fun c11 E H=>?_)
 refine wp_skip (hK10 _ _ (sq fun K12 hK12=>wp_block (rr E fun a E=>(sq fun K14 hK14=>pl0 ?_))))
 obtain ⟨c15,H⟩:=gd H
 have hE_:=E
 obtain ⟨ad16,rfl⟩:=g0_0.addr c15.1 c15.2
 replace E:=hE_
 obtain ⟨cs18,⟨A20,c21,rfl,g22⟩,hc19⟩:=g0_0.el qD.z x4 c15.1 c15.2
 refine plc E (.r 0 3<|.x 3 c15<|.cs 4 (S.fcs hc19)<|.nil) (fun a E=>?_)
 obtain ⟨t24,h25,H⟩:=bd H
 refine plq E S en74 (qz.calls k7 (nth qD.z x x4) x1c0_ _ _ _ _ _ _ _ _ S.own.sub g22 g1c0_1 hp1c0_ h25) fun u23 S a E=>pld (hK14 _ _ (E.ib 16 H (fun c26 E H=>?_) fun c26 E H=>?_))
 refine rr E fun a E=>(wp_ret (qAI (qAH (qAH (qAI (qAH ?_))))))
 obtain rfl:=si H
 exact rt1 E ⟨_,rfl,_,rfl,S⟩
 refine wp_skip ?_
 refine qAL ?_
 refine hK12 _ _ (pl0 (plc E (.r 0 2 .nil) (fun a E=>pld ?_)))
 exact qAM ⟨k7,by omega,_,(w64 (x4+1)),by omega,E,.of,S,H⟩
 refine wp_exit ?_
 refine hK2 _ _ (rr E fun a E=>(wp_ret ?_))
 obtain rfl:=si H
 exact rt1 E ⟨_,rfl,_,rfl,S⟩
def qS.f(k:Nat)(x:List qD)(x1c0_:qD):Option Bool:=(qG.f k x x1c0_).bind fun t4=>(some (decide (t4≥0)))
def qS.Post(W F:World)(r:Bool)(v:Value)(w':World):Prop:=∃(F':World),v = .bool r∧Sm W F w' F' []
theorem qS.calls(k:Nat)(x:List qD)(x1c0_:qD)(A0_0:OA)(c0_0:Nat)(p1c0_:Nat)(A1c0_1:OA)(c1c0_1:Nat)(r:Bool)(W F:World)(hown:Sub F W)(g0_0:Rd qD.k F A0_0 c0_0 x)(g1c0_1:Rd ki F A1c0_1 c1c0_1 x1c0_.f1)(hp1c0_:F.heap[p1c0_]? = some (.cells #[iv x1c0_.f0,.slice A1c0_1 x1c0_.f1.length c1c0_1] 92 (0,0)))(H:qS.f k x x1c0_=some r):
    Cr 73 #[.slice A0_0 x.length c0_0,.func (.func 74) #[] #[.pointer (pb p1c0_)]] W (qS.Post W F r):=by
 have S:=sT hown
 unfold qS.f at H
 refine ent 9 rfl rfl rfl (fun a E=>?_)
 refine rr E fun a E=>(sq fun K2 hK2=>pl0 (plc E (.r 0 2 .nil) (fun a E=>?_)))
 obtain ⟨t4,h5,H⟩:=bd H
 refine plq E S en75 (qG.calls k x x1c0_ _ _ _ _ _ _ _ _ S.own.sub g0_0 g1c0_1 hp1c0_ h5) fun u3 S a E=>plc E (.r 3 2 .nil) (fun a E=>pld (hK2 _ _ (wp_ret ?_)))
 obtain rfl:=si H
 exact rt1 E ⟨_,rfl,_,rfl,S⟩
mutual
def qc.l9:Nat→qK→qC→Int→Option Bool
 | 0,_,_,_=>none
 | k+1,x,y,x8=>if x8<(y.f1.length:Int) then (if 0≤x8∧x8<(y.f1.length:Int) then ((qy.f ((nth qD.z y.f1 x8).f0) 0 (w64 (y.f0 - 1))).bind fun t32=>(if t32=true then (if x8>0 then (if 0≤(w64 (x8 - 1))∧(w64 (x8 - 1))<(y.f1.length:Int) then (if (nth qD.z y.f1 x8).f0≤(nth qD.z y.f1 (w64 (x8 - 1))).f0 then (qc.j51 k x y x8 true) else ((qy.f (((nth qD.z y.f1 x8).f1).length:Int) x.f2 x.f1).bind fun t45=>(qc.j51 k x y x8 (!t45)))) else (none)) else ((qy.f (((nth qD.z y.f1 x8).f1).length:Int) x.f2 x.f1).bind fun t48=>(qc.j51 k x y x8 (!t48)))) else (qc.j51 k x y x8 true))) else (none)) else (some true)
def qc.j51:Nat→qK→qC→Int→Bool→Option Bool
 | 0,_,_,_,_=>none
 | k+1,x,y,x8,y50=>if y50=true then (some false) else (qc.l61 k x y x8 0)
def qc.l61:Nat→qK→qC→Int→Int→Option Bool
 | 0,_,_,_,_=>none
 | k+1,x,y,x8,x60=>if x60<(((nth qD.z y.f1 x8).f1).length:Int) then (if 0≤x60∧x60<(((nth qD.z y.f1 x8).f1).length:Int) then ((qy.f (nth 0 ((nth qD.z y.f1 x8).f1) x60) 1 999).bind fun t77=>(if t77=true then (if x60>0 then (if 0≤(w64 (x60 - 1))∧(w64 (x60 - 1))<(((nth qD.z y.f1 x8).f1).length:Int) then (qc.j86 k x y x8 x60 (decide ((nth 0 ((nth qD.z y.f1 x8).f1) x60)≤(nth 0 ((nth qD.z y.f1 x8).f1) (w64 (x60 - 1)))))) else (none)) else (qc.j86 k x y x8 x60 false)) else (qc.j86 k x y x8 x60 true))) else (none)) else (if 0≤x8∧x8≤(y.f1.length:Int) then ((qS.f k (cutl y.f1 0 x8) (nth qD.z y.f1 x8)).bind fun t100=>(if t100=true then (some false) else (qc.l9 k x y (w64 (x8+1))))) else (none))
def qc.j86:Nat→qK→qC→Int→Int→Bool→Option Bool
 | 0,_,_,_,_,_=>none
 | k+1,x,y,x8,x60,y85=>if y85=true then (some false) else (qc.l61 k x y x8 (w64 (x60+1)))
end
theorem qc.l9_s k x y x8:type_of% (qc.l9.eq_2 x y x8 k):=qc.l9.eq_2 x y x8 k
theorem qc.j51_s k x y x8 y50:type_of% (qc.j51.eq_2 x y x8 y50 k):=qc.j51.eq_2 x y x8 y50 k
theorem qc.l61_s k x y x8 x60:type_of% (qc.l61.eq_2 x y x8 x60 k):=qc.l61.eq_2 x y x8 x60 k
theorem qc.j86_s k x y x8 x60 y85:type_of% (qc.j86.eq_2 x y x8 x60 y85 k):=qc.j86.eq_2 x y x8 x60 y85 k
def qc.f(k:Nat)(x:qK)(y:qC):Option Bool:=qc.l9 k x y 0
def qc.Post(W F:World)(r:Bool)(v:Value)(w':World):Prop:=∃(F':World),v = .bool r∧Sm W F w' F' []
theorem qc.calls(k:Nat)(x:qK)(y:qC)(A0_4:OA)(c0_4:Nat)(A0_5:OA)(c0_5:Nat)(A0_6:OA)(c0_6:Nat)(A1_1:OA)(c1_1:Nat)(r:Bool)(W F:World)(hown:Sub F W)(g0_4:Rd qA.k F A0_4 c0_4 x.f4)(g0_5:Rd qI.k F A0_5 c0_5 x.f5)(g0_6:Rd qC.k F A0_6 c0_6 x.f6)(g1_1:Rd qD.k F A1_1 c1_1 y.f1)(H:qc.f k x y=some r):
    Cr 69 #[.agg #[iv x.f0,iv x.f1,iv x.f2,iv x.f3,.slice A0_4 x.f4.length c0_4,.slice A0_5 x.f5.length c0_5,.slice A0_6 x.f6.length c0_6],.agg #[iv y.f0,.slice A1_1 y.f1.length c1_1]] W (qc.Post W F r):=by
 have S:=sT hown
 unfold qc.f at H
 refine ent 84 rfl rfl rfl (fun a E=>?_)
 refine sq fun K1 hK1=>pl0 (plx (t:=65) E S [iv x.f0,iv x.f1,iv x.f2,iv x.f3,.slice A0_4 x.f4.length c0_4,.slice A0_5 x.f5.length c0_5,.slice A0_6 x.f6.length c0_6] fun b2 u3 hb2 S a E=>plx (t:=90) E S [iv y.f0,.slice A1_1 y.f1.length c1_1] fun b4 u5 hb4 S a E=>plc E (.r 2 1 .nil) (fun a E=>pld (hK1 _ _ (sq fun K6 hK6=>rg E (.r 0 1<|.b 1 1 hb4<|.r 2 2<|.nil) fun a E=>(wp_block ?_)))))
 refine wp_loop_ghost (fun kq10 a w'=>∃(G:NV)(x8:Int),kq10≤k∧Env 84 G a∧At G [(2,.pointer (pb b2)),(3,.pointer (pb b4)),(10,.slice A1_1 y.f1.length c1_1),(11,iv (y.f1.length:Int)),(12,iv x8)]∧Sm W F w' F [box b4 #[iv y.f0,.slice A1_1 y.f1.length c1_1] 90,box b2 #[iv x.f0,iv x.f1,iv x.f2,iv x.f3,.slice A0_4 x.f4.length c0_4,.slice A0_5 x.f5.length c0_5,.slice A0_6 x.f6.length c0_6] 65]∧qc.l9 kq10 x y x8=some r) k ⟨_,0,Nat.le_refl _,E,.of,S,H⟩ ?_
 rintro kq10 a u12 ⟨G,x8,hkq,E,A,S,H⟩
 obtain _ | k11:=kq10
 exact zz H
 rw [qc.l9_s]at H
 obtain ⟨J,E⟩:=E.at A
 refine rr E fun a E=>(sq fun K14 hK14=>E.ik 13 H (fun c15 E H=>?_) fun c15 E H=>?_)
 refine wp_skip (hK14 _ _ (sq fun K16 hK16=>wp_block (sq fun K17 hK17=>pl0 ?_)))
 obtain ⟨c18,H⟩:=gd H
 have hE_:=E
 obtain ⟨ad19,rfl⟩:=g1_1.addr c18.1 c18.2
 replace E:=hE_
 obtain ⟨cs21,⟨A23,c24,rfl,g25⟩,hc22⟩:=g1_1.el qD.z x8 c18.1 c18.2
 refine plc E (.r 0 1<|.x 1 c18<|.cs 2 (S.fcs hc22)<|.nil) (fun a E=>pla (t:=92) E S [iv 0,.slice none 0 0] fun b26 u27 hb26 S a E=>plc E (.r 4 1 .nil) (fun a E=>pls E S [iv ((nth qD.z y.f1 x8).f0),.slice A23 (((nth qD.z y.f1 x8).f1).length) c24] fun u28 hb26 S a E=>pld (hK17 _ _ (sq fun K29 hK29=>sq fun K30 hK30=>?_))))
 have J54:∀ kq52,kq52≤k11→∀(G:NV)(y50:Bool)(a:Act)(w':World),Env 84 G a→At G [(2,.pointer (pb b2)),(3,.pointer (pb b4)),(5,iv x8),(6,.pointer (pb b26)),(10,.slice (some ad19) y.f1.length c1_1),(11,iv (y.f1.length:Int)),(12,iv x8),(50,.bool y50)]→Sm W F w' F [box b26 #[iv ((nth qD.z y.f1 x8).f0),.slice A23 (((nth qD.z y.f1 x8).f1).length) c24] 92,box b4 #[iv y.f0,.slice (some ad19) y.f1.length c1_1] 90,box b2 #[iv x.f0,iv x.f1,iv x.f2,iv x.f3,.slice A0_4 x.f4.length c0_4,.slice A0_5 x.f5.length c0_5,.slice A0_6 x.f6.length c0_6] 65]→qc.j51 kq52 x y x8 y50=some r→K30 a w':=by
  intro kq52 hkq G y50 a u55 E A S H
  obtain _ | k53:=kq52
  exact zz H
  rw [qc.j51_s]at H
  obtain ⟨J,E⟩:=E.at A
  refine hK30 _ _ (E.ib 50 H (fun c56 E H=>?_) fun c56 E H=>?_)
  refine rr E fun a E=>(wp_ret (qAH (qAI (qAH (qAH (qAI (qAH ?_)))))))
  replace S:=S.pm [] 3
  obtain rfl:=si H
  exact rt1 E ⟨_,rfl,_,rfl,S⟩
  refine wp_skip (hK29 _ _ (sq fun K58 hK58=>sq fun K59 hK59=>pl0 ?_))
  have hb26:=S.ba 0
  refine plc E (.r 0 1<|.b 1 1 hb26<|.r 2 2<|.nil) (fun a E=>pld (hK59 _ _ (wp_block ?_)))
  refine wp_loop_ghost (fun kq62 a w'=>∃(G:NV)(x60:Int),kq62≤k53∧Env 84 G a∧At G [(2,.pointer (pb b2)),(3,.pointer (pb b4)),(5,iv x8),(6,.pointer (pb b26)),(10,.slice (some ad19) y.f1.length c1_1),(11,iv (y.f1.length:Int)),(12,iv x8),(52,.slice A23 (((nth qD.z y.f1 x8).f1).length) c24),(53,iv (((nth qD.z y.f1 x8).f1).length:Int)),(54,iv x60)]∧Sm W F w' F [box b26 #[iv ((nth qD.z y.f1 x8).f0),.slice A23 (((nth qD.z y.f1 x8).f1).length) c24] 92,box b4 #[iv y.f0,.slice (some ad19) y.f1.length c1_1] 90,box b2 #[iv x.f0,iv x.f1,iv x.f2,iv x.f3,.slice A0_4 x.f4.length c0_4,.slice A0_5 x.f5.length c0_5,.slice A0_6 x.f6.length c0_6] 65]∧qc.l61 kq62 x y x8 x60=some r) k53 ⟨_,0,Nat.le_refl _,E,.of,S,H⟩ ?_
  rintro kq62 a u64 ⟨G,x60,hkq,E,A,S,H⟩
  obtain _ | k63:=kq62
  exact zz H
  rw [qc.l61_s]at H
  obtain ⟨J,E⟩:=E.at A
  refine rr E fun a E=>(sq fun K66 hK66=>E.ik 55 H (fun c67 E H=>?_) fun c67 E H=>?_)
  refine wp_skip (hK66 _ _ (sq fun K68 hK68=>wp_block (sq fun K69 hK69=>pl0 ?_)))
  obtain ⟨c70,H⟩:=gd H
  have hE_:=E
  obtain ⟨ad71,rfl⟩:=g25.addr c70.1 c70.2
  replace E:=hE_
  obtain ⟨cs73,rfl,hc74⟩:=g25.el 0 x60 c70.1 c70.2
  refine plc E (.r 0 1<|.x 1 c70<|.c 2 (S.fc hc74 0)<|.r 3 2<|.nil) (fun a E=>pld (hK69 _ _ (sq fun K75 hK75=>?_)))
  have J89:∀ kq87,kq87≤k63→∀(G:NV)(y85:Bool)(a:Act)(w':World),Env 84 G a→At G [(2,.pointer (pb b2)),(3,.pointer (pb b4)),(5,iv x8),(6,.pointer (pb b26)),(10,.slice (some ad19) y.f1.length c1_1),(11,iv (y.f1.length:Int)),(12,iv x8),(52,.slice (some ad71) (((nth qD.z y.f1 x8).f1).length) c24),(53,iv (((nth qD.z y.f1 x8).f1).length:Int)),(54,iv x60),(75,.bool y85)]→Sm W F w' F [box b26 #[iv ((nth qD.z y.f1 x8).f0),.slice (some ad71) (((nth qD.z y.f1 x8).f1).length) c24] 92,box b4 #[iv y.f0,.slice (some ad19) y.f1.length c1_1] 90,box b2 #[iv x.f0,iv x.f1,iv x.f2,iv x.f3,.slice A0_4 x.f4.length c0_4,.slice A0_5 x.f5.length c0_5,.slice A0_6 x.f6.length c0_6] 65]→qc.j86 kq87 x y x8 x60 y85=some r→K75 a w':=by
   intro kq87 hkq G y85 a u90 E A S H
   obtain _ | k88:=kq87
   exact zz H
   rw [qc.j86_s]at H
   obtain ⟨J,E⟩:=E.at A
   refine hK75 _ _ (E.ib 75 H (fun c91 E H=>?_) fun c91 E H=>?_)
   refine rr E fun a E=>(wp_ret (qAI (qAH (qAH (qAI (qAH (qAI (qAH (qAH (qAI (qAH ?_)))))))))))
   replace S:=S.pm [] 3
   obtain rfl:=si H
   exact rt1 E ⟨_,rfl,_,rfl,S⟩
   refine wp_skip ?_
   refine qAL ?_
   refine hK68 _ _ (pl0 (plc E (.r 0 2 .nil) (fun a E=>pld ?_)))
   exact qAM ⟨k88,by omega,_,(w64 (x60+1)),by omega,E,.of,S,H⟩
  refine pl0 (plc E (.r 0 1 .nil) (fun a E=>?_))
  obtain ⟨t77,h78,H⟩:=bd H
  refine plq E S en56 (qy.calls (nth 0 ((nth qD.z y.f1 x8).f1) x60) 1 999 _ _ _ S.own.sub h78) fun u76 S a E=>plc E (.r 2 2 .nil) (fun a E=>E.fbn 62 H (fun c79 E H=>?_) fun c79 E H=>?_)
  refine plc E (.r 4 3 .nil) (fun a E=>E.fk 65 H (fun c80 E H=>?_) fun c80 E H=>?_)
  have hb26:=S.ba 0
  obtain ⟨c81,H⟩:=gd H
  obtain ⟨cs83,rfl,hc84⟩:=g25.el 0 (w64 (x60 - 1)) c81.1 c81.2
  refine plc E (.r 7 2<|.b 9 1 hb26<|.r 10 2<|.x 12 c81<|.c 13 (S.fc hc84 0)<|.r 14 3<|.nil) (fun a E=>pld ?_)
  exact J89 _ (by omega) _ (decide ((nth 0 ((nth qD.z y.f1 x8).f1) x60)≤(nth 0 ((nth qD.z y.f1 x8).f1) (w64 (x60 - 1))))) _ _ E .of S H
  refine plc E (.r 7 10 .nil) (fun a E=>pld ?_)
  exact J89 _ (by omega) _ false _ _ E .of S H
  refine plc E (.r 4 13 .nil) (fun a E=>pld ?_)
  exact J89 _ (by omega) _ true _ _ E .of S H
  refine wp_exit ?_
  refine hK58 _ _ (sq fun K93 hK93=>pl0 ?_)
  have hb4:=S.ba 1
  obtain ⟨c94,H⟩:=gd H
  obtain ⟨A95,c96,g97,hv98⟩:=qBM (P:=Try.prog) g1_1 ⟨Int.le_refl _,c94.1,c94.2⟩ sz92
  refine plc E (.r 0 1<|.b 1 1 hb4<|.r 2 1<|.y 3 (hv98 (by kernel_rfl))<|.r 4 1<|.nil) (fun a E=>?_)
  obtain ⟨t100,h101,H⟩:=bd H
  refine plq E S en73 (qS.calls k63 (cutl y.f1 0 x8) (nth qD.z y.f1 x8) _ _ _ _ _ _ _ _ (Sub.refl _) (g97.mono S.own.sub) (g25.mono S.own.sub) (S.ba 0) h101) fun u99 S a E=>pld (hK93 _ _ (E.ib 82 H (fun c102 E H=>?_) fun c102 E H=>?_))
  refine rr E fun a E=>(wp_ret (qAI (qAH (qAH (qAI (qAH ?_))))))
  replace S:=S.pm [] 3
  obtain rfl:=si H
  exact rt1 E ⟨_,rfl,_,rfl,S⟩
  refine wp_skip ?_
  refine qAL ?_
  refine hK16 _ _ (pl0 (plc E (.r 0 2 .nil) (fun a E=>pld ?_)))
  replace S:=S.tail
  exact qAM ⟨k63,by omega,_,(w64 (x8+1)),by omega,E,.of,S,H⟩
 refine drawn 34 ⟨[],[],fun q=>False⟩ mixed rfl (by kernel_rfl) (fun hst=>?_)
 replace S:=S.drew
 have hb26:=S.ba 0
 have hb4:=S.ba 1
 refine mny 29 hst E (.r 0 1<|.b 1 0 hb26<|.r 2 1<|.b 3 0 hb4<|.r 4 1<|.nil) (fun a E=>?_)
 obtain ⟨t32,h33,H⟩:=bd H
 refine on1 5 E (.cl en56 (qy.calls ((nth qD.z y.f1 x8).f0) 0 (w64 (y.f0 - 1)) _ _ _ S.own.sub h33)) ?_
 rintro _ u31 a ⟨_,rfl,hC⟩ E
 refine ⟨.of hC.agr,?_⟩
 replace S:=S.lent hC
 refine mny 26 hst E (.r 6 2 .nil) (fun a E=>?_)
 refine E.fbn 24 H (fun c34 E H=>?_) fun c34 E H=>?_
 refine mny 23 hst E (.r 8 3 .nil) (fun a E=>?_)
 refine E.fk 27 H (fun c35 E H=>?_) fun c35 E H=>?_
 have hb26:=S.ba 0
 have hb4:=S.ba 1
 obtain ⟨c36,H⟩:=gd H
 obtain ⟨cs38,⟨A40,c41,rfl,g42⟩,hc39⟩:=g1_1.el qD.z (w64 (x8 - 1)) c36.1 c36.2
 refine mny 10 hst E (.r 11 1<|.b 12 0 hb26<|.r 13 1<|.b 14 1 hb4<|.r 15 2<|.x 17 c36<|.r 18 1<|.c 19 (S.fc hc39 0)<|.r 20 4<|.nil) (fun a E=>?_)
 refine E.fk 40 H (fun c43 E H=>?_) fun c43 E H=>?_
 refine mny 0 hst E (.r 24 10 .nil) (fun a E=>?_)
 refine dn ?_
 exact J54 _ (by omega) _ true _ _ E .of S H
 have hb2:=S.ba 2
 refine mny 3 hst E (.r 24 1<|.b 25 1 hb26<|.r 26 2<|.b 28 2 hb2<|.r 29 1<|.b 30 1 hb2<|.nil) (fun a E=>?_)
 obtain ⟨t45,h46,H⟩:=bd H
 refine on1 31 E (.cl en56 (qy.calls (((nth qD.z y.f1 x8).f1).length:Int) x.f2 x.f1 _ _ _ S.own.sub h46)) ?_
 rintro _ u44 a ⟨_,rfl,hC⟩ E
 refine ⟨.of hC.agr,?_⟩
 replace S:=S.lent hC
 refine mny 0 hst E (.r 32 2 .nil) (fun a E=>?_)
 refine dn ?_
 exact J54 _ (by omega) _ (!t45) _ _ E .of S H
 have hb26:=S.ba 0
 have hb2:=S.ba 2
 refine mny 3 hst E (.r 11 14<|.b 25 1 hb26<|.r 26 2<|.b 28 2 hb2<|.r 29 1<|.b 30 1 hb2<|.nil) (fun a E=>?_)
 obtain ⟨t48,h49,H⟩:=bd H
 refine on1 31 E (.cl en56 (qy.calls (((nth qD.z y.f1 x8).f1).length:Int) x.f2 x.f1 _ _ _ S.own.sub h49)) ?_
 rintro _ u47 a ⟨_,rfl,hC⟩ E
 refine ⟨.of hC.agr,?_⟩
 replace S:=S.lent hC
 refine mny 0 hst E (.r 32 2 .nil) (fun a E=>?_)
 refine dn ?_
 exact J54 _ (by omega) _ (!t48) _ _ E .of S H
 refine mny 0 hst E (.r 8 26 .nil) (fun a E=>?_)
 refine dn ?_
 exact J54 _ (by omega) _ true _ _ E .of S H
 refine wp_exit ?_
 refine hK6 _ _ (rr E fun a E=>(wp_ret ?_))
 replace S:=S.pm [] 2
 obtain rfl:=si H
 exact rt1 E ⟨_,rfl,_,rfl,S⟩
mutual
def qk.l11:Nat→qK→Int→Option Int
 | 0,_,_=>none
 | k+1,x,x10=>if x10<(x.f6.length:Int) then (if 0≤x10∧x10<(x.f6.length:Int) then ((qy.f ((nth qC.z x.f6 x10).f0) 0 x.f0).bind fun t33=>(if t33=true then ((qc.f k x (nth qC.z x.f6 x10)).bind fun t37=>(qk.j40 k x x10 (!t37))) else (qk.j40 k x x10 true))) else (none)) else (some 0)
def qk.j40:Nat→qK→Int→Bool→Option Int
 | 0,_,_,_=>none
 | k+1,x,x10,y39=>if y39=true then (some 1) else (qk.l11 k x (w64 (x10+1)))
end
theorem qk.l11_s k x x10:type_of% (qk.l11.eq_2 x x10 k):=qk.l11.eq_2 x x10 k
theorem qk.j40_s k x x10 y39:type_of% (qk.j40.eq_2 x x10 y39 k):=qk.j40.eq_2 x x10 y39 k
def qk.f(k:Nat)(x:qK):Option Int:=if (x.f6.length:Int)=x.f3 then (qk.l11 k x 0) else (some 1)
def qk.Post(W F:World)(r:Int)(v:Value)(w':World):Prop:=∃(F':World),v=iv r∧Sm W F w' F' []
theorem qk.calls(k:Nat)(x:qK)(A0_4:OA)(c0_4:Nat)(A0_5:OA)(c0_5:Nat)(A0_6:OA)(c0_6:Nat)(r:Int)(W F:World)(hown:Sub F W)(g0_4:Rd qA.k F A0_4 c0_4 x.f4)(g0_5:Rd qI.k F A0_5 c0_5 x.f5)(g0_6:Rd qC.k F A0_6 c0_6 x.f6)(H:qk.f k x=some r):
    Cr 59 #[.agg #[iv x.f0,iv x.f1,iv x.f2,iv x.f3,.slice A0_4 x.f4.length c0_4,.slice A0_5 x.f5.length c0_5,.slice A0_6 x.f6.length c0_6]] W (qk.Post W F r):=by
 have S:=sT hown
 unfold qk.f at H
 refine ent 31 rfl rfl rfl (fun a E=>?_)
 refine sq fun K1 hK1=>pl0 (plx (t:=65) E S [iv x.f0,iv x.f1,iv x.f2,iv x.f3,.slice A0_4 x.f4.length c0_4,.slice A0_5 x.f5.length c0_5,.slice A0_6 x.f6.length c0_6] fun b2 u3 hb2 S a E=>plc E (.r 1 1 .nil) (fun a E=>pld (hK1 _ _ (sq fun K4 hK4=>rg E (.r 0 1<|.b 1 6 hb2<|.r 2 2<|.b 4 3 hb2<|.r 5 1<|.nil) fun a E=>(E.ikn 10 H (fun c6 E H=>?_) fun c6 E H=>?_)))))
 refine wp_skip (hK4 _ _ (sq fun K8 hK8=>rg E (.r 0 1<|.b 1 6 hb2<|.r 2 2<|.nil) fun a E=>(wp_block ?_)))
 refine wp_loop_ghost (fun kq12 a w'=>∃(G:NV)(x10:Int),kq12≤k∧Env 31 G a∧At G [(1,.pointer (pb b2)),(12,.slice A0_6 x.f6.length c0_6),(13,iv (x.f6.length:Int)),(14,iv x10)]∧Sm W F w' F [box b2 #[iv x.f0,iv x.f1,iv x.f2,iv x.f3,.slice A0_4 x.f4.length c0_4,.slice A0_5 x.f5.length c0_5,.slice A0_6 x.f6.length c0_6] 65]∧qk.l11 kq12 x x10=some r) k ⟨_,0,Nat.le_refl _,E,.of,S,H⟩ ?_
 rintro kq12 a u14 ⟨G,x10,hkq,E,A,S,H⟩
 obtain _ | k13:=kq12
 exact zz H
 rw [qk.l11_s]at H
 obtain ⟨J,E⟩:=E.at A
 refine rr E fun a E=>(sq fun K16 hK16=>E.ik 15 H (fun c17 E H=>?_) fun c17 E H=>?_)
 refine wp_skip (hK16 _ _ (sq fun K18 hK18=>wp_block (sq fun K19 hK19=>pl0 ?_)))
 obtain ⟨c20,H⟩:=gd H
 have hE_:=E
 obtain ⟨ad21,rfl⟩:=g0_6.addr c20.1 c20.2
 replace E:=hE_
 obtain ⟨cs23,⟨A25,c26,rfl,g27⟩,hc24⟩:=g0_6.el qC.z x10 c20.1 c20.2
 refine plc E (.x 0 c20<|.cs 1 (S.fcs hc24)<|.nil) (fun a E=>pla (t:=90) E S [iv 0,.slice none 0 0] fun b28 u29 hb28 S a E=>pls E S [iv ((nth qC.z x.f6 x10).f0),.slice A25 (((nth qC.z x.f6 x10).f1).length) c26] fun u30 hb28 S a E=>pld (hK19 _ _ (sq fun K31 hK31=>?_)))
 have J43:∀ kq41,kq41≤k13→∀(G:NV)(y39:Bool)(a:Act)(w':World),Env 31 G a→At G [(1,.pointer (pb b2)),(12,.slice (some ad21) x.f6.length c0_6),(13,iv (x.f6.length:Int)),(14,iv x10),(29,.bool y39)]→Sm W F w' F [box b28 #[iv ((nth qC.z x.f6 x10).f0),.slice A25 (((nth qC.z x.f6 x10).f1).length) c26] 90,box b2 #[iv x.f0,iv x.f1,iv x.f2,iv x.f3,.slice A0_4 x.f4.length c0_4,.slice A0_5 x.f5.length c0_5,.slice (some ad21) x.f6.length c0_6] 65]→qk.j40 kq41 x x10 y39=some r→K31 a w':=by
  intro kq41 hkq G y39 a u44 E A S H
  obtain _ | k42:=kq41
  exact zz H
  rw [qk.j40_s]at H
  obtain ⟨J,E⟩:=E.at A
  refine hK31 _ _ (E.ib 29 H (fun c45 E H=>?_) fun c45 E H=>?_)
  refine rr E fun a E=>(wp_ret (qAI (qAH (qAH (qAI (qAH ?_))))))
  replace S:=S.pm [] 2
  obtain rfl:=si H
  exact rt1 E ⟨_,rfl,_,rfl,S⟩
  refine wp_skip ?_
  refine qAL ?_
  refine hK18 _ _ (pl0 (plc E (.r 0 2 .nil) (fun a E=>pld ?_)))
  replace S:=S.tail
  exact qAM ⟨k42,by omega,_,(w64 (x10+1)),by omega,E,.of,S,H⟩
 refine pl0 ?_
 have hb2:=S.ba 1
 refine plc E (.r 0 1<|.b 1 0 hb28<|.r 2 1<|.b 3 0 hb2<|.nil) (fun a E=>?_)
 obtain ⟨t33,h34,H⟩:=bd H
 refine plq E S en56 (qy.calls ((nth qC.z x.f6 x10).f0) 0 x.f0 _ _ _ S.own.sub h34) fun u32 S a E=>plc E (.r 5 2 .nil) (fun a E=>E.fbn 24 H (fun c35 E H=>?_) fun c35 E H=>?_)
 refine plc E (.bn 7 0 7 (S.ba 1)<|.bn 8 0 2 (S.ba 0)<|.nil) (fun a E=>?_)
 obtain ⟨t37,h38,H⟩:=bd H
 refine plq E S en69 (qc.calls k13 x (nth qC.z x.f6 x10) _ _ _ _ _ _ _ _ _ _ _ S.own.sub g0_4 g0_5 g0_6 g27 h38) fun u36 S a E=>plc E (.r 10 2 .nil) (fun a E=>pld ?_)
 exact J43 _ (by omega) _ (!t37) _ _ E .of S H
 refine plc E (.r 7 5 .nil) (fun a E=>pld ?_)
 exact J43 _ (by omega) _ true _ _ E .of S H
 refine wp_exit ?_
 refine hK8 _ _ (rr E fun a E=>(wp_ret ?_))
 replace S:=S.tail
 obtain rfl:=si H
 exact rt1 E ⟨_,rfl,_,rfl,S⟩
 refine rr E fun a E=>(wp_ret (qAH ?_))
 replace S:=S.tail
 obtain rfl:=si H
 exact rt1 E ⟨_,rfl,_,rfl,S⟩
mutual
def qY.j26:Nat→qK→Bool→Option Int
 | 0,_,_=>none
 | k+1,x,y25=>if y25=true then (some 1) else (qY.l36 k x 0)
def qY.l36:Nat→qK→Int→Option Int
 | 0,_,_=>none
 | k+1,x,x35=>if x35<(x.f5.length:Int) then (if 0≤x35∧x35<(x.f5.length:Int) then ((qy.f ((nth qI.z x.f5 x35).f0) 0 (w64 (x.f3 - 1))).bind fun t58=>(if t58=true then (if x35>0 then (if 0≤(w64 (x35 - 1))∧(w64 (x35 - 1))<(x.f5.length:Int) then (if (nth qI.z x.f5 x35).f0≤(nth qI.z x.f5 (w64 (x35 - 1))).f0 then (qY.j85 k x x35 true) else ((qy.f (((nth qI.z x.f5 x35).f1).length:Int) 1 x.f1).bind fun t71=>(if t71=true then ((qd.f k x.f4 ((nth qI.z x.f5 x35).f1)).bind fun t75=>(qY.j85 k x x35 (!t75))) else (qY.j85 k x x35 true)))) else (none)) else ((qy.f (((nth qI.z x.f5 x35).f1).length:Int) 1 x.f1).bind fun t78=>(if t78=true then ((qd.f k x.f4 ((nth qI.z x.f5 x35).f1)).bind fun t82=>(qY.j85 k x x35 (!t82))) else (qY.j85 k x x35 true)))) else (qY.j85 k x x35 true))) else (none)) else ((qk.f k x).bind fun t94=>(some t94))
def qY.j85:Nat→qK→Int→Bool→Option Int
 | 0,_,_,_=>none
 | k+1,x,x35,y84=>if y84=true then (some 1) else (qY.l36 k x (w64 (x35+1)))
end
theorem qY.j26_s k x y25:type_of% (qY.j26.eq_2 x y25 k):=qY.j26.eq_2 x y25 k
theorem qY.l36_s k x x35:type_of% (qY.l36.eq_2 x x35 k):=qY.l36.eq_2 x x35 k
theorem qY.j85_s k x x35 y84:type_of% (qY.j85.eq_2 x x35 y84 k):=qY.j85.eq_2 x x35 y84 k
def qY.f(k:Nat)(x:qK):Option Int:=(qy.f x.f0 0 2147483647).bind fun t7=>(if t7=true then ((qy.f x.f1 1 3).bind fun t11=>(if t11=true then ((qy.f x.f2 1 x.f1).bind fun t15=>(if t15=true then ((qy.f x.f3 1 8).bind fun t19=>(if t19=true then ((qi.f k x.f4).bind fun t23=>(qY.j26 k x (!(t23 == 0)))) else (qY.j26 k x true))) else (qY.j26 k x true))) else (qY.j26 k x true))) else (qY.j26 k x true))
def qY.Post(W F:World)(r:Int)(v:Value)(w':World):Prop:=∃(F':World),v=iv r∧Sm W F w' F' []
theorem qY.calls(k:Nat)(x:qK)(A0_4:OA)(c0_4:Nat)(A0_5:OA)(c0_5:Nat)(A0_6:OA)(c0_6:Nat)(r:Int)(W F:World)(hown:Sub F W)(g0_4:Rd qA.k F A0_4 c0_4 x.f4)(g0_5:Rd qI.k F A0_5 c0_5 x.f5)(g0_6:Rd qC.k F A0_6 c0_6 x.f6)(H:qY.f k x=some r):
    Cr 33 #[.agg #[iv x.f0,iv x.f1,iv x.f2,iv x.f3,.slice A0_4 x.f4.length c0_4,.slice A0_5 x.f5.length c0_5,.slice A0_6 x.f6.length c0_6]] W (qY.Post W F r):=by
 have S:=sT hown
 unfold qY.f at H
 refine ent 86 rfl rfl rfl (fun a E=>?_)
 refine sq fun K1 hK1=>pl0 (plx (t:=65) E S [iv x.f0,iv x.f1,iv x.f2,iv x.f3,.slice A0_4 x.f4.length c0_4,.slice A0_5 x.f5.length c0_5,.slice A0_6 x.f6.length c0_6] fun b2 u3 hb2 S a E=>plc E (.r 1 1 .nil) (fun a E=>pld (hK1 _ _ (sq fun K4 hK4=>sq fun K5 hK5=>?_))))
 have J29:∀ kq27,kq27≤k→∀(G:NV)(y25:Bool)(a:Act)(w':World),Env 86 G a→At G [(1,.pointer (pb b2)),(34,.bool y25)]→Sm W F w' F [box b2 #[iv x.f0,iv x.f1,iv x.f2,iv x.f3,.slice A0_4 x.f4.length c0_4,.slice A0_5 x.f5.length c0_5,.slice A0_6 x.f6.length c0_6] 65]→qY.j26 kq27 x y25=some r→K5 a w':=by
  intro kq27 hkq G y25 a u30 E A S H
  obtain _ | k28:=kq27
  exact zz H
  rw [qY.j26_s]at H
  obtain ⟨J,E⟩:=E.at A
  refine hK5 _ _ (E.ib 34 H (fun c31 E H=>?_) fun c31 E H=>?_)
  refine rr E fun a E=>(wp_ret (qAH ?_))
  replace S:=S.tail
  obtain rfl:=si H
  exact rt1 E ⟨_,rfl,_,rfl,S⟩
  refine wp_skip (hK4 _ _ (sq fun K33 hK33=>sq fun K34 hK34=>pl0 ?_))
  have hb2:=S.ba 0
  refine plc E (.r 0 1<|.b 1 5 hb2<|.r 2 2<|.nil) (fun a E=>pld (hK34 _ _ (wp_block ?_)))
  refine wp_loop_ghost (fun kq37 a w'=>∃(G:NV)(x35:Int),kq37≤k28∧Env 86 G a∧At G [(1,.pointer (pb b2)),(36,.slice A0_5 x.f5.length c0_5),(37,iv (x.f5.length:Int)),(38,iv x35)]∧Sm W F w' F [box b2 #[iv x.f0,iv x.f1,iv x.f2,iv x.f3,.slice A0_4 x.f4.length c0_4,.slice A0_5 x.f5.length c0_5,.slice A0_6 x.f6.length c0_6] 65]∧qY.l36 kq37 x x35=some r) k28 ⟨_,0,Nat.le_refl _,E,.of,S,H⟩ ?_
  rintro kq37 a u39 ⟨G,x35,hkq,E,A,S,H⟩
  obtain _ | k38:=kq37
  exact zz H
  rw [qY.l36_s]at H
  obtain ⟨J,E⟩:=E.at A
  refine rr E fun a E=>(sq fun K41 hK41=>E.ik 39 H (fun c42 E H=>?_) fun c42 E H=>?_)
  refine wp_skip (hK41 _ _ (sq fun K43 hK43=>wp_block (sq fun K44 hK44=>pl0 ?_)))
  obtain ⟨c45,H⟩:=gd H
  have hE_:=E
  obtain ⟨ad46,rfl⟩:=g0_5.addr c45.1 c45.2
  replace E:=hE_
  obtain ⟨cs48,⟨A50,c51,rfl,g52⟩,hc49⟩:=g0_5.el qI.z x35 c45.1 c45.2
  refine plc E (.r 0 1<|.x 1 c45<|.cs 2 (S.fcs hc49)<|.nil) (fun a E=>pla (t:=87) E S [iv 0,.slice none 0 0] fun b53 u54 hb53 S a E=>plc E (.r 4 1 .nil) (fun a E=>pls E S [iv ((nth qI.z x.f5 x35).f0),.slice A50 (((nth qI.z x.f5 x35).f1).length) c51] fun u55 hb53 S a E=>pld (hK44 _ _ (sq fun K56 hK56=>?_))))
  have J88:∀ kq86,kq86≤k38→∀(G:NV)(y84:Bool)(a:Act)(w':World),Env 86 G a→At G [(1,.pointer (pb b2)),(36,.slice (some ad46) x.f5.length c0_5),(37,iv (x.f5.length:Int)),(38,iv x35),(82,.bool y84)]→Sm W F w' F [box b53 #[iv ((nth qI.z x.f5 x35).f0),.slice A50 (((nth qI.z x.f5 x35).f1).length) c51] 87,box b2 #[iv x.f0,iv x.f1,iv x.f2,iv x.f3,.slice A0_4 x.f4.length c0_4,.slice (some ad46) x.f5.length c0_5,.slice A0_6 x.f6.length c0_6] 65]→qY.j85 kq86 x x35 y84=some r→K56 a w':=by
   intro kq86 hkq G y84 a u89 E A S H
   obtain _ | k87:=kq86
   exact zz H
   rw [qY.j85_s]at H
   obtain ⟨J,E⟩:=E.at A
   refine hK56 _ _ (E.ib 82 H (fun c90 E H=>?_) fun c90 E H=>?_)
   refine rr E fun a E=>(wp_ret (qAI (qAH (qAH (qAI (qAH ?_))))))
   replace S:=S.pm [] 2
   obtain rfl:=si H
   exact rt1 E ⟨_,rfl,_,rfl,S⟩
   refine wp_skip ?_
   refine qAL ?_
   refine hK43 _ _ (pl0 (plc E (.r 0 2 .nil) (fun a E=>pld ?_)))
   replace S:=S.tail
   exact qAM ⟨k87,by omega,_,(w64 (x35+1)),by omega,E,.of,S,H⟩
  refine drawn 40 ⟨[],[],fun q=>False⟩ mixed rfl (by kernel_rfl) (fun hst=>?_)
  replace S:=S.drew
  have hb53:=S.ba 0
  have hb2:=S.ba 1
  refine mny 35 hst E (.r 0 1<|.b 1 0 hb53<|.r 2 1<|.b 3 3 hb2<|.r 4 1<|.nil) (fun a E=>?_)
  obtain ⟨t58,h59,H⟩:=bd H
  refine on1 5 E (.cl en56 (qy.calls ((nth qI.z x.f5 x35).f0) 0 (w64 (x.f3 - 1)) _ _ _ S.own.sub h59)) ?_
  rintro _ u57 a ⟨_,rfl,hC⟩ E
  refine ⟨.of hC.agr,?_⟩
  replace S:=S.lent hC
  refine mny 32 hst E (.r 6 2 .nil) (fun a E=>?_)
  refine E.fbn 50 H (fun c60 E H=>?_) fun c60 E H=>?_
  refine mny 29 hst E (.r 8 3 .nil) (fun a E=>?_)
  refine E.fk 53 H (fun c61 E H=>?_) fun c61 E H=>?_
  have hb53:=S.ba 0
  have hb2:=S.ba 1
  obtain ⟨c62,H⟩:=gd H
  obtain ⟨cs64,⟨A66,c67,rfl,g68⟩,hc65⟩:=g0_5.el qI.z (w64 (x35 - 1)) c62.1 c62.2
  refine mny 16 hst E (.r 11 1<|.b 12 0 hb53<|.r 13 1<|.b 14 5 hb2<|.r 15 2<|.x 17 c62<|.r 18 1<|.c 19 (S.fc hc65 0)<|.r 20 4<|.nil) (fun a E=>?_)
  refine E.fk 66 H (fun c69 E H=>?_) fun c69 E H=>?_
  refine mny 0 hst E (.r 24 16 .nil) (fun a E=>?_)
  refine dn ?_
  exact J88 _ (by omega) _ true _ _ E .of S H
  refine mny 11 hst E (.r 24 1<|.b 25 1 hb53<|.r 26 2<|.b 28 1 hb2<|.nil) (fun a E=>?_)
  obtain ⟨t71,h72,H⟩:=bd H
  refine on1 29 E (.cl en56 (qy.calls (((nth qI.z x.f5 x35).f1).length:Int) 1 x.f1 _ _ _ S.own.sub h72)) ?_
  rintro _ u70 a ⟨_,rfl,hC⟩ E
  refine ⟨.of hC.agr,?_⟩
  replace S:=S.lent hC
  refine mny 7 hst E (.r 30 3 .nil) (fun a E=>?_)
  refine E.fbn 75 H (fun c73 E H=>?_) fun c73 E H=>?_
  have hb2:=S.ba 1
  have hb53:=S.ba 0
  refine mny 3 hst E (.r 33 1<|.b 34 4 hb2<|.r 35 1<|.b 36 1 hb53<|.nil) (fun a E=>?_)
  obtain ⟨t75,h76,H⟩:=bd H
  refine on1 37 E (.cl en58 (qd.calls k38 x.f4 ((nth qI.z x.f5 x35).f1) _ _ _ _ _ _ _ S.own.sub g0_4 g52 h76)) ?_
  rintro _ u74 a ⟨_,rfl,hC⟩ E
  refine ⟨.of hC.agr,?_⟩
  replace S:=S.lent hC
  refine mny 0 hst E (.r 38 2 .nil) (fun a E=>?_)
  refine dn ?_
  exact J88 _ (by omega) _ (!t75) _ _ E .of S H
  refine mny 0 hst E (.r 33 7 .nil) (fun a E=>?_)
  refine dn ?_
  exact J88 _ (by omega) _ true _ _ E .of S H
  have hb53:=S.ba 0
  have hb2:=S.ba 1
  refine mny 11 hst E (.r 11 14<|.b 25 1 hb53<|.r 26 2<|.b 28 1 hb2<|.nil) (fun a E=>?_)
  obtain ⟨t78,h79,H⟩:=bd H
  refine on1 29 E (.cl en56 (qy.calls (((nth qI.z x.f5 x35).f1).length:Int) 1 x.f1 _ _ _ S.own.sub h79)) ?_
  rintro _ u77 a ⟨_,rfl,hC⟩ E
  refine ⟨.of hC.agr,?_⟩
  replace S:=S.lent hC
  refine mny 7 hst E (.r 30 3 .nil) (fun a E=>?_)
  refine E.fbn 75 H (fun c80 E H=>?_) fun c80 E H=>?_
  have hb2:=S.ba 1
  have hb53:=S.ba 0
  refine mny 3 hst E (.r 33 1<|.b 34 4 hb2<|.r 35 1<|.b 36 1 hb53<|.nil) (fun a E=>?_)
  obtain ⟨t82,h83,H⟩:=bd H
  refine on1 37 E (.cl en58 (qd.calls k38 x.f4 ((nth qI.z x.f5 x35).f1) _ _ _ _ _ _ _ S.own.sub g0_4 g52 h83)) ?_
  rintro _ u81 a ⟨_,rfl,hC⟩ E
  refine ⟨.of hC.agr,?_⟩
  replace S:=S.lent hC
  refine mny 0 hst E (.r 38 2 .nil) (fun a E=>?_)
  refine dn ?_
  exact J88 _ (by omega) _ (!t82) _ _ E .of S H
  refine mny 0 hst E (.r 33 7 .nil) (fun a E=>?_)
  refine dn ?_
  exact J88 _ (by omega) _ true _ _ E .of S H
  refine mny 0 hst E (.r 8 32 .nil) (fun a E=>?_)
  refine dn ?_
  exact J88 _ (by omega) _ true _ _ E .of S H
  refine wp_exit ?_
  refine hK33 _ _ (sq fun K92 hK92=>pl0 (plc E (.bn 0 0 7 (S.ba 0) .nil) (fun a E=>?_)))
  obtain ⟨t94,h95,H⟩:=bd H
  refine plq E S en59 (qk.calls k38 x _ _ _ _ _ _ _ _ _ S.own.sub g0_4 g0_5 g0_6 h95) fun u93 S a E=>plc E (.r 2 1 .nil) (fun a E=>pld (hK92 _ _ (wp_ret ?_)))
  replace S:=S.tail
  obtain rfl:=si H
  exact rt1 E ⟨_,rfl,_,rfl,S⟩
 refine pl0 (plc E (.r 0 1<|.b 1 0 hb2<|.nil) (fun a E=>?_))
 obtain ⟨t7,h8,H⟩:=bd H
 refine plq E S en56 (qy.calls x.f0 0 2147483647 _ _ _ S.own.sub h8) fun u6 S a E=>plc E (.r 3 2 .nil) (fun a E=>E.fbn 9 H (fun c9 E H=>?_) fun c9 E H=>?_)
 have hb2:=S.ba 0
 refine plc E (.r 5 1<|.b 6 1 hb2<|.nil) (fun a E=>?_)
 obtain ⟨t11,h12,H⟩:=bd H
 refine plq E S en56 (qy.calls x.f1 1 3 _ _ _ S.own.sub h12) fun u10 S a E=>plc E (.r 8 3 .nil) (fun a E=>E.fbn 15 H (fun c13 E H=>?_) fun c13 E H=>?_)
 have hb2:=S.ba 0
 refine plc E (.r 11 1<|.b 12 2 hb2<|.r 13 1<|.b 14 1 hb2<|.nil) (fun a E=>?_)
 obtain ⟨t15,h16,H⟩:=bd H
 refine plq E S en56 (qy.calls x.f2 1 x.f1 _ _ _ S.own.sub h16) fun u14 S a E=>plc E (.r 16 3 .nil) (fun a E=>E.fbn 23 H (fun c17 E H=>?_) fun c17 E H=>?_)
 have hb2:=S.ba 0
 refine plc E (.r 19 1<|.b 20 3 hb2<|.nil) (fun a E=>?_)
 obtain ⟨t19,h20,H⟩:=bd H
 refine plq E S en56 (qy.calls x.f3 1 8 _ _ _ S.own.sub h20) fun u18 S a E=>plc E (.r 22 3 .nil) (fun a E=>E.fbn 29 H (fun c21 E H=>?_) fun c21 E H=>?_)
 refine plc E (.r 25 1<|.b 26 4 (S.ba 0)<|.nil) (fun a E=>?_)
 obtain ⟨t23,h24,H⟩:=bd H
 refine plq E S en57 (qi.calls k x.f4 _ _ _ _ _ S.own.sub g0_4 h24) fun u22 S a E=>plc E (.r 28 2 .nil) (fun a E=>pld ?_)
 exact J29 _ (by omega) _ (!(t23 == 0)) _ _ E .of S H
 refine plc E (.r 25 5 .nil) (fun a E=>pld ?_)
 exact J29 _ (by omega) _ true _ _ E .of S H
 refine plc E (.r 19 11 .nil) (fun a E=>pld ?_)
 exact J29 _ (by omega) _ true _ _ E .of S H
 refine plc E (.r 11 19 .nil) (fun a E=>pld ?_)
 exact J29 _ (by omega) _ true _ _ E .of S H
 refine plc E (.r 5 25 .nil) (fun a E=>pld ?_)
 exact J29 _ (by omega) _ true _ _ E .of S H
def qAD.f(x:Bool):Option Int:=if x=true then (some 1) else (some 0)
def qAD.Post(W F:World)(r:Int)(v:Value)(w':World):Prop:=∃(F':World),v=iv r∧Sm W F w' F' []
theorem qAD.calls(x:Bool)(r:Int)(W F:World)(hown:Sub F W)(H:qAD.f x=some r):
    Cr 34 #[.bool x] W (qAD.Post W F r):=by
 have S:=sT hown
 unfold qAD.f at H
 refine ent 4 rfl rfl rfl (fun a E=>?_)
 refine rr E fun a E=>(sq fun K2 hK2=>rr E fun a E=>(E.ib 3 H (fun c4 E H=>?_) fun c4 E H=>?_))
 refine rr E fun a E=>(wp_ret (qAH ?_))
 obtain rfl:=si H
 exact rt1 E ⟨_,rfl,_,rfl,S⟩
 refine wp_skip (hK2 _ _ (rr E fun a E=>(wp_ret ?_)))
 obtain rfl:=si H
 exact rt1 E ⟨_,rfl,_,rfl,S⟩
def frame_count.l9:Nat→Int→List Int→Option (List Int)
 | 0,_,_=>none
 | k+1,x5,l8=>if x5>127 then (if ((l8.length:Int)+((1:Nat):Int)) * 1≤140737488355328 then (frame_count.l9 k (x5.fdiv 128) (l8++[(IntKind.u8.wrap (((BitVec.ofInt 8 (IntKind.u8.wrap x5) ||| BitVec.ofInt 8 (128:Int)).toNat:Int)))])) else (none)) else (if ((l8.length:Int)+((1:Nat):Int)) * 1≤140737488355328 then (some (l8++[(IntKind.u8.wrap x5)])) else (none))
theorem frame_count.l9_s k x5 l8:type_of% (frame_count.l9.eq_2 x5 l8 k):=frame_count.l9.eq_2 x5 l8 k
def frame_count.f(k:Nat)(x:Int):Option (List Int):=frame_count.l9 k x []
def frame_count.Post(W F:World)(r:List Int)(v:Value)(w':World):Prop:=∃(F':World)(RA0_0:OA)(rc0_0:Nat),v = .slice RA0_0 r.length rc0_0∧Sm W F w' F' [row (Kn.int .u8) 5 (.slice RA0_0 r.length rc0_0) r]
theorem frame_count.calls(k:Nat)(x:Int)(r:List Int)(W F:World)(hown:Sub F W)(H:frame_count.f k x=some r):
    Cr 70 #[.int .u64 x] W (frame_count.Post W F r):=by
 have S:=sT hown
 unfold frame_count.f at H
 refine ent 19 rfl rfl rfl (fun a E=>?_)
 refine rr E fun a E=>(rr E fun a E=>(sq fun K3 hK3=>wp_block ?_))
 replace S:=S.nilrow (Kn.int .u8) 5
 refine wp_loop_ghost (fun kq10 a w'=>∃(G:NV)(x5:Int)(A6:OA)(c7:Nat)(l8:List Int),kq10≤k∧Env 19 G a∧At G [(0,.int .u64 x5),(3,.slice A6 l8.length c7)]∧Sm W F w' F [row (Kn.int .u8) 5 (.slice A6 l8.length c7) l8]∧frame_count.l9 kq10 x5 l8=some r) k ⟨_,x,none,0,[],Nat.le_refl _,E,.of,S,H⟩ ?_
 rintro kq10 a u12 ⟨G,x5,A6,c7,l8,hkq,E,A,S,H⟩
 obtain _ | k11:=kq10
 exact zz H
 rw [frame_count.l9_s]at H
 obtain ⟨J,E⟩:=E.at A
 refine sq fun K13 hK13=>rr E fun a E=>(E.ik 5 H (fun c15 E H=>?_) fun c15 E H=>?_)
 refine wp_skip (hK13 _ _ (sq fun K16 hK16=>wp_block (pl0 (plc E (.r 0 4 .nil) (fun a E=>ple E (.lit (d:=(Kn.int .u8)) (e:=5) S [(IntKind.u8.wrap (((BitVec.ofInt 8 (IntKind.u8.wrap x5) ||| BitVec.ofInt 8 (128:Int)).toNat:Int)))] (.cons rfl .nil)) ?_)))))
 rintro _ u17 a ⟨A18,c19,rfl,S,hg⟩ E
 obtain ⟨c21,H⟩:=gd H
 replace S:=S.front 1 rfl
 refine ple E (.ap (d:=(Kn.int .u8)) 1 S (qAN (S.row_at (i:=1) rfl)) c21 c19) ?_
 rintro _ u24 a ⟨A22,c23,rfl,S,hz⟩ E
 refine plc E (.r 6 1 .nil) (fun a E=>pld ?_)
 refine qAL ?_
 refine hK16 _ _ (pl0 (plc E (.r 0 3 .nil) (fun a E=>pld ?_)))
 replace S:=S.pm [0] 2
 exact qAM ⟨k11,by omega,_,(x5.fdiv 128),A22,c23,(l8++[(IntKind.u8.wrap (((BitVec.ofInt 8 (IntKind.u8.wrap x5) ||| BitVec.ofInt 8 (128:Int)).toNat:Int)))]),by omega,E,.of,S,H⟩
 refine wp_exit ?_
 refine hK3 _ _ (sq fun K26 hK26=>pl0 (plc E (.r 0 3 .nil) (fun a E=>ple E (.lit (d:=(Kn.int .u8)) (e:=5) S [(IntKind.u8.wrap x5)] (.cons rfl .nil)) ?_)))
 rintro _ u27 a ⟨A28,c29,rfl,S,hg⟩ E
 obtain ⟨c31,H⟩:=gd H
 replace S:=S.front 1 rfl
 refine ple E (.ap (d:=(Kn.int .u8)) 1 S (qAN (S.row_at (i:=1) rfl)) c31 c29) ?_
 rintro _ u34 a ⟨A32,c33,rfl,S,hz⟩ E
 refine plc E (.r 5 1 .nil) (fun a E=>pld (hK26 _ _ (wp_ret ?_)))
 replace S:=S.pm [0] 2
 obtain rfl:=si H
 exact rt1 E ⟨_,rfl,_,_,_,rfl,S⟩
def frame_Count.f(k:Nat)(x:Int):Option (List Int):=if x<0 then (some []) else ((frame_count.f k (IntKind.u64.wrap x)).bind fun t9=>(some t9))
def frame_Count.Post(W F:World)(r:List Int)(v:Value)(w':World):Prop:=∃(F':World)(RA0_0:OA)(rc0_0:Nat),v = .slice RA0_0 r.length rc0_0∧Sm W F w' F' [row (Kn.int .u8) 5 (.slice RA0_0 r.length rc0_0) r]
theorem frame_Count.calls(k:Nat)(x:Int)(r:List Int)(W F:World)(hown:Sub F W)(H:frame_Count.f k x=some r):
    Cr 60 #[iv x] W (frame_Count.Post W F r):=by
 have S:=sT hown
 unfold frame_Count.f at H
 refine ent 8 rfl rfl rfl (fun a E=>?_)
 refine rr E fun a E=>(sq fun K2 hK2=>rr E fun a E=>(E.ik 4 H (fun c4 E H=>?_) fun c4 E H=>?_))
 refine rr E fun a E=>(wp_ret (qAH ?_))
 replace S:=S.nilrow (Kn.int .u8) 5
 obtain rfl:=si H
 exact rt1 E ⟨_,rfl,_,_,_,rfl,S⟩
 refine wp_skip (hK2 _ _ (sq fun K7 hK7=>pl0 (plc E (.r 0 2 .nil) (fun a E=>?_))))
 obtain ⟨t9,h10,H⟩:=bd H
 refine ple E (.cl en70 (frame_count.calls k (IntKind.u64.wrap x) _ _ _ S.own.sub h10)) ?_
 rintro _ u8 a ⟨F11,A12,c13,rfl,hC⟩ E
 have hs:=hC.sub
 replace S:=S.called (X:=[]) hC
 refine plc E (.r 3 1 .nil) (fun a E=>pld (hK7 _ _ (wp_ret ?_)))
 obtain rfl:=si H
 exact rt1 E ⟨_,rfl,_,_,_,rfl,S⟩
def frame_Number.f(k:Nat)(x:Int):Option (List Int):=(frame_count.f k (IntKind.u64.wrap (((BitVec.ofInt 64 (IntKind.u64.wrap ((IntKind.u64.wrap x) * 2)) ^^^ BitVec.ofInt 64 (IntKind.u64.wrap (x.fdiv 9223372036854775808))).toNat:Int)))).bind fun t4=>(some t4)
def frame_Number.Post(W F:World)(r:List Int)(v:Value)(w':World):Prop:=∃(F':World)(RA0_0:OA)(rc0_0:Nat),v = .slice RA0_0 r.length rc0_0∧Sm W F w' F' [row (Kn.int .u8) 5 (.slice RA0_0 r.length rc0_0) r]
theorem frame_Number.calls(k:Nat)(x:Int)(r:List Int)(W F:World)(hown:Sub F W)(H:frame_Number.f k x=some r):
    Cr 61 #[iv x] W (frame_Number.Post W F r):=by
 have S:=sT hown
 unfold frame_Number.f at H
 refine ent 11 rfl rfl rfl (fun a E=>?_)
 refine rr E fun a E=>(sq fun K2 hK2=>pl0 (plc E (.r 0 7 .nil) (fun a E=>?_)))
 obtain ⟨t4,h5,H⟩:=bd H
 refine ple E (.cl en70 (frame_count.calls k (IntKind.u64.wrap (((BitVec.ofInt 64 (IntKind.u64.wrap ((IntKind.u64.wrap x) * 2)) ^^^ BitVec.ofInt 64 (IntKind.u64.wrap (x.fdiv 9223372036854775808))).toNat:Int))) _ _ _ S.own.sub h5)) ?_
 rintro _ u3 a ⟨F6,A7,c8,rfl,hC⟩ E
 have hs:=hC.sub
 replace S:=S.called (X:=[]) hC
 refine plc E (.r 8 1 .nil) (fun a E=>pld (hK2 _ _ (wp_ret ?_)))
 obtain rfl:=si H
 exact rt1 E ⟨_,rfl,_,_,_,rfl,S⟩
end Go.Proofs.Ytpabbpebefdafaa.PM
