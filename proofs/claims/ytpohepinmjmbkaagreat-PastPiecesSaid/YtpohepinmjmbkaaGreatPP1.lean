import Derived.Test.YtpohepinmjmbkaaGreatPP0
namespace Go.Proofs.YtpohepinmjmbkaaGreat.PP
open Go Go.RowKit Go.Proofs.YtpohepinmjmbkaaGreat.Sl
set_option linter.unusedVariables false
set_option linter.unusedSimpArgs false
set_option maxHeartbeats 4000000
set_option maxRecDepth 100000
def qw.l9:Nat→List Int→List Int→Int→Option Bool
 | 0,_,_,_=>none
 | k+1,x,y,x8=>if x8<(x.length:Int) then (if 0≤x8∧x8<(x.length:Int) then (if 0≤x8∧x8<(y.length:Int) then (if (nth 0 x x8)=(nth 0 y x8) then (qw.l9 k x y (w64 (x8+1))) else (some false)) else (none)) else (none)) else (some true)
theorem qw.l9_s k x y x8:type_of% (qw.l9.eq_2 x y x8 k):=qw.l9.eq_2 x y x8 k
def qw.f(k:Nat)(x:List Int)(y:List Int):Option Bool:=if (x.length:Int)=(y.length:Int) then (qw.l9 k x y 0) else (some false)
def qw.Post(W F:World)(r:Bool)(v:Value)(w':World):Prop:=∃(F':World),v = .bool r∧Sm W F w' F' []
theorem qw.calls(k:Nat)(x:List Int)(y:List Int)(A0_0:OA)(c0_0:Nat)(A1_0:OA)(c1_0:Nat)(r:Bool)(W F:World)(hown:Sub F W)(g0_0:Rd ki F A0_0 c0_0 x)(g1_0:Rd ki F A1_0 c1_0 y)(H:qw.f k x y=some r):
    Cr 21 #[.slice A0_0 x.length c0_0,.slice A1_0 y.length c1_0] W (qw.Post W F r):=by
 have S:=St.start (Own.nil hown)
 unfold qw.f at H
 refine ent 26 rfl rfl rfl (fun a E=>?_)
 refine rr E fun a E=>(sq fun K2 hK2=>rr E fun a E=>(E.ikn 10 H (fun c4 E H=>?_) fun c4 E H=>?_))
 refine wp_skip (hK2 _ _ (sq fun K6 hK6=>rr E fun a E=>(wp_block ?_)))
 refine wp_loop_ghost (fun kq10 a w'=>∃(G:NV)(x8:Int),kq10≤k∧Env 26 G a∧At G [(0,.slice A0_0 x.length c0_0),(1,.slice A1_0 y.length c1_0),(5,iv x8)]∧Sm W F w' F []∧qw.l9 kq10 x y x8=some r) k ⟨_,0,Nat.le_refl _,E,.of,S,H⟩ ?_
 rintro kq10 a u12 ⟨G,x8,hkq,E,A,S,H⟩
 obtain _ | k11:=kq10
 exact zz H
 rw [qw.l9_s]at H
 obtain ⟨J,E⟩:=E.at A
 refine sq fun K13 hK13=>rr E fun a E=>(E.ik 14 H (fun c15 E H=>?_) fun c15 E H=>?_)
 refine wp_skip (hK13 _ _ (sq fun K16 hK16=>wp_block (sq fun K17 hK17=>?_)))
 refine drawn 9 ⟨[],[],fun q=>False⟩ mixed rfl (by kernel_rfl) (fun hst=>?_)
 replace S:=S.drew
 obtain ⟨c18,H⟩:=gd H
 have hE_:=E
 obtain ⟨ad19,rfl⟩:=g0_0.addr c18.1 c18.2
 replace E:=hE_
 obtain ⟨cs21,rfl,hc22⟩:=g0_0.el 0 x8 c18.1 c18.2
 obtain ⟨c23,H⟩:=gd H
 have hE_:=E
 obtain ⟨ad24,rfl⟩:=g1_0.addr c23.1 c23.2
 replace E:=hE_
 obtain ⟨cs26,rfl,hc27⟩:=g1_0.el 0 x8 c23.1 c23.2
 refine mny 0 hst E (.r 0 2<|.x 2 c18<|.c 3 (S.fc hc22 0)<|.r 4 2<|.x 6 c23<|.c 7 (S.fc hc27 0)<|.r 8 1<|.nil) (fun a E=>?_)
 refine dn ?_
 refine hK17 _ _ (E.ikn 25 H (fun c28 E H=>?_) fun c28 E H=>?_)
 refine wp_skip ?_
 refine qCX ?_
 refine hK16 _ _ (pl0 (plc E (.r 0 3 .nil) (fun a E=>pld ?_)))
 exact qCY ⟨k11,by omega,_,(w64 (x8+1)),by omega,E,.of,S,H⟩
 refine rr E fun a E=>(wp_ret (qCW (qCV (qCV (qCW (qCV ?_))))))
 obtain rfl:=si H
 exact rt1 E ⟨_,rfl,_,rfl,S⟩
 refine wp_exit ?_
 refine hK6 _ _ (rr E fun a E=>(wp_ret ?_))
 obtain rfl:=si H
 exact rt1 E ⟨_,rfl,_,rfl,S⟩
 refine rr E fun a E=>(wp_ret (qCV ?_))
 obtain rfl:=si H
 exact rt1 E ⟨_,rfl,_,rfl,S⟩
def qAe.l9:Nat→List qA→List qA→Int→Option Bool
 | 0,_,_,_=>none
 | k+1,x,y,x8=>if x8<(x.length:Int) then (if 0≤x8∧x8<(x.length:Int) then (if 0≤x8∧x8<(y.length:Int) then (if (nth qA.z x x8)=(nth qA.z y x8) then (qAe.l9 k x y (w64 (x8+1))) else (some false)) else (none)) else (none)) else (some true)
theorem qAe.l9_s k x y x8:type_of% (qAe.l9.eq_2 x y x8 k):=qAe.l9.eq_2 x y x8 k
def qAe.f(k:Nat)(x:List qA)(y:List qA):Option Bool:=if (x.length:Int)=(y.length:Int) then (qAe.l9 k x y 0) else (some false)
def qAe.Post(W F:World)(r:Bool)(v:Value)(w':World):Prop:=∃(F':World),v = .bool r∧Sm W F w' F' []
theorem qAe.calls(k:Nat)(x:List qA)(y:List qA)(A0_0:OA)(c0_0:Nat)(A1_0:OA)(c1_0:Nat)(r:Bool)(W F:World)(hown:Sub F W)(g0_0:Rd qA.k F A0_0 c0_0 x)(g1_0:Rd qA.k F A1_0 c1_0 y)(H:qAe.f k x y=some r):
    Cr 65 #[.slice A0_0 x.length c0_0,.slice A1_0 y.length c1_0] W (qAe.Post W F r):=by
 have S:=St.start (Own.nil hown)
 unfold qAe.f at H
 refine ent 26 rfl rfl rfl (fun a E=>?_)
 refine rr E fun a E=>(sq fun K2 hK2=>rr E fun a E=>(E.ikn 10 H (fun c4 E H=>?_) fun c4 E H=>?_))
 refine wp_skip (hK2 _ _ (sq fun K6 hK6=>rr E fun a E=>(wp_block ?_)))
 refine wp_loop_ghost (fun kq10 a w'=>∃(G:NV)(x8:Int),kq10≤k∧Env 26 G a∧At G [(0,.slice A0_0 x.length c0_0),(1,.slice A1_0 y.length c1_0),(5,iv x8)]∧Sm W F w' F []∧qAe.l9 kq10 x y x8=some r) k ⟨_,0,Nat.le_refl _,E,.of,S,H⟩ ?_
 rintro kq10 a u12 ⟨G,x8,hkq,E,A,S,H⟩
 obtain _ | k11:=kq10
 exact zz H
 rw [qAe.l9_s]at H
 obtain ⟨J,E⟩:=E.at A
 refine sq fun K13 hK13=>rr E fun a E=>(E.ik 14 H (fun c15 E H=>?_) fun c15 E H=>?_)
 refine wp_skip (hK13 _ _ (sq fun K16 hK16=>wp_block (sq fun K17 hK17=>?_)))
 refine drawn 9 ⟨[],[],fun q=>False⟩ mixed rfl (by kernel_rfl) (fun hst=>?_)
 replace S:=S.drew
 obtain ⟨c18,H⟩:=gd H
 have hE_:=E
 obtain ⟨ad19,rfl⟩:=g0_0.addr c18.1 c18.2
 replace E:=hE_
 obtain ⟨cs21,rfl,hc22⟩:=g0_0.el qA.z x8 c18.1 c18.2
 obtain ⟨c23,H⟩:=gd H
 have hE_:=E
 obtain ⟨ad24,rfl⟩:=g1_0.addr c23.1 c23.2
 replace E:=hE_
 obtain ⟨cs26,rfl,hc27⟩:=g1_0.el qA.z x8 c23.1 c23.2
 refine mny 0 hst E (.r 0 2<|.x 2 c18<|.cs 3 (S.fcs hc22)<|.r 4 2<|.x 6 c23<|.cs 7 (S.fcs hc27)<|.y 8 (y_nes (fun w=>eqs104 (nth qA.z x x8) (nth qA.z y x8) w 9998))<|.nil) (fun a E=>?_)
 refine dn ?_
 refine hK17 _ _ (E.ikn 25 H (fun c28 E H=>?_) fun c28 E H=>?_)
 refine wp_skip ?_
 refine qCX ?_
 refine hK16 _ _ (pl0 (plc E (.r 0 3 .nil) (fun a E=>pld ?_)))
 exact qCY ⟨k11,by omega,_,(w64 (x8+1)),by omega,E,.of,S,H⟩
 refine rr E fun a E=>(wp_ret (qCW (qCV (qCV (qCW (qCV ?_))))))
 obtain rfl:=si H
 exact rt1 E ⟨_,rfl,_,rfl,S⟩
 refine wp_exit ?_
 refine hK6 _ _ (rr E fun a E=>(wp_ret ?_))
 obtain rfl:=si H
 exact rt1 E ⟨_,rfl,_,rfl,S⟩
 refine rr E fun a E=>(wp_ret (qCV ?_))
 obtain rfl:=si H
 exact rt1 E ⟨_,rfl,_,rfl,S⟩
mutual
def qAB.l9:Nat→List qG→List qG→Int→Option Bool
 | 0,_,_,_=>none
 | k+1,x,y,x8=>if x8<(x.length:Int) then (if 0≤x8∧x8<(x.length:Int) then (if 0≤x8∧x8<(y.length:Int) then (if (nth qG.z x x8).f0=(nth qG.z y x8).f0 then ((qw.f k ((nth qG.z x x8).f1) ((nth qG.z y x8).f1)).bind fun t42=>(qAB.j45 k x y x8 (!t42))) else (qAB.j45 k x y x8 true)) else (none)) else (none)) else (some true)
def qAB.j45:Nat→List qG→List qG→Int→Bool→Option Bool
 | 0,_,_,_,_=>none
 | k+1,x,y,x8,y44=>if y44=true then (some false) else (qAB.l9 k x y (w64 (x8+1)))
end
theorem qAB.l9_s k x y x8:type_of% (qAB.l9.eq_2 x y x8 k):=qAB.l9.eq_2 x y x8 k
theorem qAB.j45_s k x y x8 y44:type_of% (qAB.j45.eq_2 x y x8 y44 k):=qAB.j45.eq_2 x y x8 y44 k
def qAB.f(k:Nat)(x:List qG)(y:List qG):Option Bool:=if (x.length:Int)=(y.length:Int) then (qAB.l9 k x y 0) else (some false)
def qAB.Post(W F:World)(r:Bool)(v:Value)(w':World):Prop:=∃(F':World),v = .bool r∧Sm W F w' F' []
theorem qAB.calls(k:Nat)(x:List qG)(y:List qG)(A0_0:OA)(c0_0:Nat)(A1_0:OA)(c1_0:Nat)(r:Bool)(W F:World)(hown:Sub F W)(g0_0:Rd qG.k F A0_0 c0_0 x)(g1_0:Rd qG.k F A1_0 c1_0 y)(H:qAB.f k x y=some r):
    Cr 54 #[.slice A0_0 x.length c0_0,.slice A1_0 y.length c1_0] W (qAB.Post W F r):=by
 have S:=St.start (Own.nil hown)
 unfold qAB.f at H
 refine ent 42 rfl rfl rfl (fun a E=>?_)
 refine rr E fun a E=>(sq fun K2 hK2=>rr E fun a E=>(E.ikn 10 H (fun c4 E H=>?_) fun c4 E H=>?_))
 refine wp_skip (hK2 _ _ (sq fun K6 hK6=>rr E fun a E=>(wp_block ?_)))
 refine wp_loop_ghost (fun kq10 a w'=>∃(G:NV)(x8:Int),kq10≤k∧Env 42 G a∧At G [(0,.slice A0_0 x.length c0_0),(1,.slice A1_0 y.length c1_0),(5,iv x8)]∧Sm W F w' F []∧qAB.l9 kq10 x y x8=some r) k ⟨_,0,Nat.le_refl _,E,.of,S,H⟩ ?_
 rintro kq10 a u12 ⟨G,x8,hkq,E,A,S,H⟩
 obtain _ | k11:=kq10
 exact zz H
 rw [qAB.l9_s]at H
 obtain ⟨J,E⟩:=E.at A
 refine sq fun K13 hK13=>rr E fun a E=>(E.ik 14 H (fun c15 E H=>?_) fun c15 E H=>?_)
 refine wp_skip (hK13 _ _ (sq fun K16 hK16=>wp_block (sq fun K17 hK17=>?_)))
 have J48:∀ kq46,kq46≤k11→∀(G:NV)(y44:Bool)(a:Act)(w':World),Env 42 G a→At G [(0,.slice A0_0 x.length c0_0),(1,.slice A1_0 y.length c1_0),(5,iv x8),(41,.bool y44)]→Sm W F w' F []→qAB.j45 kq46 x y x8 y44=some r→K17 a w':=by
  intro kq46 hkq G y44 a u49 E A S H
  obtain _ | k47:=kq46
  exact zz H
  rw [qAB.j45_s]at H
  obtain ⟨J,E⟩:=E.at A
  refine hK17 _ _ (E.ib 41 H (fun c50 E H=>?_) fun c50 E H=>?_)
  refine rr E fun a E=>(wp_ret (qCW (qCV (qCV (qCW (qCV ?_))))))
  obtain rfl:=si H
  exact rt1 E ⟨_,rfl,_,rfl,S⟩
  refine wp_skip ?_
  refine qCX ?_
  refine hK16 _ _ (pl0 (plc E (.r 0 3 .nil) (fun a E=>pld ?_)))
  exact qCY ⟨k47,by omega,_,(w64 (x8+1)),by omega,E,.of,S,H⟩
 refine drawn 25 ⟨[],[],fun q=>False⟩ mixed rfl (by kernel_rfl) (fun hst=>?_)
 replace S:=S.drew
 obtain ⟨c18,H⟩:=gd H
 have hE_:=E
 obtain ⟨ad19,rfl⟩:=g0_0.addr c18.1 c18.2
 replace E:=hE_
 obtain ⟨cs21,⟨A23,c24,rfl,g25⟩,hc22⟩:=g0_0.el qG.z x8 c18.1 c18.2
 obtain ⟨c26,H⟩:=gd H
 have hE_:=E
 obtain ⟨ad27,rfl⟩:=g1_0.addr c26.1 c26.2
 replace E:=hE_
 obtain ⟨cs29,⟨A31,c32,rfl,g33⟩,hc30⟩:=g1_0.el qG.z x8 c26.1 c26.2
 refine mny 13 hst E (.r 0 2<|.x 2 c18<|.r 3 1<|.c 4 (S.fc hc22 0)<|.r 5 2<|.x 7 c26<|.r 8 1<|.c 9 (S.fc hc30 0)<|.r 10 2<|.nil) (fun a E=>?_)
 refine E.fkn 28 H (fun c34 E H=>?_) fun c34 E H=>?_
 refine mny 3 hst E (.r 12 2<|.x 14 c18<|.r 15 1<|.c 16 (S.fc hc22 1)<|.r 17 2<|.x 19 c26<|.r 20 1<|.c 21 (S.fc hc30 1)<|.nil) (fun a E=>?_)
 obtain ⟨t42,h43,H⟩:=bd H
 refine on1 22 E (.cl en21 (qw.calls k11 ((nth qG.z x x8).f1) ((nth qG.z y x8).f1) _ _ _ _ _ _ _ S.own.sub g25 g33 h43)) ?_
 rintro _ u41 a ⟨_,rfl,hC⟩ E
 refine ⟨.of hC.agr,?_⟩
 replace S:=S.lent hC
 refine mny 0 hst E (.r 23 2 .nil) (fun a E=>?_)
 refine dn ?_
 exact J48 _ (by omega) _ (!t42) _ _ E .of S H
 refine mny 0 hst E (.r 12 13 .nil) (fun a E=>?_)
 refine dn ?_
 exact J48 _ (by omega) _ true _ _ E .of S H
 refine wp_exit ?_
 refine hK6 _ _ (rr E fun a E=>(wp_ret ?_))
 obtain rfl:=si H
 exact rt1 E ⟨_,rfl,_,rfl,S⟩
 refine rr E fun a E=>(wp_ret (qCV ?_))
 obtain rfl:=si H
 exact rt1 E ⟨_,rfl,_,rfl,S⟩
mutual
def qv.l9:Nat→List qC→List qC→Int→Option Bool
 | 0,_,_,_=>none
 | k+1,x,y,x8=>if x8<(x.length:Int) then (if 0≤x8∧x8<(x.length:Int) then (if 0≤x8∧x8<(y.length:Int) then (if (nth qC.z x x8).f0=(nth qC.z y x8).f0 then ((qAB.f k ((nth qC.z x x8).f1) ((nth qC.z y x8).f1)).bind fun t42=>(qv.j45 k x y x8 (!t42))) else (qv.j45 k x y x8 true)) else (none)) else (none)) else (some true)
def qv.j45:Nat→List qC→List qC→Int→Bool→Option Bool
 | 0,_,_,_,_=>none
 | k+1,x,y,x8,y44=>if y44=true then (some false) else (qv.l9 k x y (w64 (x8+1)))
end
theorem qv.l9_s k x y x8:type_of% (qv.l9.eq_2 x y x8 k):=qv.l9.eq_2 x y x8 k
theorem qv.j45_s k x y x8 y44:type_of% (qv.j45.eq_2 x y x8 y44 k):=qv.j45.eq_2 x y x8 y44 k
def qv.f(k:Nat)(x:List qC)(y:List qC):Option Bool:=if (x.length:Int)=(y.length:Int) then (qv.l9 k x y 0) else (some false)
def qv.Post(W F:World)(r:Bool)(v:Value)(w':World):Prop:=∃(F':World),v = .bool r∧Sm W F w' F' []
theorem qv.calls(k:Nat)(x:List qC)(y:List qC)(A0_0:OA)(c0_0:Nat)(A1_0:OA)(c1_0:Nat)(r:Bool)(W F:World)(hown:Sub F W)(g0_0:Rd qC.k F A0_0 c0_0 x)(g1_0:Rd qC.k F A1_0 c1_0 y)(H:qv.f k x y=some r):
    Cr 66 #[.slice A0_0 x.length c0_0,.slice A1_0 y.length c1_0] W (qv.Post W F r):=by
 have S:=St.start (Own.nil hown)
 unfold qv.f at H
 refine ent 42 rfl rfl rfl (fun a E=>?_)
 refine rr E fun a E=>(sq fun K2 hK2=>rr E fun a E=>(E.ikn 10 H (fun c4 E H=>?_) fun c4 E H=>?_))
 refine wp_skip (hK2 _ _ (sq fun K6 hK6=>rr E fun a E=>(wp_block ?_)))
 refine wp_loop_ghost (fun kq10 a w'=>∃(G:NV)(x8:Int),kq10≤k∧Env 42 G a∧At G [(0,.slice A0_0 x.length c0_0),(1,.slice A1_0 y.length c1_0),(5,iv x8)]∧Sm W F w' F []∧qv.l9 kq10 x y x8=some r) k ⟨_,0,Nat.le_refl _,E,.of,S,H⟩ ?_
 rintro kq10 a u12 ⟨G,x8,hkq,E,A,S,H⟩
 obtain _ | k11:=kq10
 exact zz H
 rw [qv.l9_s]at H
 obtain ⟨J,E⟩:=E.at A
 refine sq fun K13 hK13=>rr E fun a E=>(E.ik 14 H (fun c15 E H=>?_) fun c15 E H=>?_)
 refine wp_skip (hK13 _ _ (sq fun K16 hK16=>wp_block (sq fun K17 hK17=>?_)))
 have J48:∀ kq46,kq46≤k11→∀(G:NV)(y44:Bool)(a:Act)(w':World),Env 42 G a→At G [(0,.slice A0_0 x.length c0_0),(1,.slice A1_0 y.length c1_0),(5,iv x8),(41,.bool y44)]→Sm W F w' F []→qv.j45 kq46 x y x8 y44=some r→K17 a w':=by
  intro kq46 hkq G y44 a u49 E A S H
  obtain _ | k47:=kq46
  exact zz H
  rw [qv.j45_s]at H
  obtain ⟨J,E⟩:=E.at A
  refine hK17 _ _ (E.ib 41 H (fun c50 E H=>?_) fun c50 E H=>?_)
  refine rr E fun a E=>(wp_ret (qCW (qCV (qCV (qCW (qCV ?_))))))
  obtain rfl:=si H
  exact rt1 E ⟨_,rfl,_,rfl,S⟩
  refine wp_skip ?_
  refine qCX ?_
  refine hK16 _ _ (pl0 (plc E (.r 0 3 .nil) (fun a E=>pld ?_)))
  exact qCY ⟨k47,by omega,_,(w64 (x8+1)),by omega,E,.of,S,H⟩
 refine drawn 25 ⟨[],[],fun q=>False⟩ mixed rfl (by kernel_rfl) (fun hst=>?_)
 replace S:=S.drew
 obtain ⟨c18,H⟩:=gd H
 have hE_:=E
 obtain ⟨ad19,rfl⟩:=g0_0.addr c18.1 c18.2
 replace E:=hE_
 obtain ⟨cs21,⟨A23,c24,rfl,g25⟩,hc22⟩:=g0_0.el qC.z x8 c18.1 c18.2
 obtain ⟨c26,H⟩:=gd H
 have hE_:=E
 obtain ⟨ad27,rfl⟩:=g1_0.addr c26.1 c26.2
 replace E:=hE_
 obtain ⟨cs29,⟨A31,c32,rfl,g33⟩,hc30⟩:=g1_0.el qC.z x8 c26.1 c26.2
 refine mny 13 hst E (.r 0 2<|.x 2 c18<|.r 3 1<|.c 4 (S.fc hc22 0)<|.r 5 2<|.x 7 c26<|.r 8 1<|.c 9 (S.fc hc30 0)<|.r 10 2<|.nil) (fun a E=>?_)
 refine E.fkn 28 H (fun c34 E H=>?_) fun c34 E H=>?_
 refine mny 3 hst E (.r 12 2<|.x 14 c18<|.r 15 1<|.c 16 (S.fc hc22 1)<|.r 17 2<|.x 19 c26<|.r 20 1<|.c 21 (S.fc hc30 1)<|.nil) (fun a E=>?_)
 obtain ⟨t42,h43,H⟩:=bd H
 refine on1 22 E (.cl en54 (qAB.calls k11 ((nth qC.z x x8).f1) ((nth qC.z y x8).f1) _ _ _ _ _ _ _ S.own.sub g25 g33 h43)) ?_
 rintro _ u41 a ⟨_,rfl,hC⟩ E
 refine ⟨.of hC.agr,?_⟩
 replace S:=S.lent hC
 refine mny 0 hst E (.r 23 2 .nil) (fun a E=>?_)
 refine dn ?_
 exact J48 _ (by omega) _ (!t42) _ _ E .of S H
 refine mny 0 hst E (.r 12 13 .nil) (fun a E=>?_)
 refine dn ?_
 exact J48 _ (by omega) _ true _ _ E .of S H
 refine wp_exit ?_
 refine hK6 _ _ (rr E fun a E=>(wp_ret ?_))
 obtain rfl:=si H
 exact rt1 E ⟨_,rfl,_,rfl,S⟩
 refine rr E fun a E=>(wp_ret (qCV ?_))
 obtain rfl:=si H
 exact rt1 E ⟨_,rfl,_,rfl,S⟩
mutual
def qj.j17:Nat→qF→qF→Bool→Option Bool
 | 0,_,_,_=>none
 | k+1,x,y,y16=>if y16=true then (some false) else (qj.l27 k x y 0)
def qj.l27:Nat→qF→qF→Int→Option Bool
 | 0,_,_,_=>none
 | k+1,x,y,x26=>if x26<(x.f5.length:Int) then (if 0≤x26∧x26<(x.f5.length:Int) then (if 0≤x26∧x26<(y.f5.length:Int) then (if (nth qD.z x.f5 x26).f0=(nth qD.z y.f5 x26).f0 then ((qw.f k ((nth qD.z x.f5 x26).f1) ((nth qD.z y.f5 x26).f1)).bind fun t60=>(qj.j63 k x y x26 (!t60))) else (qj.j63 k x y x26 true)) else (none)) else (none)) else ((qv.f k x.f6 y.f6).bind fun t72=>(some t72))
def qj.j63:Nat→qF→qF→Int→Bool→Option Bool
 | 0,_,_,_,_=>none
 | k+1,x,y,x26,y62=>if y62=true then (some false) else (qj.l27 k x y (w64 (x26+1)))
end
theorem qj.j17_s k x y y16:type_of% (qj.j17.eq_2 x y y16 k):=qj.j17.eq_2 x y y16 k
theorem qj.l27_s k x y x26:type_of% (qj.l27.eq_2 x y x26 k):=qj.l27.eq_2 x y x26 k
theorem qj.j63_s k x y x26 y62:type_of% (qj.j63.eq_2 x y x26 y62 k):=qj.j63.eq_2 x y x26 y62 k
def qj.f(k:Nat)(x:qF)(y:qF):Option Bool:=if x.f0=y.f0 then (if x.f1=y.f1 then (if x.f2=y.f2 then (if x.f3=y.f3 then ((qAe.f k x.f4 y.f4).bind fun t13=>(if t13=true then (qj.j17 k x y (!((x.f5.length:Int) == (y.f5.length:Int)))) else (qj.j17 k x y true))) else (qj.j17 k x y true)) else (qj.j17 k x y true)) else (qj.j17 k x y true)) else (qj.j17 k x y true)
def qj.Post(W F:World)(r:Bool)(v:Value)(w':World):Prop:=∃(F':World),v = .bool r∧Sm W F w' F' []
theorem qj.calls(k:Nat)(x:qF)(y:qF)(A0_4:OA)(c0_4:Nat)(A0_5:OA)(c0_5:Nat)(A0_6:OA)(c0_6:Nat)(A1_4:OA)(c1_4:Nat)(A1_5:OA)(c1_5:Nat)(A1_6:OA)(c1_6:Nat)(r:Bool)(W F:World)(hown:Sub F W)(g0_4:Rd qA.k F A0_4 c0_4 x.f4)(g0_5:Rd qD.k F A0_5 c0_5 x.f5)(g0_6:Rd qC.k F A0_6 c0_6 x.f6)(g1_4:Rd qA.k F A1_4 c1_4 y.f4)(g1_5:Rd qD.k F A1_5 c1_5 y.f5)(g1_6:Rd qC.k F A1_6 c1_6 y.f6)(H:qj.f k x y=some r):
    Cr 16 #[.agg #[iv x.f0,iv x.f1,iv x.f2,iv x.f3,.slice A0_4 x.f4.length c0_4,.slice A0_5 x.f5.length c0_5,.slice A0_6 x.f6.length c0_6],.agg #[iv y.f0,iv y.f1,iv y.f2,iv y.f3,.slice A1_4 y.f4.length c1_4,.slice A1_5 y.f5.length c1_5,.slice A1_6 y.f6.length c1_6]] W (qj.Post W F r):=by
 have S:=St.start (Own.nil hown)
 unfold qj.f at H
 refine ent 90 rfl rfl rfl (fun a E=>?_)
 refine sq fun K1 hK1=>pl0 (plx (t:=26) E S [iv x.f0,iv x.f1,iv x.f2,iv x.f3,.slice A0_4 x.f4.length c0_4,.slice A0_5 x.f5.length c0_5,.slice A0_6 x.f6.length c0_6] fun b2 u3 hb2 S a E=>plx (t:=26) E S [iv y.f0,iv y.f1,iv y.f2,iv y.f3,.slice A1_4 y.f4.length c1_4,.slice A1_5 y.f5.length c1_5,.slice A1_6 y.f6.length c1_6] fun b4 u5 hb4 S a E=>plc E (.r 2 1 .nil) (fun a E=>pld (hK1 _ _ (sq fun K6 hK6=>sq fun K7 hK7=>?_))))
 have J20:∀ kq18,kq18≤k→∀(G:NV)(y16:Bool)(a:Act)(w':World),Env 90 G a→At G [(2,.pointer (pb b2)),(3,.pointer (pb b4)),(48,.bool y16)]→Sm W F w' F [box b4 #[iv y.f0,iv y.f1,iv y.f2,iv y.f3,.slice A1_4 y.f4.length c1_4,.slice A1_5 y.f5.length c1_5,.slice A1_6 y.f6.length c1_6] 26,box b2 #[iv x.f0,iv x.f1,iv x.f2,iv x.f3,.slice A0_4 x.f4.length c0_4,.slice A0_5 x.f5.length c0_5,.slice A0_6 x.f6.length c0_6] 26]→qj.j17 kq18 x y y16=some r→K7 a w':=by
  intro kq18 hkq G y16 a u21 E A S H
  obtain _ | k19:=kq18
  exact zz H
  rw [qj.j17_s]at H
  obtain ⟨J,E⟩:=E.at A
  refine hK7 _ _ (E.ib 48 H (fun c22 E H=>?_) fun c22 E H=>?_)
  refine rr E fun a E=>(wp_ret (qCV ?_))
  replace S:=S.pm [] 2
  obtain rfl:=si H
  exact rt1 E ⟨_,rfl,_,rfl,S⟩
  refine wp_skip (hK6 _ _ (sq fun K24 hK24=>rr E fun a E=>(wp_block ?_)))
  refine wp_loop_ghost (fun kq28 a w'=>∃(G:NV)(x26:Int),kq28≤k19∧Env 90 G a∧At G [(2,.pointer (pb b2)),(3,.pointer (pb b4)),(5,iv x26)]∧Sm W F w' F [box b4 #[iv y.f0,iv y.f1,iv y.f2,iv y.f3,.slice A1_4 y.f4.length c1_4,.slice A1_5 y.f5.length c1_5,.slice A1_6 y.f6.length c1_6] 26,box b2 #[iv x.f0,iv x.f1,iv x.f2,iv x.f3,.slice A0_4 x.f4.length c0_4,.slice A0_5 x.f5.length c0_5,.slice A0_6 x.f6.length c0_6] 26]∧qj.l27 kq28 x y x26=some r) k19 ⟨_,0,Nat.le_refl _,E,.of,S,H⟩ ?_
  rintro kq28 a u30 ⟨G,x26,hkq,E,A,S,H⟩
  obtain _ | k29:=kq28
  exact zz H
  rw [qj.l27_s]at H
  obtain ⟨J,E⟩:=E.at A
  refine sq fun K31 hK31=>sq fun K32 hK32=>pl0 ?_
  have hb2:=S.ba 1
  refine plc E (.r 0 2<|.b 2 5 hb2<|.r 3 2<|.nil) (fun a E=>pld (hK32 _ _ (E.ik 53 H (fun c33 E H=>?_) fun c33 E H=>?_)))
  refine wp_skip (hK31 _ _ (sq fun K34 hK34=>wp_block (sq fun K35 hK35=>?_)))
  have J66:∀ kq64,kq64≤k29→∀(G:NV)(y62:Bool)(a:Act)(w':World),Env 90 G a→At G [(2,.pointer (pb b2)),(3,.pointer (pb b4)),(5,iv x26),(84,.bool y62)]→Sm W F w' F [box b4 #[iv y.f0,iv y.f1,iv y.f2,iv y.f3,.slice A1_4 y.f4.length c1_4,.slice A1_5 y.f5.length c1_5,.slice A1_6 y.f6.length c1_6] 26,box b2 #[iv x.f0,iv x.f1,iv x.f2,iv x.f3,.slice A0_4 x.f4.length c0_4,.slice A0_5 x.f5.length c0_5,.slice A0_6 x.f6.length c0_6] 26]→qj.j63 kq64 x y x26 y62=some r→K35 a w':=by
   intro kq64 hkq G y62 a u67 E A S H
   obtain _ | k65:=kq64
   exact zz H
   rw [qj.j63_s]at H
   obtain ⟨J,E⟩:=E.at A
   refine hK35 _ _ (E.ib 84 H (fun c68 E H=>?_) fun c68 E H=>?_)
   refine rr E fun a E=>(wp_ret (qCW (qCV (qCV (qCW (qCV ?_))))))
   replace S:=S.pm [] 2
   obtain rfl:=si H
   exact rt1 E ⟨_,rfl,_,rfl,S⟩
   refine wp_skip ?_
   refine qCX ?_
   refine hK34 _ _ (pl0 (plc E (.r 0 3 .nil) (fun a E=>pld ?_)))
   exact qCY ⟨k65,by omega,_,(w64 (x26+1)),by omega,E,.of,S,H⟩
  refine drawn 29 ⟨[],[],fun q=>False⟩ mixed rfl (by kernel_rfl) (fun hst=>?_)
  replace S:=S.drew
  have hb2:=S.ba 1
  obtain ⟨c36,H⟩:=gd H
  have hE_:=E
  obtain ⟨ad37,rfl⟩:=g0_5.addr c36.1 c36.2
  replace E:=hE_
  obtain ⟨cs39,⟨A41,c42,rfl,g43⟩,hc40⟩:=g0_5.el qD.z x26 c36.1 c36.2
  have hb4:=S.ba 0
  obtain ⟨c44,H⟩:=gd H
  have hE_:=E
  obtain ⟨ad45,rfl⟩:=g1_5.addr c44.1 c44.2
  replace E:=hE_
  obtain ⟨cs47,⟨A49,c50,rfl,g51⟩,hc48⟩:=g1_5.el qD.z x26 c44.1 c44.2
  refine mny 15 hst E (.r 0 1<|.b 1 5 hb2<|.r 2 1<|.x 3 c36<|.r 4 1<|.c 5 (S.fc hc40 0)<|.r 6 1<|.b 7 5 hb4<|.r 8 1<|.x 9 c44<|.r 10 1<|.c 11 (S.fc hc48 0)<|.r 12 2<|.nil) (fun a E=>?_)
  refine E.fkn 69 H (fun c52 E H=>?_) fun c52 E H=>?_
  refine mny 3 hst E (.r 14 1<|.b 15 5 hb2<|.r 16 1<|.x 17 c36<|.r 18 1<|.c 19 (S.fc hc40 1)<|.r 20 1<|.b 21 5 hb4<|.r 22 1<|.x 23 c44<|.r 24 1<|.c 25 (S.fc hc48 1)<|.nil) (fun a E=>?_)
  obtain ⟨t60,h61,H⟩:=bd H
  refine on1 26 E (.cl en21 (qw.calls k29 ((nth qD.z x.f5 x26).f1) ((nth qD.z y.f5 x26).f1) _ _ _ _ _ _ _ S.own.sub g43 g51 h61)) ?_
  rintro _ u59 a ⟨_,rfl,hC⟩ E
  refine ⟨.of hC.agr,?_⟩
  replace S:=S.lent hC
  refine mny 0 hst E (.r 27 2 .nil) (fun a E=>?_)
  refine dn ?_
  exact J66 _ (by omega) _ (!t60) _ _ E .of S H
  refine mny 0 hst E (.r 14 15 .nil) (fun a E=>?_)
  refine dn ?_
  exact J66 _ (by omega) _ true _ _ E .of S H
  refine wp_exit ?_
  refine hK24 _ _ (sq fun K70 hK70=>pl0 (plc E (.r 0 1<|.b 1 6 hb2<|.r 2 1<|.b 3 6 (S.ba 0)<|.nil) (fun a E=>?_)))
  obtain ⟨t72,h73,H⟩:=bd H
  refine plq E S en66 (qv.calls k29 x.f6 y.f6 _ _ _ _ _ _ _ S.own.sub g0_6 g1_6 h73) fun u71 S a E=>plc E (.r 5 1 .nil) (fun a E=>pld (hK70 _ _ (wp_ret ?_)))
  replace S:=S.pm [] 2
  obtain rfl:=si H
  exact rt1 E ⟨_,rfl,_,rfl,S⟩
 refine pl0 ?_
 have hb2:=S.ba 1
 refine plc E (.r 0 1<|.b 1 0 hb2<|.r 2 1<|.b 3 0 hb4<|.r 4 2<|.nil) (fun a E=>E.fkn 11 H (fun c8 E H=>?_) fun c8 E H=>?_)
 refine plc E (.r 6 1<|.b 7 1 hb2<|.r 8 1<|.b 9 1 hb4<|.r 10 3<|.nil) (fun a E=>E.fkn 18 H (fun c9 E H=>?_) fun c9 E H=>?_)
 refine plc E (.r 13 1<|.b 14 2 hb2<|.r 15 1<|.b 16 2 hb4<|.r 17 3<|.nil) (fun a E=>E.fkn 25 H (fun c10 E H=>?_) fun c10 E H=>?_)
 refine plc E (.r 20 1<|.b 21 3 hb2<|.r 22 1<|.b 23 3 hb4<|.r 24 3<|.nil) (fun a E=>E.fkn 32 H (fun c11 E H=>?_) fun c11 E H=>?_)
 refine plc E (.r 27 1<|.b 28 4 hb2<|.r 29 1<|.b 30 4 hb4<|.nil) (fun a E=>?_)
 obtain ⟨t13,h14,H⟩:=bd H
 refine plq E S en65 (qAe.calls k x.f4 y.f4 _ _ _ _ _ _ _ S.own.sub g0_4 g1_4 h14) fun u12 S a E=>plc E (.r 32 3 .nil) (fun a E=>E.fbn 40 H (fun c15 E H=>?_) fun c15 E H=>?_)
 refine plc E (.r 35 1<|.b 36 5 (S.ba 1)<|.r 37 2<|.b 39 5 (S.ba 0)<|.r 40 3<|.nil) (fun a E=>pld ?_)
 exact J20 _ (by omega) _ (!((x.f5.length:Int) == (y.f5.length:Int))) _ _ E .of S H
 refine plc E (.r 35 8 .nil) (fun a E=>pld ?_)
 exact J20 _ (by omega) _ true _ _ E .of S H
 refine plc E (.r 27 16 .nil) (fun a E=>pld ?_)
 exact J20 _ (by omega) _ true _ _ E .of S H
 refine plc E (.r 20 23 .nil) (fun a E=>pld ?_)
 exact J20 _ (by omega) _ true _ _ E .of S H
 refine plc E (.r 13 30 .nil) (fun a E=>pld ?_)
 exact J20 _ (by omega) _ true _ _ E .of S H
 refine plc E (.r 6 37 .nil) (fun a E=>pld ?_)
 exact J20 _ (by omega) _ true _ _ E .of S H
mutual
def qo.l5:Nat→List qA→Int→Option Bool
 | 0,_,_=>none
 | k+1,x,x4=>if x4<(x.length:Int) then (if 0≤x4∧x4<(x.length:Int) then (if (nth qA.z x x4).f0<1 then (qo.j37 k x x4 true) else (if (nth qA.z x x4).f0>999 then (qo.j37 k x x4 true) else (if (nth qA.z x x4).f1<1 then (qo.j37 k x x4 true) else (if (nth qA.z x x4).f1>9 then (qo.j37 k x x4 true) else (if (nth qA.z x x4).f2<1 then (qo.j37 k x x4 true) else (if (nth qA.z x x4).f2>9 then (qo.j37 k x x4 true) else (if (nth qA.z x x4).f3<0 then (qo.j37 k x x4 true) else (if (nth qA.z x x4).f3>65536 then (qo.j37 k x x4 true) else (if x4>0 then (if 0≤(w64 (x4 - 1))∧(w64 (x4 - 1))<(x.length:Int) then (qo.j37 k x x4 (decide ((nth qA.z x (w64 (x4 - 1))).f0≥(nth qA.z x x4).f0))) else (none)) else (qo.j37 k x x4 false)))))))))) else (none)) else (some (decide ((x.length:Int)≤12)))
def qo.j37:Nat→List qA→Int→Bool→Option Bool
 | 0,_,_,_=>none
 | k+1,x,x4,y36=>if y36=true then (some false) else (qo.l5 k x (w64 (x4+1)))
end
theorem qo.l5_s k x x4:type_of% (qo.l5.eq_2 x x4 k):=qo.l5.eq_2 x x4 k
theorem qo.j37_s k x x4 y36:type_of% (qo.j37.eq_2 x x4 y36 k):=qo.j37.eq_2 x x4 y36 k
def qo.f(k:Nat)(x:List qA):Option Bool:=qo.l5 k x 0
def qo.Post(W F:World)(r:Bool)(v:Value)(w':World):Prop:=∃(F':World),v = .bool r∧Sm W F w' F' []
theorem qo.calls(k:Nat)(x:List qA)(A0_0:OA)(c0_0:Nat)(r:Bool)(W F:World)(hown:Sub F W)(g0_0:Rd qA.k F A0_0 c0_0 x)(H:qo.f k x=some r):
    Cr 67 #[.slice A0_0 x.length c0_0] W (qo.Post W F r):=by
 have S:=St.start (Own.nil hown)
 unfold qo.f at H
 refine ent 71 rfl rfl rfl (fun a E=>?_)
 refine rr E fun a E=>(sq fun K2 hK2=>rr E fun a E=>(wp_block ?_))
 refine wp_loop_ghost (fun kq6 a w'=>∃(G:NV)(x4:Int),kq6≤k∧Env 71 G a∧At G [(0,.slice A0_0 x.length c0_0),(3,iv x4)]∧Sm W F w' F []∧qo.l5 kq6 x x4=some r) k ⟨_,0,Nat.le_refl _,E,.of,S,H⟩ ?_
 rintro kq6 a u8 ⟨G,x4,hkq,E,A,S,H⟩
 obtain _ | k7:=kq6
 exact zz H
 rw [qo.l5_s]at H
 obtain ⟨J,E⟩:=E.at A
 refine sq fun K9 hK9=>rr E fun a E=>(E.ik 8 H (fun c11 E H=>?_) fun c11 E H=>?_)
 refine wp_skip (hK9 _ _ (sq fun K12 hK12=>wp_block (sq fun K13 hK13=>pl0 ?_)))
 obtain ⟨c14,H⟩:=gd H
 have hE_:=E
 obtain ⟨ad15,rfl⟩:=g0_0.addr c14.1 c14.2
 replace E:=hE_
 obtain ⟨cs17,rfl,hc18⟩:=g0_0.el qA.z x4 c14.1 c14.2
 refine plc E (.r 0 2<|.x 2 c14<|.cs 3 (S.fcs hc18)<|.nil) (fun a E=>pla (t:=104) E S [iv 0,iv 0,iv 0,iv 0,.bool false,.bool false] fun b19 u20 hb19 S a E=>pls E S [iv ((nth qA.z x x4).f0),iv ((nth qA.z x x4).f1),iv ((nth qA.z x x4).f2),iv ((nth qA.z x x4).f3),.bool ((nth qA.z x x4).f4),.bool ((nth qA.z x x4).f5)] fun u21 hb19 S a E=>pld (hK13 _ _ (sq fun K22 hK22=>?_)))
 have J40:∀ kq38,kq38≤k7→∀(G:NV)(y36:Bool)(a:Act)(w':World),Env 71 G a→At G [(0,.slice (some ad15) x.length c0_0),(3,iv x4),(67,.bool y36)]→Sm W F w' F [box b19 #[iv ((nth qA.z x x4).f0),iv ((nth qA.z x x4).f1),iv ((nth qA.z x x4).f2),iv ((nth qA.z x x4).f3),.bool ((nth qA.z x x4).f4),.bool ((nth qA.z x x4).f5)] 104]→qo.j37 kq38 x x4 y36=some r→K22 a w':=by
  intro kq38 hkq G y36 a u41 E A S H
  obtain _ | k39:=kq38
  exact zz H
  rw [qo.j37_s]at H
  obtain ⟨J,E⟩:=E.at A
  refine hK22 _ _ (E.ib 67 H (fun c42 E H=>?_) fun c42 E H=>?_)
  refine rr E fun a E=>(wp_ret (qCW (qCV (qCV (qCW (qCV ?_))))))
  replace S:=S.tail
  obtain rfl:=si H
  exact rt1 E ⟨_,rfl,_,rfl,S⟩
  refine wp_skip ?_
  refine qCX ?_
  refine hK12 _ _ (pl0 (plc E (.r 0 3 .nil) (fun a E=>pld ?_)))
  replace S:=S.tail
  exact qCY ⟨k39,by omega,_,(w64 (x4+1)),by omega,E,.of,S,H⟩
 refine drawn 53 ⟨[],[],fun q=>False⟩ mixed rfl (by kernel_rfl) (fun hst=>?_)
 replace S:=S.drew
 have hb19:=S.ba 0
 refine mny 49 hst E (.r 0 1<|.b 1 0 hb19<|.r 2 2<|.nil) (fun a E=>?_)
 refine E.fk 18 H (fun c23 E H=>?_) fun c23 E H=>?_
 refine mny 0 hst E (.r 4 49 .nil) (fun a E=>?_)
 refine dn ?_
 exact J40 _ (by omega) _ true _ _ E .of S H
 refine mny 44 hst E (.r 4 1<|.b 5 0 hb19<|.r 6 3<|.nil) (fun a E=>?_)
 refine E.fk 23 H (fun c24 E H=>?_) fun c24 E H=>?_
 refine mny 0 hst E (.r 9 44 .nil) (fun a E=>?_)
 refine dn ?_
 exact J40 _ (by omega) _ true _ _ E .of S H
 refine mny 39 hst E (.r 9 1<|.b 10 1 hb19<|.r 11 3<|.nil) (fun a E=>?_)
 refine E.fk 28 H (fun c25 E H=>?_) fun c25 E H=>?_
 refine mny 0 hst E (.r 14 39 .nil) (fun a E=>?_)
 refine dn ?_
 exact J40 _ (by omega) _ true _ _ E .of S H
 refine mny 34 hst E (.r 14 1<|.b 15 1 hb19<|.r 16 3<|.nil) (fun a E=>?_)
 refine E.fk 33 H (fun c26 E H=>?_) fun c26 E H=>?_
 refine mny 0 hst E (.r 19 34 .nil) (fun a E=>?_)
 refine dn ?_
 exact J40 _ (by omega) _ true _ _ E .of S H
 refine mny 29 hst E (.r 19 1<|.b 20 2 hb19<|.r 21 3<|.nil) (fun a E=>?_)
 refine E.fk 38 H (fun c27 E H=>?_) fun c27 E H=>?_
 refine mny 0 hst E (.r 24 29 .nil) (fun a E=>?_)
 refine dn ?_
 exact J40 _ (by omega) _ true _ _ E .of S H
 refine mny 24 hst E (.r 24 1<|.b 25 2 hb19<|.r 26 3<|.nil) (fun a E=>?_)
 refine E.fk 43 H (fun c28 E H=>?_) fun c28 E H=>?_
 refine mny 0 hst E (.r 29 24 .nil) (fun a E=>?_)
 refine dn ?_
 exact J40 _ (by omega) _ true _ _ E .of S H
 refine mny 19 hst E (.r 29 1<|.b 30 3 hb19<|.r 31 3<|.nil) (fun a E=>?_)
 refine E.fk 48 H (fun c29 E H=>?_) fun c29 E H=>?_
 refine mny 0 hst E (.r 34 19 .nil) (fun a E=>?_)
 refine dn ?_
 exact J40 _ (by omega) _ true _ _ E .of S H
 refine mny 14 hst E (.r 34 1<|.b 35 3 hb19<|.r 36 3<|.nil) (fun a E=>?_)
 refine E.fk 53 H (fun c30 E H=>?_) fun c30 E H=>?_
 refine mny 0 hst E (.r 39 14 .nil) (fun a E=>?_)
 refine dn ?_
 exact J40 _ (by omega) _ true _ _ E .of S H
 refine mny 11 hst E (.r 39 3 .nil) (fun a E=>?_)
 refine E.fk 56 H (fun c31 E H=>?_) fun c31 E H=>?_
 obtain ⟨c32,H⟩:=gd H
 obtain ⟨cs34,rfl,hc35⟩:=g0_0.el qA.z (w64 (x4 - 1)) c32.1 c32.2
 refine mny 0 hst E (.r 42 3<|.x 45 c32<|.r 46 1<|.c 47 (S.fc hc35 0)<|.r 48 1<|.b 49 0 hb19<|.r 50 3<|.nil) (fun a E=>?_)
 refine dn ?_
 exact J40 _ (by omega) _ (decide ((nth qA.z x (w64 (x4 - 1))).f0≥(nth qA.z x x4).f0)) _ _ E .of S H
 refine mny 0 hst E (.r 42 11 .nil) (fun a E=>?_)
 refine dn ?_
 exact J40 _ (by omega) _ false _ _ E .of S H
 refine wp_exit ?_
 refine hK2 _ _ (rr E fun a E=>(wp_ret ?_))
 obtain rfl:=si H
 exact rt1 E ⟨_,rfl,_,rfl,S⟩
def qAJ.l7:Nat→List qA→Int→Int→Option (qA × Bool)
 | 0,_,_,_=>none
 | k+1,x,y,x6=>if x6<(x.length:Int) then (if 0≤x6∧x6<(x.length:Int) then (if (nth qA.z x x6).f0=y then (some ((nth qA.z x x6),true)) else (qAJ.l7 k x y (w64 (x6+1)))) else (none)) else (some ((⟨0,0,0,0,false,false⟩:qA),false))
theorem qAJ.l7_s k x y x6:type_of% (qAJ.l7.eq_2 x y x6 k):=qAJ.l7.eq_2 x y x6 k
def qAJ.f(k:Nat)(x:List qA)(y:Int):Option (qA × Bool):=qAJ.l7 k x y 0
def qAJ.Post(W F:World)(r:qA × Bool)(v:Value)(w':World):Prop:=∃(F':World),v = .tuple #[.agg #[iv r.1.f0,iv r.1.f1,iv r.1.f2,iv r.1.f3,.bool r.1.f4,.bool r.1.f5],.bool r.2]∧Sm W F w' F' []
theorem qAJ.calls(k:Nat)(x:List qA)(y:Int)(A0_0:OA)(c0_0:Nat)(r:qA × Bool)(W F:World)(hown:Sub F W)(g0_0:Rd qA.k F A0_0 c0_0 x)(H:qAJ.f k x y=some r):
    Cr 75 #[.slice A0_0 x.length c0_0,iv y] W (qAJ.Post W F r):=by
 have S:=St.start (Own.nil hown)
 unfold qAJ.f at H
 refine ent 25 rfl rfl rfl (fun a E=>?_)
 refine sq fun K1 hK1=>pl0 (pla (t:=104) E S [iv 0,iv 0,iv 0,iv 0,.bool false,.bool false] fun b2 u3 hb2 S a E=>plc E (.r 1 1 .nil) (fun a E=>pld (hK1 _ _ (sq fun K4 hK4=>rr E fun a E=>(wp_block ?_)))))
 refine wp_loop_ghost (fun kq8 a w'=>∃(G:NV)(x6:Int),kq8≤k∧Env 25 G a∧At G [(0,.slice A0_0 x.length c0_0),(1,iv y),(4,.pointer (pb b2)),(6,iv x6)]∧Sm W F w' F [box b2 #[iv 0,iv 0,iv 0,iv 0,.bool false,.bool false] 104]∧qAJ.l7 kq8 x y x6=some r) k ⟨_,0,Nat.le_refl _,E,.of,S,H⟩ ?_
 rintro kq8 a u10 ⟨G,x6,hkq,E,A,S,H⟩
 obtain _ | k9:=kq8
 exact zz H
 rw [qAJ.l7_s]at H
 obtain ⟨J,E⟩:=E.at A
 refine sq fun K11 hK11=>rr E fun a E=>(E.ik 10 H (fun c13 E H=>?_) fun c13 E H=>?_)
 refine wp_skip (hK11 _ _ (sq fun K14 hK14=>wp_block (sq fun K15 hK15=>pl0 ?_)))
 obtain ⟨c16,H⟩:=gd H
 have hE_:=E
 obtain ⟨ad17,rfl⟩:=g0_0.addr c16.1 c16.2
 replace E:=hE_
 obtain ⟨cs19,rfl,hc20⟩:=g0_0.el qA.z x6 c16.1 c16.2
 refine plc E (.r 0 2<|.x 2 c16<|.r 3 1<|.c 4 (S.fc hc20 0)<|.r 5 2<|.nil) (fun a E=>pld (hK15 _ _ (E.ik 19 H (fun c21 E H=>?_) fun c21 E H=>?_)))
 refine sq fun K22 hK22=>pl0 (plc E (.r 0 2<|.x 2 c16<|.cs 3 (S.fcs hc20)<|.nil) (fun a E=>pls E S [iv ((nth qA.z x x6).f0),iv ((nth qA.z x x6).f1),iv ((nth qA.z x x6).f2),iv ((nth qA.z x x6).f3),.bool ((nth qA.z x x6).f4),.bool ((nth qA.z x x6).f5)] fun u26 hb2 S a E=>plc E (.r 5 1 .nil) (fun a E=>pld (hK22 _ _ (wp_ret (qCW (qCV (qCV (qCW (qCV ?_))))))))))
 replace S:=S.tail
 obtain rfl:=si H
 exact rtm E (.b hb2 ag104 sz104 (.t .nil)) ⟨_,rfl,_,rfl,S⟩
 refine wp_skip ?_
 refine qCX ?_
 refine hK14 _ _ (pl0 (plc E (.r 0 3 .nil) (fun a E=>pld ?_)))
 exact qCY ⟨k9,by omega,_,(w64 (x6+1)),by omega,E,.of,S,H⟩
 refine wp_exit ?_
 refine hK4 _ _ (sq fun K27 hK27=>pl0 (plc E (.r 0 1 .nil) (fun a E=>pls E S [iv 0,iv 0,iv 0,iv 0,.bool false,.bool false] fun u28 hb2 S a E=>plc E (.r 2 1 .nil) (fun a E=>pld (hK27 _ _ (wp_ret ?_))))))
 replace S:=S.tail
 obtain rfl:=si H
 exact rtm E (.b hb2 ag104 sz104 (.t .nil)) ⟨_,rfl,_,rfl,S⟩
mutual
def qq.l5:Nat→List qA→List Int→Int→Option Bool
 | 0,_,_,_=>none
 | k+1,x,y,x4=>if x4<(y.length:Int) then (if 0≤x4∧x4<(y.length:Int) then ((qAJ.f k x (nth 0 y x4)).bind fun t20=>(if t20.2=true then (qq.l31 k x y x4 t20 0) else (some false))) else (none)) else (some true)
def qq.l31:Nat→List qA→List Int→Int→qA × Bool→Int→Option Bool
 | 0,_,_,_,_,_=>none
 | k+1,x,y,x4,t20,x30=>if x30<x4 then (if 0≤x30∧x30<(y.length:Int) then ((qAJ.f k x (nth 0 y x30)).bind fun t45=>(if t20.1.f1=t45.1.f1 then (some false) else (qq.l31 k x y x4 t20 (w64 (x30+1))))) else (none)) else (qq.l5 k x y (w64 (x4+1)))
end
theorem qq.l5_s k x y x4:type_of% (qq.l5.eq_2 x y x4 k):=qq.l5.eq_2 x y x4 k
theorem qq.l31_s k x y x4 t20 x30:type_of% (qq.l31.eq_2 x y x4 t20 x30 k):=qq.l31.eq_2 x y x4 t20 x30 k
def qq.f(k:Nat)(x:List qA)(y:List Int):Option Bool:=qq.l5 k x y 0
def qq.Post(W F:World)(r:Bool)(v:Value)(w':World):Prop:=∃(F':World),v = .bool r∧Sm W F w' F' []
theorem qq.calls(k:Nat)(x:List qA)(y:List Int)(A0_0:OA)(c0_0:Nat)(A1_0:OA)(c1_0:Nat)(r:Bool)(W F:World)(hown:Sub F W)(g0_0:Rd qA.k F A0_0 c0_0 x)(g1_0:Rd ki F A1_0 c1_0 y)(H:qq.f k x y=some r):
    Cr 68 #[.slice A0_0 x.length c0_0,.slice A1_0 y.length c1_0] W (qq.Post W F r):=by
 have S:=St.start (Own.nil hown)
 unfold qq.f at H
 refine ent 47 rfl rfl rfl (fun a E=>?_)
 refine rr E fun a E=>(sq fun K2 hK2=>rr E fun a E=>(wp_block ?_))
 refine wp_loop_ghost (fun kq6 a w'=>∃(G:NV)(x4:Int),kq6≤k∧Env 47 G a∧At G [(0,.slice A0_0 x.length c0_0),(1,.slice A1_0 y.length c1_0),(5,iv x4)]∧Sm W F w' F []∧qq.l5 kq6 x y x4=some r) k ⟨_,0,Nat.le_refl _,E,.of,S,H⟩ ?_
 rintro kq6 a u8 ⟨G,x4,hkq,E,A,S,H⟩
 obtain _ | k7:=kq6
 exact zz H
 rw [qq.l5_s]at H
 obtain ⟨J,E⟩:=E.at A
 refine sq fun K9 hK9=>rr E fun a E=>(E.ik 14 H (fun c11 E H=>?_) fun c11 E H=>?_)
 refine wp_skip (hK9 _ _ (sq fun K12 hK12=>wp_block (sq fun K13 hK13=>pl0 ?_)))
 obtain ⟨c14,H⟩:=gd H
 have hE_:=E
 obtain ⟨ad15,rfl⟩:=g1_0.addr c14.1 c14.2
 replace E:=hE_
 obtain ⟨cs17,rfl,hc18⟩:=g1_0.el 0 x4 c14.1 c14.2
 refine plc E (.r 0 3<|.x 3 c14<|.c 4 (S.fc hc18 0)<|.nil) (fun a E=>?_)
 obtain ⟨t20,h21,H⟩:=bd H
 refine plq E S en75 (qAJ.calls k7 x (nth 0 y x4) _ _ _ _ _ S.own.sub g0_0 h21) fun u19 S a E=>plc E (.r 6 3 .nil) (fun a E=>pla (t:=104) E S [iv 0,iv 0,iv 0,iv 0,.bool false,.bool false] fun b22 u23 hb22 S a E=>pls E S [iv t20.1.f0,iv t20.1.f1,iv t20.1.f2,iv t20.1.f3,.bool t20.1.f4,.bool t20.1.f5] fun u24 hb22 S a E=>plc E (.r 11 1 .nil) (fun a E=>pld (hK13 _ _ (sq fun K25 hK25=>rr E fun a E=>(E.ibn 27 H (fun c27 E H=>?_) fun c27 E H=>?_)))))
 refine wp_skip (hK25 _ _ (rr E fun a E=>(wp_block ?_)))
 refine wp_loop_ghost (fun kq32 a w'=>∃(G:NV)(x30:Int),kq32≤k7∧Env 47 G a∧At G [(0,.slice A0_0 x.length c0_0),(1,.slice (some ad15) y.length c1_0),(5,iv x4),(6,.pointer (pb b22)),(8,iv x30)]∧Sm W F w' F [box b22 #[iv t20.1.f0,iv t20.1.f1,iv t20.1.f2,iv t20.1.f3,.bool t20.1.f4,.bool t20.1.f5] 104]∧qq.l31 kq32 x y x4 t20 x30=some r) k7 ⟨_,0,Nat.le_refl _,E,.of,S,H⟩ ?_
 rintro kq32 a u34 ⟨G,x30,hkq,E,A,S,H⟩
 obtain _ | k33:=kq32
 exact zz H
 rw [qq.l31_s]at H
 obtain ⟨J,E⟩:=E.at A
 refine sq fun K35 hK35=>rr E fun a E=>(E.ik 30 H (fun c37 E H=>?_) fun c37 E H=>?_)
 refine wp_skip (hK35 _ _ (sq fun K38 hK38=>wp_block (sq fun K39 hK39=>pl0 ?_)))
 obtain ⟨c40,H⟩:=gd H
 obtain ⟨cs42,rfl,hc43⟩:=g1_0.el 0 x30 c40.1 c40.2
 refine plc E (.r 0 3<|.x 3 c40<|.c 4 (S.fc hc43 0)<|.nil) (fun a E=>?_)
 obtain ⟨t45,h46,H⟩:=bd H
 refine plq E S en75 (qAJ.calls k33 x (nth 0 y x30) _ _ _ _ _ S.own.sub g0_0 h46) fun u44 S a E=>plc E (.r 6 3 .nil) (fun a E=>pla (t:=104) E S [iv 0,iv 0,iv 0,iv 0,.bool false,.bool false] fun b47 u48 hb47 S a E=>pls E S [iv t45.1.f0,iv t45.1.f1,iv t45.1.f2,iv t45.1.f3,.bool t45.1.f4,.bool t45.1.f5] fun u49 hb47 S a E=>plc E (.r 11 1 .nil) (fun a E=>pld (hK39 _ _ (rg E (.r 0 1<|.b 1 1 (S.ba 1)<|.r 2 1<|.b 3 1 hb47<|.r 4 1<|.nil) fun a E=>(E.ik 46 H (fun c51 E H=>?_) fun c51 E H=>?_)))))
 refine rr E fun a E=>(wp_ret (qCW (qCV (qCV (qCW (qCW (qCV (qCV (qCW (qCV ?_))))))))))
 replace S:=S.pm [] 2
 obtain rfl:=si H
 exact rt1 E ⟨_,rfl,_,rfl,S⟩
 refine wp_skip ?_
 refine qCX ?_
 refine hK38 _ _ (pl0 (plc E (.r 0 3 .nil) (fun a E=>pld ?_)))
 replace S:=S.tail
 exact qCY ⟨k33,by omega,_,(w64 (x30+1)),by omega,E,.of,S,H⟩
 refine wp_exit ?_
 refine hK12 _ _ (pl0 (plc E (.r 0 3 .nil) (fun a E=>pld ?_)))
 replace S:=S.tail
 exact qCY ⟨k33,by omega,_,(w64 (x4+1)),by omega,E,.of,S,H⟩
 refine rr E fun a E=>(wp_ret (qCV (qCW (qCV (qCV (qCW (qCV ?_)))))))
 replace S:=S.tail
 obtain rfl:=si H
 exact rt1 E ⟨_,rfl,_,rfl,S⟩
 refine wp_exit ?_
 refine hK2 _ _ (rr E fun a E=>(wp_ret ?_))
 obtain rfl:=si H
 exact rt1 E ⟨_,rfl,_,rfl,S⟩
mutual
def qK.l7:Nat→qF→Int→Option Bool
 | 0,_,_=>none
 | k+1,x,x6=>if x6<(x.f6.length:Int) then (if 0≤x6∧x6<(x.f6.length:Int) then (if (nth qC.z x.f6 x6).f0<0 then (qK.j31 k x x6 true) else (qK.j31 k x x6 (decide ((nth qC.z x.f6 x6).f0>x.f0)))) else (none)) else (some ((x.f6.length:Int) == x.f3))
def qK.j31:Nat→qF→Int→Bool→Option Bool
 | 0,_,_,_=>none
 | k+1,x,x6,y30=>if y30=true then (some false) else (qK.l40 k x x6 0)
def qK.l40:Nat→qF→Int→Int→Option Bool
 | 0,_,_,_=>none
 | k+1,x,x6,x39=>if x39<(((nth qC.z x.f6 x6).f1).length:Int) then (if 0≤x39∧x39<(((nth qC.z x.f6 x6).f1).length:Int) then (if (nth qG.z ((nth qC.z x.f6 x6).f1) x39).f0<0 then (qK.j66 k x x6 x39 true) else (if (nth qG.z ((nth qC.z x.f6 x6).f1) x39).f0≥(nth qC.z x.f6 x6).f0 then (qK.j66 k x x6 x39 true) else (if (((nth qG.z ((nth qC.z x.f6 x6).f1) x39).f1).length:Int)<x.f2 then (qK.j66 k x x6 x39 true) else (qK.j66 k x x6 x39 (decide ((((nth qG.z ((nth qC.z x.f6 x6).f1) x39).f1).length:Int)>x.f1)))))) else (none)) else (qK.l7 k x (w64 (x6+1)))
def qK.j66:Nat→qF→Int→Int→Bool→Option Bool
 | 0,_,_,_,_=>none
 | k+1,x,x6,x39,y65=>if y65=true then (some false) else (qK.l76 k x x6 x39 0)
def qK.l76:Nat→qF→Int→Int→Int→Option Bool
 | 0,_,_,_,_=>none
 | k+1,x,x6,x39,x75=>if x75<(((nth qG.z ((nth qC.z x.f6 x6).f1) x39).f1).length:Int) then (if 0≤x75∧x75<(((nth qG.z ((nth qC.z x.f6 x6).f1) x39).f1).length:Int) then (if (nth 0 ((nth qG.z ((nth qC.z x.f6 x6).f1) x39).f1) x75)<1 then (qK.j104 k x x6 x39 x75 true) else (if (nth 0 ((nth qG.z ((nth qC.z x.f6 x6).f1) x39).f1) x75)>999 then (qK.j104 k x x6 x39 x75 true) else (if x75>0 then (if 0≤(w64 (x75 - 1))∧(w64 (x75 - 1))<(((nth qG.z ((nth qC.z x.f6 x6).f1) x39).f1).length:Int) then (qK.j104 k x x6 x39 x75 (decide ((nth 0 ((nth qG.z ((nth qC.z x.f6 x6).f1) x39).f1) (w64 (x75 - 1)))≥(nth 0 ((nth qG.z ((nth qC.z x.f6 x6).f1) x39).f1) x75)))) else (none)) else (qK.j104 k x x6 x39 x75 false)))) else (none)) else (qK.l113 k x x6 x39 0)
def qK.j104:Nat→qF→Int→Int→Int→Bool→Option Bool
 | 0,_,_,_,_,_=>none
 | k+1,x,x6,x39,x75,y103=>if y103=true then (some false) else (qK.l76 k x x6 x39 (w64 (x75+1)))
def qK.l113:Nat→qF→Int→Int→Int→Option Bool
 | 0,_,_,_,_=>none
 | k+1,x,x6,x39,x112=>if x112<x39 then (if 0≤x112∧x112<(((nth qC.z x.f6 x6).f1).length:Int) then (if (nth qG.z ((nth qC.z x.f6 x6).f1) x112).f0≥(nth qG.z ((nth qC.z x.f6 x6).f1) x39).f0 then (qK.j137 k x x6 x39 x112 true) else ((qw.f k ((nth qG.z ((nth qC.z x.f6 x6).f1) x112).f1) ((nth qG.z ((nth qC.z x.f6 x6).f1) x39).f1)).bind fun t134=>(qK.j137 k x x6 x39 x112 t134))) else (none)) else (qK.l40 k x x6 (w64 (x39+1)))
def qK.j137:Nat→qF→Int→Int→Int→Bool→Option Bool
 | 0,_,_,_,_,_=>none
 | k+1,x,x6,x39,x112,y136=>if y136=true then (some false) else (qK.l113 k x x6 x39 (w64 (x112+1)))
end
theorem qK.l7_s k x x6:type_of% (qK.l7.eq_2 x x6 k):=qK.l7.eq_2 x x6 k
theorem qK.j31_s k x x6 y30:type_of% (qK.j31.eq_2 x x6 y30 k):=qK.j31.eq_2 x x6 y30 k
theorem qK.l40_s k x x6 x39:type_of% (qK.l40.eq_2 x x6 x39 k):=qK.l40.eq_2 x x6 x39 k
theorem qK.j66_s k x x6 x39 y65:type_of% (qK.j66.eq_2 x x6 x39 y65 k):=qK.j66.eq_2 x x6 x39 y65 k
theorem qK.l76_s k x x6 x39 x75:type_of% (qK.l76.eq_2 x x6 x39 x75 k):=qK.l76.eq_2 x x6 x39 x75 k
theorem qK.j104_s k x x6 x39 x75 y103:type_of% (qK.j104.eq_2 x x6 x39 x75 y103 k):=qK.j104.eq_2 x x6 x39 x75 y103 k
theorem qK.l113_s k x x6 x39 x112:type_of% (qK.l113.eq_2 x x6 x39 x112 k):=qK.l113.eq_2 x x6 x39 x112 k
theorem qK.j137_s k x x6 x39 x112 y136:type_of% (qK.j137.eq_2 x x6 x39 x112 y136 k):=qK.j137.eq_2 x x6 x39 x112 y136 k
def qK.f(k:Nat)(x:qF):Option Bool:=qK.l7 k x 0
def qK.Post(W F:World)(r:Bool)(v:Value)(w':World):Prop:=∃(F':World),v = .bool r∧Sm W F w' F' []
theorem qK.calls(k:Nat)(x:qF)(A0_4:OA)(c0_4:Nat)(A0_5:OA)(c0_5:Nat)(A0_6:OA)(c0_6:Nat)(r:Bool)(W F:World)(hown:Sub F W)(g0_4:Rd qA.k F A0_4 c0_4 x.f4)(g0_5:Rd qD.k F A0_5 c0_5 x.f5)(g0_6:Rd qC.k F A0_6 c0_6 x.f6)(H:qK.f k x=some r):
    Cr 69 #[.agg #[iv x.f0,iv x.f1,iv x.f2,iv x.f3,.slice A0_4 x.f4.length c0_4,.slice A0_5 x.f5.length c0_5,.slice A0_6 x.f6.length c0_6]] W (qK.Post W F r):=by
 have S:=St.start (Own.nil hown)
 unfold qK.f at H
 refine ent 139 rfl rfl rfl (fun a E=>?_)
 refine sq fun K1 hK1=>pl0 (plx (t:=26) E S [iv x.f0,iv x.f1,iv x.f2,iv x.f3,.slice A0_4 x.f4.length c0_4,.slice A0_5 x.f5.length c0_5,.slice A0_6 x.f6.length c0_6] fun b2 u3 hb2 S a E=>plc E (.r 1 1 .nil) (fun a E=>pld (hK1 _ _ (sq fun K4 hK4=>rr E fun a E=>(wp_block ?_)))))
 refine wp_loop_ghost (fun kq8 a w'=>∃(G:NV)(x6:Int),kq8≤k∧Env 139 G a∧At G [(1,.pointer (pb b2)),(3,iv x6)]∧Sm W F w' F [box b2 #[iv x.f0,iv x.f1,iv x.f2,iv x.f3,.slice A0_4 x.f4.length c0_4,.slice A0_5 x.f5.length c0_5,.slice A0_6 x.f6.length c0_6] 26]∧qK.l7 kq8 x x6=some r) k ⟨_,0,Nat.le_refl _,E,.of,S,H⟩ ?_
 rintro kq8 a u10 ⟨G,x6,hkq,E,A,S,H⟩
 obtain _ | k9:=kq8
 exact zz H
 rw [qK.l7_s]at H
 obtain ⟨J,E⟩:=E.at A
 refine sq fun K11 hK11=>sq fun K12 hK12=>pl0 ?_
 have hb2:=S.ba 0
 refine plc E (.r 0 2<|.b 2 6 hb2<|.r 3 2<|.nil) (fun a E=>pld (hK12 _ _ (E.ik 13 H (fun c13 E H=>?_) fun c13 E H=>?_)))
 refine wp_skip (hK11 _ _ (sq fun K14 hK14=>wp_block (sq fun K15 hK15=>pl0 ?_)))
 obtain ⟨c16,H⟩:=gd H
 have hE_:=E
 obtain ⟨ad17,rfl⟩:=g0_6.addr c16.1 c16.2
 replace E:=hE_
 obtain ⟨cs19,⟨A21,c22,rfl,g23⟩,hc20⟩:=g0_6.el qC.z x6 c16.1 c16.2
 refine plc E (.r 0 1<|.b 1 6 hb2<|.r 2 1<|.x 3 c16<|.cs 4 (S.fcs hc20)<|.nil) (fun a E=>pla (t:=49) E S [iv 0,.slice none 0 0] fun b24 u25 hb24 S a E=>pls E S [iv ((nth qC.z x.f6 x6).f0),.slice A21 (((nth qC.z x.f6 x6).f1).length) c22] fun u26 hb24 S a E=>pld (hK15 _ _ (sq fun K27 hK27=>sq fun K28 hK28=>?_)))
 have J34:∀ kq32,kq32≤k9→∀(G:NV)(y30:Bool)(a:Act)(w':World),Env 139 G a→At G [(1,.pointer (pb b2)),(3,iv x6),(4,.pointer (pb b24)),(30,.bool y30)]→Sm W F w' F [box b24 #[iv ((nth qC.z x.f6 x6).f0),.slice A21 (((nth qC.z x.f6 x6).f1).length) c22] 49,box b2 #[iv x.f0,iv x.f1,iv x.f2,iv x.f3,.slice A0_4 x.f4.length c0_4,.slice A0_5 x.f5.length c0_5,.slice (some ad17) x.f6.length c0_6] 26]→qK.j31 kq32 x x6 y30=some r→K28 a w':=by
  intro kq32 hkq G y30 a u35 E A S H
  obtain _ | k33:=kq32
  exact zz H
  rw [qK.j31_s]at H
  obtain ⟨J,E⟩:=E.at A
  refine hK28 _ _ (E.ib 30 H (fun c36 E H=>?_) fun c36 E H=>?_)
  refine rr E fun a E=>(wp_ret (qCV (qCW (qCV (qCV (qCW (qCV ?_)))))))
  replace S:=S.pm [] 2
  obtain rfl:=si H
  exact rt1 E ⟨_,rfl,_,rfl,S⟩
  refine wp_skip (hK27 _ _ (rr E fun a E=>(wp_block ?_)))
  refine wp_loop_ghost (fun kq41 a w'=>∃(G:NV)(x39:Int),kq41≤k33∧Env 139 G a∧At G [(1,.pointer (pb b2)),(3,iv x6),(4,.pointer (pb b24)),(5,iv x39)]∧Sm W F w' F [box b24 #[iv ((nth qC.z x.f6 x6).f0),.slice A21 (((nth qC.z x.f6 x6).f1).length) c22] 49,box b2 #[iv x.f0,iv x.f1,iv x.f2,iv x.f3,.slice A0_4 x.f4.length c0_4,.slice A0_5 x.f5.length c0_5,.slice (some ad17) x.f6.length c0_6] 26]∧qK.l40 kq41 x x6 x39=some r) k33 ⟨_,0,Nat.le_refl _,E,.of,S,H⟩ ?_
  rintro kq41 a u43 ⟨G,x39,hkq,E,A,S,H⟩
  obtain _ | k42:=kq41
  exact zz H
  rw [qK.l40_s]at H
  obtain ⟨J,E⟩:=E.at A
  refine sq fun K44 hK44=>sq fun K45 hK45=>pl0 ?_
  have hb24:=S.ba 0
  refine plc E (.r 0 2<|.b 2 1 hb24<|.r 3 2<|.nil) (fun a E=>pld (hK45 _ _ (E.ik 35 H (fun c46 E H=>?_) fun c46 E H=>?_)))
  refine wp_skip (hK44 _ _ (sq fun K47 hK47=>wp_block (sq fun K48 hK48=>pl0 ?_)))
  obtain ⟨c49,H⟩:=gd H
  have hE_:=E
  obtain ⟨ad50,rfl⟩:=g23.addr c49.1 c49.2
  replace E:=hE_
  obtain ⟨cs52,⟨A54,c55,rfl,g56⟩,hc53⟩:=g23.el qG.z x39 c49.1 c49.2
  refine plc E (.r 0 1<|.b 1 1 hb24<|.r 2 1<|.x 3 c49<|.cs 4 (S.fcs hc53)<|.nil) (fun a E=>pla (t:=51) E S [iv 0,.slice none 0 0] fun b57 u58 hb57 S a E=>pls E S [iv ((nth qG.z ((nth qC.z x.f6 x6).f1) x39).f0),.slice A54 (((nth qG.z ((nth qC.z x.f6 x6).f1) x39).f1).length) c55] fun u59 hb57 S a E=>pld (hK48 _ _ (sq fun K60 hK60=>sq fun K61 hK61=>?_)))
  have J69:∀ kq67,kq67≤k42→∀(G:NV)(y65:Bool)(a:Act)(w':World),Env 139 G a→At G [(1,.pointer (pb b2)),(3,iv x6),(4,.pointer (pb b24)),(5,iv x39),(6,.pointer (pb b57)),(68,.bool y65)]→Sm W F w' F [box b57 #[iv ((nth qG.z ((nth qC.z x.f6 x6).f1) x39).f0),.slice A54 (((nth qG.z ((nth qC.z x.f6 x6).f1) x39).f1).length) c55] 51,box b24 #[iv ((nth qC.z x.f6 x6).f0),.slice (some ad50) (((nth qC.z x.f6 x6).f1).length) c22] 49,box b2 #[iv x.f0,iv x.f1,iv x.f2,iv x.f3,.slice A0_4 x.f4.length c0_4,.slice A0_5 x.f5.length c0_5,.slice (some ad17) x.f6.length c0_6] 26]→qK.j66 kq67 x x6 x39 y65=some r→K61 a w':=by
   intro kq67 hkq G y65 a u70 E A S H
   obtain _ | k68:=kq67
   exact zz H
   rw [qK.j66_s]at H
   obtain ⟨J,E⟩:=E.at A
   refine hK61 _ _ (E.ib 68 H (fun c71 E H=>?_) fun c71 E H=>?_)
   refine rr E fun a E=>(wp_ret (qCV (qCW (qCV (qCV (qCW (qCW (qCV (qCV (qCW (qCV ?_)))))))))))
   replace S:=S.pm [] 3
   obtain rfl:=si H
   exact rt1 E ⟨_,rfl,_,rfl,S⟩
   refine wp_skip (hK60 _ _ (sq fun K73 hK73=>rr E fun a E=>(wp_block ?_)))
   refine wp_loop_ghost (fun kq77 a w'=>∃(G:NV)(x75:Int),kq77≤k68∧Env 139 G a∧At G [(1,.pointer (pb b2)),(3,iv x6),(4,.pointer (pb b24)),(5,iv x39),(6,.pointer (pb b57)),(7,iv x75)]∧Sm W F w' F [box b57 #[iv ((nth qG.z ((nth qC.z x.f6 x6).f1) x39).f0),.slice A54 (((nth qG.z ((nth qC.z x.f6 x6).f1) x39).f1).length) c55] 51,box b24 #[iv ((nth qC.z x.f6 x6).f0),.slice (some ad50) (((nth qC.z x.f6 x6).f1).length) c22] 49,box b2 #[iv x.f0,iv x.f1,iv x.f2,iv x.f3,.slice A0_4 x.f4.length c0_4,.slice A0_5 x.f5.length c0_5,.slice (some ad17) x.f6.length c0_6] 26]∧qK.l76 kq77 x x6 x39 x75=some r) k68 ⟨_,0,Nat.le_refl _,E,.of,S,H⟩ ?_
   rintro kq77 a u79 ⟨G,x75,hkq,E,A,S,H⟩
   obtain _ | k78:=kq77
   exact zz H
   rw [qK.l76_s]at H
   obtain ⟨J,E⟩:=E.at A
   refine sq fun K80 hK80=>sq fun K81 hK81=>pl0 ?_
   have hb57:=S.ba 0
   refine plc E (.r 0 2<|.b 2 1 hb57<|.r 3 2<|.nil) (fun a E=>pld (hK81 _ _ (E.ik 73 H (fun c82 E H=>?_) fun c82 E H=>?_)))
   refine wp_skip (hK80 _ _ (sq fun K83 hK83=>wp_block (sq fun K84 hK84=>?_)))
   have J107:∀ kq105,kq105≤k78→∀(G:NV)(y103:Bool)(a:Act)(w':World),Env 139 G a→At G [(1,.pointer (pb b2)),(3,iv x6),(4,.pointer (pb b24)),(5,iv x39),(6,.pointer (pb b57)),(7,iv x75),(107,.bool y103)]→Sm W F w' F [box b57 #[iv ((nth qG.z ((nth qC.z x.f6 x6).f1) x39).f0),.slice A54 (((nth qG.z ((nth qC.z x.f6 x6).f1) x39).f1).length) c55] 51,box b24 #[iv ((nth qC.z x.f6 x6).f0),.slice (some ad50) (((nth qC.z x.f6 x6).f1).length) c22] 49,box b2 #[iv x.f0,iv x.f1,iv x.f2,iv x.f3,.slice A0_4 x.f4.length c0_4,.slice A0_5 x.f5.length c0_5,.slice (some ad17) x.f6.length c0_6] 26]→qK.j104 kq105 x x6 x39 x75 y103=some r→K84 a w':=by
    intro kq105 hkq G y103 a u108 E A S H
    obtain _ | k106:=kq105
    exact zz H
    rw [qK.j104_s]at H
    obtain ⟨J,E⟩:=E.at A
    refine hK84 _ _ (E.ib 107 H (fun c109 E H=>?_) fun c109 E H=>?_)
    refine rr E fun a E=>(wp_ret (qCW (qCV (qCV (qCW (qCV (qCW (qCV (qCV (qCW (qCW (qCV (qCV (qCW (qCV ?_)))))))))))))))
    replace S:=S.pm [] 3
    obtain rfl:=si H
    exact rt1 E ⟨_,rfl,_,rfl,S⟩
    refine wp_skip ?_
    refine qCX ?_
    refine hK83 _ _ (pl0 (plc E (.r 0 3 .nil) (fun a E=>pld ?_)))
    exact qCY ⟨k106,by omega,_,(w64 (x75+1)),by omega,E,.of,S,H⟩
   refine drawn 32 ⟨[],[],fun q=>False⟩ mixed rfl (by kernel_rfl) (fun hst=>?_)
   replace S:=S.drew
   have hb57:=S.ba 0
   obtain ⟨c85,H⟩:=gd H
   have hE_:=E
   obtain ⟨ad86,rfl⟩:=g56.addr c85.1 c85.2
   replace E:=hE_
   obtain ⟨cs88,rfl,hc89⟩:=g56.el 0 x75 c85.1 c85.2
   refine mny 25 hst E (.r 0 1<|.b 1 1 hb57<|.r 2 1<|.x 3 c85<|.c 4 (S.fc hc89 0)<|.r 5 2<|.nil) (fun a E=>?_)
   refine E.fk 82 H (fun c90 E H=>?_) fun c90 E H=>?_
   refine mny 0 hst E (.r 7 25 .nil) (fun a E=>?_)
   refine dn ?_
   exact J107 _ (by omega) _ true _ _ E .of S H
   refine mny 17 hst E (.r 7 1<|.b 8 1 hb57<|.r 9 1<|.x 10 c85<|.c 11 (S.fc hc89 0)<|.r 12 3<|.nil) (fun a E=>?_)
   refine E.fk 90 H (fun c94 E H=>?_) fun c94 E H=>?_
   refine mny 0 hst E (.r 15 17 .nil) (fun a E=>?_)
   refine dn ?_
   exact J107 _ (by omega) _ true _ _ E .of S H
   refine mny 14 hst E (.r 15 3 .nil) (fun a E=>?_)
   refine E.fk 93 H (fun c95 E H=>?_) fun c95 E H=>?_
   obtain ⟨c96,H⟩:=gd H
   obtain ⟨cs98,rfl,hc99⟩:=g56.el 0 (w64 (x75 - 1)) c96.1 c96.2
   refine mny 0 hst E (.r 18 1<|.b 19 1 hb57<|.r 20 2<|.x 22 c96<|.c 23 (S.fc hc99 0)<|.r 24 1<|.b 25 1 hb57<|.r 26 1<|.x 27 c85<|.c 28 (S.fc hc89 0)<|.r 29 3<|.nil) (fun a E=>?_)
   refine dn ?_
   exact J107 _ (by omega) _ (decide ((nth 0 ((nth qG.z ((nth qC.z x.f6 x6).f1) x39).f1) (w64 (x75 - 1)))≥(nth 0 ((nth qG.z ((nth qC.z x.f6 x6).f1) x39).f1) x75))) _ _ E .of S H
   refine mny 0 hst E (.r 18 14 .nil) (fun a E=>?_)
   refine dn ?_
   exact J107 _ (by omega) _ false _ _ E .of S H
   refine wp_exit ?_
   refine hK73 _ _ (rr E fun a E=>(wp_block ?_))
   refine wp_loop_ghost (fun kq114 a w'=>∃(G:NV)(x112:Int),kq114≤k78∧Env 139 G a∧At G [(1,.pointer (pb b2)),(3,iv x6),(4,.pointer (pb b24)),(5,iv x39),(6,.pointer (pb b57)),(8,iv x112)]∧Sm W F w' F [box b57 #[iv ((nth qG.z ((nth qC.z x.f6 x6).f1) x39).f0),.slice A54 (((nth qG.z ((nth qC.z x.f6 x6).f1) x39).f1).length) c55] 51,box b24 #[iv ((nth qC.z x.f6 x6).f0),.slice (some ad50) (((nth qC.z x.f6 x6).f1).length) c22] 49,box b2 #[iv x.f0,iv x.f1,iv x.f2,iv x.f3,.slice A0_4 x.f4.length c0_4,.slice A0_5 x.f5.length c0_5,.slice (some ad17) x.f6.length c0_6] 26]∧qK.l113 kq114 x x6 x39 x112=some r) k78 ⟨_,0,Nat.le_refl _,E,.of,S,H⟩ ?_
   rintro kq114 a u116 ⟨G,x112,hkq,E,A,S,H⟩
   obtain _ | k115:=kq114
   exact zz H
   rw [qK.l113_s]at H
   obtain ⟨J,E⟩:=E.at A
   refine sq fun K117 hK117=>rr E fun a E=>(E.ik 110 H (fun c119 E H=>?_) fun c119 E H=>?_)
   refine wp_skip (hK117 _ _ (sq fun K120 hK120=>wp_block (sq fun K121 hK121=>?_)))
   have J140:∀ kq138,kq138≤k115→∀(G:NV)(y136:Bool)(a:Act)(w':World),Env 139 G a→At G [(1,.pointer (pb b2)),(3,iv x6),(4,.pointer (pb b24)),(5,iv x39),(6,.pointer (pb b57)),(8,iv x112),(132,.bool y136)]→Sm W F w' F [box b57 #[iv ((nth qG.z ((nth qC.z x.f6 x6).f1) x39).f0),.slice A54 (((nth qG.z ((nth qC.z x.f6 x6).f1) x39).f1).length) c55] 51,box b24 #[iv ((nth qC.z x.f6 x6).f0),.slice (some ad50) (((nth qC.z x.f6 x6).f1).length) c22] 49,box b2 #[iv x.f0,iv x.f1,iv x.f2,iv x.f3,.slice A0_4 x.f4.length c0_4,.slice A0_5 x.f5.length c0_5,.slice (some ad17) x.f6.length c0_6] 26]→qK.j137 kq138 x x6 x39 x112 y136=some r→K121 a w':=by
    intro kq138 hkq G y136 a u141 E A S H
    obtain _ | k139:=kq138
    exact zz H
    rw [qK.j137_s]at H
    obtain ⟨J,E⟩:=E.at A
    refine hK121 _ _ (E.ib 132 H (fun c142 E H=>?_) fun c142 E H=>?_)
    refine rr E fun a E=>(wp_ret (qCW (qCV (qCV (qCW (qCW (qCV (qCV (qCW (qCW (qCV (qCV (qCW (qCV ?_))))))))))))))
    replace S:=S.pm [] 3
    obtain rfl:=si H
    exact rt1 E ⟨_,rfl,_,rfl,S⟩
    refine wp_skip ?_
    refine qCX ?_
    refine hK120 _ _ (pl0 (plc E (.r 0 3 .nil) (fun a E=>pld ?_)))
    exact qCY ⟨k139,by omega,_,(w64 (x112+1)),by omega,E,.of,S,H⟩
   refine drawn 20 ⟨[],[],fun q=>False⟩ mixed rfl (by kernel_rfl) (fun hst=>?_)
   replace S:=S.drew
   have hb24:=S.ba 1
   obtain ⟨c122,H⟩:=gd H
   obtain ⟨cs124,⟨A126,c127,rfl,g128⟩,hc125⟩:=g23.el qG.z x112 c122.1 c122.2
   have hb57:=S.ba 0
   refine mny 10 hst E (.r 0 1<|.b 1 1 hb24<|.r 2 1<|.x 3 c122<|.r 4 1<|.c 5 (S.fc hc125 0)<|.r 6 1<|.b 7 0 hb57<|.r 8 2<|.nil) (fun a E=>?_)
   refine E.fk 122 H (fun c129 E H=>?_) fun c129 E H=>?_
   refine mny 0 hst E (.r 10 10 .nil) (fun a E=>?_)
   refine dn ?_
   exact J140 _ (by omega) _ true _ _ E .of S H
   refine mny 2 hst E (.r 10 1<|.b 11 1 hb24<|.r 12 1<|.x 13 c122<|.r 14 1<|.c 15 (S.fc hc125 1)<|.r 16 1<|.b 17 1 hb57<|.nil) (fun a E=>?_)
   obtain ⟨t134,h135,H⟩:=bd H
   refine on1 18 E (.cl en21 (qw.calls k115 ((nth qG.z ((nth qC.z x.f6 x6).f1) x112).f1) ((nth qG.z ((nth qC.z x.f6 x6).f1) x39).f1) _ _ _ _ _ _ _ S.own.sub g128 g56 h135)) ?_
   rintro _ u133 a ⟨_,rfl,hC⟩ E
   refine ⟨.of hC.agr,?_⟩
   replace S:=S.lent hC
   refine mny 0 hst E (.r 19 1 .nil) (fun a E=>?_)
   refine dn ?_
   exact J140 _ (by omega) _ t134 _ _ E .of S H
   refine wp_exit ?_
   refine hK47 _ _ (pl0 (plc E (.r 0 3 .nil) (fun a E=>pld ?_)))
   replace S:=S.tail
   exact qCY ⟨k115,by omega,_,(w64 (x39+1)),by omega,E,.of,S,H⟩
  refine pl0 (plc E (.r 0 1<|.b 1 0 hb57<|.r 2 2<|.nil) (fun a E=>E.fk 46 H (fun c62 E H=>?_) fun c62 E H=>?_))
  refine plc E (.r 4 22 .nil) (fun a E=>pld ?_)
  exact J69 _ (by omega) _ true _ _ E .of S H
  refine plc E (.r 4 1<|.b 5 0 hb57<|.r 6 1<|.b 7 0 (S.ba 1)<|.r 8 3<|.nil) (fun a E=>E.fk 53 H (fun c63 E H=>?_) fun c63 E H=>?_)
  refine plc E (.r 11 15 .nil) (fun a E=>pld ?_)
  exact J69 _ (by omega) _ true _ _ E .of S H
  have hb2:=S.ba 2
  refine plc E (.r 11 1<|.b 12 1 hb57<|.r 13 2<|.b 15 2 hb2<|.r 16 3<|.nil) (fun a E=>E.fk 61 H (fun c64 E H=>?_) fun c64 E H=>?_)
  refine plc E (.r 19 7 .nil) (fun a E=>pld ?_)
  exact J69 _ (by omega) _ true _ _ E .of S H
  refine plc E (.r 19 1<|.b 20 1 hb57<|.r 21 2<|.b 23 1 hb2<|.r 24 2<|.nil) (fun a E=>pld ?_)
  exact J69 _ (by omega) _ (decide ((((nth qG.z ((nth qC.z x.f6 x6).f1) x39).f1).length:Int)>x.f1)) _ _ E .of S H
  refine wp_exit ?_
  refine hK14 _ _ (pl0 (plc E (.r 0 3 .nil) (fun a E=>pld ?_)))
  replace S:=S.tail
  exact qCY ⟨k42,by omega,_,(w64 (x6+1)),by omega,E,.of,S,H⟩
 refine pl0 (plc E (.r 0 1<|.b 1 0 hb24<|.r 2 2<|.nil) (fun a E=>E.fk 24 H (fun c29 E H=>?_) fun c29 E H=>?_))
 refine plc E (.r 4 6 .nil) (fun a E=>pld ?_)
 exact J34 _ (by omega) _ true _ _ E .of S H
 refine plc E (.r 4 1<|.b 5 0 hb24<|.r 6 1<|.b 7 0 (S.ba 1)<|.r 8 2<|.nil) (fun a E=>pld ?_)
 exact J34 _ (by omega) _ (decide ((nth qC.z x.f6 x6).f0>x.f0)) _ _ E .of S H
 refine wp_exit ?_
 refine hK4 _ _ (rg E (.r 0 1<|.b 1 6 hb2<|.r 2 2<|.b 4 3 hb2<|.r 5 2<|.nil) fun a E=>(wp_ret ?_))
 replace S:=S.tail
 obtain rfl:=si H
 exact rt1 E ⟨_,rfl,_,rfl,S⟩
mutual
def qf.j18:Nat→qF→Bool→Option Bool
 | 0,_,_=>none
 | k+1,x,y17=>if y17=true then (some false) else (qf.l28 k x 0)
def qf.l28:Nat→qF→Int→Option Bool
 | 0,_,_=>none
 | k+1,x,x27=>if x27<(x.f5.length:Int) then (if 0≤x27∧x27<(x.f5.length:Int) then (if (nth qD.z x.f5 x27).f0<0 then (qf.j71 k x x27 true) else (if (nth qD.z x.f5 x27).f0≥x.f3 then (qf.j71 k x x27 true) else (if x27>0 then (if 0≤(w64 (x27 - 1))∧(w64 (x27 - 1))<(x.f5.length:Int) then (if (nth qD.z x.f5 (w64 (x27 - 1))).f0≥(nth qD.z x.f5 x27).f0 then (qf.j71 k x x27 true) else (if (((nth qD.z x.f5 x27).f1).length:Int)<1 then (qf.j71 k x x27 true) else (if (((nth qD.z x.f5 x27).f1).length:Int)>x.f1 then (qf.j71 k x x27 true) else ((qq.f k x.f4 ((nth qD.z x.f5 x27).f1)).bind fun t63=>(qf.j71 k x x27 (!t63)))))) else (none)) else (if (((nth qD.z x.f5 x27).f1).length:Int)<1 then (qf.j71 k x x27 true) else (if (((nth qD.z x.f5 x27).f1).length:Int)>x.f1 then (qf.j71 k x x27 true) else ((qq.f k x.f4 ((nth qD.z x.f5 x27).f1)).bind fun t68=>(qf.j71 k x x27 (!t68)))))))) else (none)) else ((qK.f k x).bind fun t80=>(some t80))
def qf.j71:Nat→qF→Int→Bool→Option Bool
 | 0,_,_,_=>none
 | k+1,x,x27,y70=>if y70=true then (some false) else (qf.l28 k x (w64 (x27+1)))
end
theorem qf.j18_s k x y17:type_of% (qf.j18.eq_2 x y17 k):=qf.j18.eq_2 x y17 k
theorem qf.l28_s k x x27:type_of% (qf.l28.eq_2 x x27 k):=qf.l28.eq_2 x x27 k
theorem qf.j71_s k x x27 y70:type_of% (qf.j71.eq_2 x x27 y70 k):=qf.j71.eq_2 x x27 y70 k
def qf.f(k:Nat)(x:qF):Option Bool:=if x.f0<0 then (qf.j18 k x true) else (if x.f0≥2147483648 then (qf.j18 k x true) else (if x.f1<1 then (qf.j18 k x true) else (if x.f1>3 then (qf.j18 k x true) else (if x.f2<1 then (qf.j18 k x true) else (if x.f2>x.f1 then (qf.j18 k x true) else (if x.f3<1 then (qf.j18 k x true) else (if x.f3>8 then (qf.j18 k x true) else ((qo.f k x.f4).bind fun t15=>(qf.j18 k x (!t15))))))))))
def qf.Post(W F:World)(r:Bool)(v:Value)(w':World):Prop:=∃(F':World),v = .bool r∧Sm W F w' F' []
theorem qf.calls(k:Nat)(x:qF)(A0_4:OA)(c0_4:Nat)(A0_5:OA)(c0_5:Nat)(A0_6:OA)(c0_6:Nat)(r:Bool)(W F:World)(hown:Sub F W)(g0_4:Rd qA.k F A0_4 c0_4 x.f4)(g0_5:Rd qD.k F A0_5 c0_5 x.f5)(g0_6:Rd qC.k F A0_6 c0_6 x.f6)(H:qf.f k x=some r):
    Cr 19 #[.agg #[iv x.f0,iv x.f1,iv x.f2,iv x.f3,.slice A0_4 x.f4.length c0_4,.slice A0_5 x.f5.length c0_5,.slice A0_6 x.f6.length c0_6]] W (qf.Post W F r):=by
 have S:=St.start (Own.nil hown)
 unfold qf.f at H
 refine ent 113 rfl rfl rfl (fun a E=>?_)
 refine sq fun K1 hK1=>pl0 (plx (t:=26) E S [iv x.f0,iv x.f1,iv x.f2,iv x.f3,.slice A0_4 x.f4.length c0_4,.slice A0_5 x.f5.length c0_5,.slice A0_6 x.f6.length c0_6] fun b2 u3 hb2 S a E=>plc E (.r 1 1 .nil) (fun a E=>pld (hK1 _ _ (sq fun K4 hK4=>sq fun K5 hK5=>?_))))
 have J21:∀ kq19,kq19≤k→∀(G:NV)(y17:Bool)(a:Act)(w':World),Env 113 G a→At G [(1,.pointer (pb b2)),(50,.bool y17)]→Sm W F w' F [box b2 #[iv x.f0,iv x.f1,iv x.f2,iv x.f3,.slice A0_4 x.f4.length c0_4,.slice A0_5 x.f5.length c0_5,.slice A0_6 x.f6.length c0_6] 26]→qf.j18 kq19 x y17=some r→K5 a w':=by
  intro kq19 hkq G y17 a u22 E A S H
  obtain _ | k20:=kq19
  exact zz H
  rw [qf.j18_s]at H
  obtain ⟨J,E⟩:=E.at A
  refine hK5 _ _ (E.ib 50 H (fun c23 E H=>?_) fun c23 E H=>?_)
  refine rr E fun a E=>(wp_ret (qCV ?_))
  replace S:=S.tail
  obtain rfl:=si H
  exact rt1 E ⟨_,rfl,_,rfl,S⟩
  refine wp_skip (hK4 _ _ (sq fun K25 hK25=>rr E fun a E=>(wp_block ?_)))
  refine wp_loop_ghost (fun kq29 a w'=>∃(G:NV)(x27:Int),kq29≤k20∧Env 113 G a∧At G [(1,.pointer (pb b2)),(3,iv x27)]∧Sm W F w' F [box b2 #[iv x.f0,iv x.f1,iv x.f2,iv x.f3,.slice A0_4 x.f4.length c0_4,.slice A0_5 x.f5.length c0_5,.slice A0_6 x.f6.length c0_6] 26]∧qf.l28 kq29 x x27=some r) k20 ⟨_,0,Nat.le_refl _,E,.of,S,H⟩ ?_
  rintro kq29 a u31 ⟨G,x27,hkq,E,A,S,H⟩
  obtain _ | k30:=kq29
  exact zz H
  rw [qf.l28_s]at H
  obtain ⟨J,E⟩:=E.at A
  refine sq fun K32 hK32=>sq fun K33 hK33=>pl0 ?_
  have hb2:=S.ba 0
  refine plc E (.r 0 2<|.b 2 5 hb2<|.r 3 2<|.nil) (fun a E=>pld (hK33 _ _ (E.ik 55 H (fun c34 E H=>?_) fun c34 E H=>?_)))
  refine wp_skip (hK32 _ _ (sq fun K35 hK35=>wp_block (sq fun K36 hK36=>pl0 ?_)))
  obtain ⟨c37,H⟩:=gd H
  have hE_:=E
  obtain ⟨ad38,rfl⟩:=g0_5.addr c37.1 c37.2
  replace E:=hE_
  obtain ⟨cs40,⟨A42,c43,rfl,g44⟩,hc41⟩:=g0_5.el qD.z x27 c37.1 c37.2
  refine plc E (.r 0 1<|.b 1 5 hb2<|.r 2 1<|.x 3 c37<|.cs 4 (S.fcs hc41)<|.nil) (fun a E=>pla (t:=97) E S [iv 0,.slice none 0 0] fun b45 u46 hb45 S a E=>pls E S [iv ((nth qD.z x.f5 x27).f0),.slice A42 (((nth qD.z x.f5 x27).f1).length) c43] fun u47 hb45 S a E=>pld (hK36 _ _ (sq fun K48 hK48=>?_)))
  have J74:∀ kq72,kq72≤k30→∀(G:NV)(y70:Bool)(a:Act)(w':World),Env 113 G a→At G [(1,.pointer (pb b2)),(3,iv x27),(110,.bool y70)]→Sm W F w' F [box b45 #[iv ((nth qD.z x.f5 x27).f0),.slice A42 (((nth qD.z x.f5 x27).f1).length) c43] 97,box b2 #[iv x.f0,iv x.f1,iv x.f2,iv x.f3,.slice A0_4 x.f4.length c0_4,.slice (some ad38) x.f5.length c0_5,.slice A0_6 x.f6.length c0_6] 26]→qf.j71 kq72 x x27 y70=some r→K48 a w':=by
   intro kq72 hkq G y70 a u75 E A S H
   obtain _ | k73:=kq72
   exact zz H
   rw [qf.j71_s]at H
   obtain ⟨J,E⟩:=E.at A
   refine hK48 _ _ (E.ib 110 H (fun c76 E H=>?_) fun c76 E H=>?_)
   refine rr E fun a E=>(wp_ret (qCW (qCV (qCV (qCW (qCV ?_))))))
   replace S:=S.pm [] 2
   obtain rfl:=si H
   exact rt1 E ⟨_,rfl,_,rfl,S⟩
   refine wp_skip ?_
   refine qCX ?_
   refine hK35 _ _ (pl0 (plc E (.r 0 3 .nil) (fun a E=>pld ?_)))
   replace S:=S.tail
   exact qCY ⟨k73,by omega,_,(w64 (x27+1)),by omega,E,.of,S,H⟩
  refine drawn 48 ⟨[],[],fun q=>False⟩ mixed rfl (by kernel_rfl) (fun hst=>?_)
  replace S:=S.drew
  have hb45:=S.ba 0
  refine mny 44 hst E (.r 0 1<|.b 1 0 hb45<|.r 2 2<|.nil) (fun a E=>?_)
  refine E.fk 66 H (fun c49 E H=>?_) fun c49 E H=>?_
  refine mny 0 hst E (.r 4 44 .nil) (fun a E=>?_)
  refine dn ?_
  exact J74 _ (by omega) _ true _ _ E .of S H
  have hb2:=S.ba 1
  refine mny 37 hst E (.r 4 1<|.b 5 0 hb45<|.r 6 1<|.b 7 3 hb2<|.r 8 3<|.nil) (fun a E=>?_)
  refine E.fk 73 H (fun c50 E H=>?_) fun c50 E H=>?_
  refine mny 0 hst E (.r 11 37 .nil) (fun a E=>?_)
  refine dn ?_
  exact J74 _ (by omega) _ true _ _ E .of S H
  refine mny 34 hst E (.r 11 3 .nil) (fun a E=>?_)
  refine E.fk 76 H (fun c51 E H=>?_) fun c51 E H=>?_
  obtain ⟨c52,H⟩:=gd H
  obtain ⟨cs54,⟨A56,c57,rfl,g58⟩,hc55⟩:=g0_5.el qD.z (w64 (x27 - 1)) c52.1 c52.2
  refine mny 21 hst E (.r 14 1<|.b 15 5 hb2<|.r 16 2<|.x 18 c52<|.r 19 1<|.c 20 (S.fc hc55 0)<|.r 21 1<|.b 22 0 hb45<|.r 23 4<|.nil) (fun a E=>?_)
  refine E.fk 89 H (fun c59 E H=>?_) fun c59 E H=>?_
  refine mny 0 hst E (.r 27 21 .nil) (fun a E=>?_)
  refine dn ?_
  exact J74 _ (by omega) _ true _ _ E .of S H
  refine mny 15 hst E (.r 27 1<|.b 28 1 hb45<|.r 29 4<|.nil) (fun a E=>?_)
  refine E.fk 95 H (fun c60 E H=>?_) fun c60 E H=>?_
  refine mny 0 hst E (.r 33 15 .nil) (fun a E=>?_)
  refine dn ?_
  exact J74 _ (by omega) _ true _ _ E .of S H
  refine mny 7 hst E (.r 33 1<|.b 34 1 hb45<|.r 35 2<|.b 37 1 hb2<|.r 38 3<|.nil) (fun a E=>?_)
  refine E.fk 103 H (fun c61 E H=>?_) fun c61 E H=>?_
  refine mny 0 hst E (.r 41 7 .nil) (fun a E=>?_)
  refine dn ?_
  exact J74 _ (by omega) _ true _ _ E .of S H
  refine mny 3 hst E (.r 41 1<|.b 42 4 hb2<|.r 43 1<|.b 44 1 hb45<|.nil) (fun a E=>?_)
  obtain ⟨t63,h64,H⟩:=bd H
  refine on1 45 E (.cl en68 (qq.calls k30 x.f4 ((nth qD.z x.f5 x27).f1) _ _ _ _ _ _ _ S.own.sub g0_4 g44 h64)) ?_
  rintro _ u62 a ⟨_,rfl,hC⟩ E
  refine ⟨.of hC.agr,?_⟩
  replace S:=S.lent hC
  refine mny 0 hst E (.r 46 2 .nil) (fun a E=>?_)
  refine dn ?_
  exact J74 _ (by omega) _ (!t63) _ _ E .of S H
  refine mny 15 hst E (.r 14 14<|.b 28 1 hb45<|.r 29 4<|.nil) (fun a E=>?_)
  refine E.fk 95 H (fun c65 E H=>?_) fun c65 E H=>?_
  refine mny 0 hst E (.r 33 15 .nil) (fun a E=>?_)
  refine dn ?_
  exact J74 _ (by omega) _ true _ _ E .of S H
  refine mny 7 hst E (.r 33 1<|.b 34 1 hb45<|.r 35 2<|.b 37 1 hb2<|.r 38 3<|.nil) (fun a E=>?_)
  refine E.fk 103 H (fun c66 E H=>?_) fun c66 E H=>?_
  refine mny 0 hst E (.r 41 7 .nil) (fun a E=>?_)
  refine dn ?_
  exact J74 _ (by omega) _ true _ _ E .of S H
  refine mny 3 hst E (.r 41 1<|.b 42 4 hb2<|.r 43 1<|.b 44 1 hb45<|.nil) (fun a E=>?_)
  obtain ⟨t68,h69,H⟩:=bd H
  refine on1 45 E (.cl en68 (qq.calls k30 x.f4 ((nth qD.z x.f5 x27).f1) _ _ _ _ _ _ _ S.own.sub g0_4 g44 h69)) ?_
  rintro _ u67 a ⟨_,rfl,hC⟩ E
  refine ⟨.of hC.agr,?_⟩
  replace S:=S.lent hC
  refine mny 0 hst E (.r 46 2 .nil) (fun a E=>?_)
  refine dn ?_
  exact J74 _ (by omega) _ (!t68) _ _ E .of S H
  refine wp_exit ?_
  refine hK25 _ _ (sq fun K78 hK78=>pl0 (plc E (.bn 0 0 7 hb2 .nil) (fun a E=>?_)))
  obtain ⟨t80,h81,H⟩:=bd H
  refine plq E S en69 (qK.calls k30 x _ _ _ _ _ _ _ _ _ S.own.sub g0_4 g0_5 g0_6 h81) fun u79 S a E=>plc E (.r 2 1 .nil) (fun a E=>pld (hK78 _ _ (wp_ret ?_)))
  replace S:=S.tail
  obtain rfl:=si H
  exact rt1 E ⟨_,rfl,_,rfl,S⟩
 refine pl0 (plc E (.r 0 1<|.b 1 0 hb2<|.r 2 2<|.nil) (fun a E=>E.fk 8 H (fun c6 E H=>?_) fun c6 E H=>?_))
 refine plc E (.r 4 42 .nil) (fun a E=>pld ?_)
 exact J21 _ (by omega) _ true _ _ E .of S H
 refine plc E (.r 4 1<|.b 5 0 hb2<|.r 6 3<|.nil) (fun a E=>E.fk 13 H (fun c7 E H=>?_) fun c7 E H=>?_)
 refine plc E (.r 9 37 .nil) (fun a E=>pld ?_)
 exact J21 _ (by omega) _ true _ _ E .of S H
 refine plc E (.r 9 1<|.b 10 1 hb2<|.r 11 3<|.nil) (fun a E=>E.fk 18 H (fun c8 E H=>?_) fun c8 E H=>?_)
 refine plc E (.r 14 32 .nil) (fun a E=>pld ?_)
 exact J21 _ (by omega) _ true _ _ E .of S H
 refine plc E (.r 14 1<|.b 15 1 hb2<|.r 16 3<|.nil) (fun a E=>E.fk 23 H (fun c9 E H=>?_) fun c9 E H=>?_)
 refine plc E (.r 19 27 .nil) (fun a E=>pld ?_)
 exact J21 _ (by omega) _ true _ _ E .of S H
 refine plc E (.r 19 1<|.b 20 2 hb2<|.r 21 3<|.nil) (fun a E=>E.fk 28 H (fun c10 E H=>?_) fun c10 E H=>?_)
 refine plc E (.r 24 22 .nil) (fun a E=>pld ?_)
 exact J21 _ (by omega) _ true _ _ E .of S H
 refine plc E (.r 24 1<|.b 25 2 hb2<|.r 26 1<|.b 27 1 hb2<|.r 28 3<|.nil) (fun a E=>E.fk 35 H (fun c11 E H=>?_) fun c11 E H=>?_)
 refine plc E (.r 31 15 .nil) (fun a E=>pld ?_)
 exact J21 _ (by omega) _ true _ _ E .of S H
 refine plc E (.r 31 1<|.b 32 3 hb2<|.r 33 3<|.nil) (fun a E=>E.fk 40 H (fun c12 E H=>?_) fun c12 E H=>?_)
 refine plc E (.r 36 10 .nil) (fun a E=>pld ?_)
 exact J21 _ (by omega) _ true _ _ E .of S H
 refine plc E (.r 36 1<|.b 37 3 hb2<|.r 38 3<|.nil) (fun a E=>E.fk 45 H (fun c13 E H=>?_) fun c13 E H=>?_)
 refine plc E (.r 41 5 .nil) (fun a E=>pld ?_)
 exact J21 _ (by omega) _ true _ _ E .of S H
 refine plc E (.r 41 1<|.b 42 4 hb2<|.nil) (fun a E=>?_)
 obtain ⟨t15,h16,H⟩:=bd H
 refine plq E S en67 (qo.calls k x.f4 _ _ _ _ _ S.own.sub g0_4 h16) fun u14 S a E=>plc E (.r 44 2 .nil) (fun a E=>pld ?_)
 exact J21 _ (by omega) _ (!t15) _ _ E .of S H
mutual
def qW.l7:Nat→qF→Int→Option Bool
 | 0,_,_=>none
 | k+1,x,x6=>if x6<(x.f5.length:Int) then (qW.j15 k x x6 (decide (x6<20))) else (qW.j15 k x x6 false)
def qW.j15:Nat→qF→Int→Bool→Option Bool
 | 0,_,_,_=>none
 | k+1,x,x6,y14=>if y14=true then (if 0≤x6∧x6<(x.f5.length:Int) then (if (((nth qD.z x.f5 x6).f1).length:Int)>20 then (some false) else (qW.l7 k x (w64 (x6+1)))) else (none)) else (qW.l36 k x 0)
def qW.l36:Nat→qF→Int→Option Bool
 | 0,_,_=>none
 | k+1,x,x35=>if x35<(x.f6.length:Int) then (qW.j44 k x x35 (decide (x35<20))) else (qW.j44 k x x35 false)
def qW.j44:Nat→qF→Int→Bool→Option Bool
 | 0,_,_,_=>none
 | k+1,x,x35,y43=>if y43=true then (if 0≤x35∧x35<(x.f6.length:Int) then (if (((nth qC.z x.f6 x35).f1).length:Int)>20 then (some false) else (qW.l65 k x x35 0)) else (none)) else (if (x.f4.length:Int)≤30 then (if (x.f5.length:Int)≤20 then (some (decide ((x.f6.length:Int)≤20))) else (some false)) else (some false))
def qW.l65:Nat→qF→Int→Int→Option Bool
 | 0,_,_,_=>none
 | k+1,x,x35,x64=>if x64<(((nth qC.z x.f6 x35).f1).length:Int) then (if 0≤x64∧x64<(((nth qC.z x.f6 x35).f1).length:Int) then (if (((nth qG.z ((nth qC.z x.f6 x35).f1) x64).f1).length:Int)>20 then (some false) else (qW.l65 k x x35 (w64 (x64+1)))) else (none)) else (qW.l36 k x (w64 (x35+1)))
end
theorem qW.l7_s k x x6:type_of% (qW.l7.eq_2 x x6 k):=qW.l7.eq_2 x x6 k
theorem qW.j15_s k x x6 y14:type_of% (qW.j15.eq_2 x x6 y14 k):=qW.j15.eq_2 x x6 y14 k
theorem qW.l36_s k x x35:type_of% (qW.l36.eq_2 x x35 k):=qW.l36.eq_2 x x35 k
theorem qW.j44_s k x x35 y43:type_of% (qW.j44.eq_2 x x35 y43 k):=qW.j44.eq_2 x x35 y43 k
theorem qW.l65_s k x x35 x64:type_of% (qW.l65.eq_2 x x35 x64 k):=qW.l65.eq_2 x x35 x64 k
def qW.f(k:Nat)(x:qF):Option Bool:=qW.l7 k x 0
def qW.Post(W F:World)(r:Bool)(v:Value)(w':World):Prop:=∃(F':World),v = .bool r∧Sm W F w' F' []
theorem qW.calls(k:Nat)(x:qF)(A0_4:OA)(c0_4:Nat)(A0_5:OA)(c0_5:Nat)(A0_6:OA)(c0_6:Nat)(r:Bool)(W F:World)(hown:Sub F W)(g0_4:Rd qA.k F A0_4 c0_4 x.f4)(g0_5:Rd qD.k F A0_5 c0_5 x.f5)(g0_6:Rd qC.k F A0_6 c0_6 x.f6)(H:qW.f k x=some r):
    Cr 20 #[.agg #[iv x.f0,iv x.f1,iv x.f2,iv x.f3,.slice A0_4 x.f4.length c0_4,.slice A0_5 x.f5.length c0_5,.slice A0_6 x.f6.length c0_6]] W (qW.Post W F r):=by
 have S:=St.start (Own.nil hown)
 unfold qW.f at H
 refine ent 83 rfl rfl rfl (fun a E=>?_)
 refine sq fun K1 hK1=>pl0 (plx (t:=26) E S [iv x.f0,iv x.f1,iv x.f2,iv x.f3,.slice A0_4 x.f4.length c0_4,.slice A0_5 x.f5.length c0_5,.slice A0_6 x.f6.length c0_6] fun b2 u3 hb2 S a E=>plc E (.r 1 1 .nil) (fun a E=>pld (hK1 _ _ (sq fun K4 hK4=>rr E fun a E=>(wp_block ?_)))))
 refine wp_loop_ghost (fun kq8 a w'=>∃(G:NV)(x6:Int),kq8≤k∧Env 83 G a∧At G [(1,.pointer (pb b2)),(3,iv x6)]∧Sm W F w' F [box b2 #[iv x.f0,iv x.f1,iv x.f2,iv x.f3,.slice A0_4 x.f4.length c0_4,.slice A0_5 x.f5.length c0_5,.slice A0_6 x.f6.length c0_6] 26]∧qW.l7 kq8 x x6=some r) k ⟨_,0,Nat.le_refl _,E,.of,S,H⟩ ?_
 rintro kq8 a u10 ⟨G,x6,hkq,E,A,S,H⟩
 obtain _ | k9:=kq8
 exact zz H
 rw [qW.l7_s]at H
 obtain ⟨J,E⟩:=E.at A
 refine sq fun K11 hK11=>sq fun K12 hK12=>?_
 have J18:∀ kq16,kq16≤k9→∀(G:NV)(y14:Bool)(a:Act)(w':World),Env 83 G a→At G [(1,.pointer (pb b2)),(3,iv x6),(14,.bool y14)]→Sm W F w' F [box b2 #[iv x.f0,iv x.f1,iv x.f2,iv x.f3,.slice A0_4 x.f4.length c0_4,.slice A0_5 x.f5.length c0_5,.slice A0_6 x.f6.length c0_6] 26]→qW.j15 kq16 x x6 y14=some r→K12 a w':=by
  intro kq16 hkq G y14 a u19 E A S H
  obtain _ | k17:=kq16
  exact zz H
  rw [qW.j15_s]at H
  obtain ⟨J,E⟩:=E.at A
  refine hK12 _ _ (E.ib 14 H (fun c20 E H=>?_) fun c20 E H=>?_)
  refine wp_skip (hK11 _ _ (sq fun K21 hK21=>wp_block (sq fun K22 hK22=>pl0 ?_)))
  have hb2:=S.ba 0
  obtain ⟨c23,H⟩:=gd H
  have hE_:=E
  obtain ⟨ad24,rfl⟩:=g0_5.addr c23.1 c23.2
  replace E:=hE_
  obtain ⟨cs26,⟨A28,c29,rfl,g30⟩,hc27⟩:=g0_5.el qD.z x6 c23.1 c23.2
  refine plc E (.r 0 1<|.b 1 5 hb2<|.r 2 1<|.x 3 c23<|.r 4 1<|.c 5 (S.fc hc27 1)<|.r 6 2<|.nil) (fun a E=>pld (hK22 _ _ (E.ik 24 H (fun c31 E H=>?_) fun c31 E H=>?_)))
  refine rr E fun a E=>(wp_ret (qCW (qCV (qCV (qCW (qCV ?_))))))
  replace S:=S.tail
  obtain rfl:=si H
  exact rt1 E ⟨_,rfl,_,rfl,S⟩
  refine wp_skip ?_
  refine qCX ?_
  refine hK21 _ _ (pl0 (plc E (.r 0 3 .nil) (fun a E=>pld ?_)))
  exact qCY ⟨k17,by omega,_,(w64 (x6+1)),by omega,E,.of,S,H⟩
  refine wp_exit ?_
  refine hK4 _ _ (sq fun K33 hK33=>rr E fun a E=>(wp_block ?_))
  refine wp_loop_ghost (fun kq37 a w'=>∃(G:NV)(x35:Int),kq37≤k17∧Env 83 G a∧At G [(1,.pointer (pb b2)),(4,iv x35)]∧Sm W F w' F [box b2 #[iv x.f0,iv x.f1,iv x.f2,iv x.f3,.slice A0_4 x.f4.length c0_4,.slice A0_5 x.f5.length c0_5,.slice A0_6 x.f6.length c0_6] 26]∧qW.l36 kq37 x x35=some r) k17 ⟨_,0,Nat.le_refl _,E,.of,S,H⟩ ?_
  rintro kq37 a u39 ⟨G,x35,hkq,E,A,S,H⟩
  obtain _ | k38:=kq37
  exact zz H
  rw [qW.l36_s]at H
  obtain ⟨J,E⟩:=E.at A
  refine sq fun K40 hK40=>sq fun K41 hK41=>?_
  have J47:∀ kq45,kq45≤k38→∀(G:NV)(y43:Bool)(a:Act)(w':World),Env 83 G a→At G [(1,.pointer (pb b2)),(4,iv x35),(33,.bool y43)]→Sm W F w' F [box b2 #[iv x.f0,iv x.f1,iv x.f2,iv x.f3,.slice A0_4 x.f4.length c0_4,.slice A0_5 x.f5.length c0_5,.slice A0_6 x.f6.length c0_6] 26]→qW.j44 kq45 x x35 y43=some r→K41 a w':=by
   intro kq45 hkq G y43 a u48 E A S H
   obtain _ | k46:=kq45
   exact zz H
   rw [qW.j44_s]at H
   obtain ⟨J,E⟩:=E.at A
   refine hK41 _ _ (E.ib 33 H (fun c49 E H=>?_) fun c49 E H=>?_)
   refine wp_skip (hK40 _ _ (sq fun K50 hK50=>wp_block (sq fun K51 hK51=>sq fun K52 hK52=>pl0 ?_)))
   have hb2:=S.ba 0
   obtain ⟨c53,H⟩:=gd H
   have hE_:=E
   obtain ⟨ad54,rfl⟩:=g0_6.addr c53.1 c53.2
   replace E:=hE_
   obtain ⟨cs56,⟨A58,c59,rfl,g60⟩,hc57⟩:=g0_6.el qC.z x35 c53.1 c53.2
   refine plc E (.r 0 1<|.b 1 6 hb2<|.r 2 1<|.x 3 c53<|.r 4 1<|.c 5 (S.fc hc57 1)<|.r 6 2<|.nil) (fun a E=>pld (hK52 _ _ (E.ik 43 H (fun c61 E H=>?_) fun c61 E H=>?_)))
   refine rr E fun a E=>(wp_ret (qCV (qCW (qCV (qCV (qCW (qCV ?_)))))))
   replace S:=S.tail
   obtain rfl:=si H
   exact rt1 E ⟨_,rfl,_,rfl,S⟩
   refine wp_skip (hK51 _ _ (rr E fun a E=>(wp_block ?_)))
   refine wp_loop_ghost (fun kq66 a w'=>∃(G:NV)(x64:Int),kq66≤k46∧Env 83 G a∧At G [(1,.pointer (pb b2)),(4,iv x35),(5,iv x64)]∧Sm W F w' F [box b2 #[iv x.f0,iv x.f1,iv x.f2,iv x.f3,.slice A0_4 x.f4.length c0_4,.slice A0_5 x.f5.length c0_5,.slice (some ad54) x.f6.length c0_6] 26]∧qW.l65 kq66 x x35 x64=some r) k46 ⟨_,0,Nat.le_refl _,E,.of,S,H⟩ ?_
   rintro kq66 a u68 ⟨G,x64,hkq,E,A,S,H⟩
   obtain _ | k67:=kq66
   exact zz H
   rw [qW.l65_s]at H
   obtain ⟨J,E⟩:=E.at A
   refine sq fun K69 hK69=>sq fun K70 hK70=>pl0 ?_
   have hb2:=S.ba 0
   obtain ⟨cs72,⟨A74,c75,rfl,g76⟩,hc73⟩:=g0_6.el qC.z x35 c53.1 c53.2
   refine plc E (.r 0 2<|.b 2 6 hb2<|.r 3 1<|.x 4 c53<|.r 5 1<|.c 6 (S.fc hc73 1)<|.r 7 2<|.nil) (fun a E=>pld (hK70 _ _ (E.ik 52 H (fun c77 E H=>?_) fun c77 E H=>?_)))
   refine wp_skip (hK69 _ _ (sq fun K78 hK78=>wp_block (sq fun K79 hK79=>pl0 ?_)))
   obtain ⟨c83,H⟩:=gd H
   have hE_:=E
   obtain ⟨ad84,rfl⟩:=g76.addr c83.1 c83.2
   replace E:=hE_
   obtain ⟨cs86,⟨A88,c89,rfl,g90⟩,hc87⟩:=g76.el qG.z x64 c83.1 c83.2
   refine plc E (.r 0 1<|.b 1 6 hb2<|.r 2 1<|.x 3 c53<|.r 4 1<|.c 5 (S.fc hc73 1)<|.r 6 1<|.x 7 c83<|.r 8 1<|.c 9 (S.fc hc87 1)<|.r 10 2<|.nil) (fun a E=>pld (hK79 _ _ (E.ik 66 H (fun c91 E H=>?_) fun c91 E H=>?_)))
   refine rr E fun a E=>(wp_ret (qCW (qCV (qCV (qCW (qCW (qCV (qCV (qCW (qCV ?_))))))))))
   replace S:=S.tail
   obtain rfl:=si H
   exact rt1 E ⟨_,rfl,_,rfl,S⟩
   refine wp_skip ?_
   refine qCX ?_
   refine hK78 _ _ (pl0 (plc E (.r 0 3 .nil) (fun a E=>pld ?_)))
   exact qCY ⟨k67,by omega,_,(w64 (x64+1)),by omega,E,.of,S,H⟩
   refine wp_exit ?_
   refine hK50 _ _ (pl0 (plc E (.r 0 3 .nil) (fun a E=>pld ?_)))
   exact qCY ⟨k67,by omega,_,(w64 (x35+1)),by omega,E,.of,S,H⟩
   refine wp_exit ?_
   refine hK33 _ _ (sq fun K93 hK93=>pl0 ?_)
   have hb2:=S.ba 0
   refine plc E (.r 0 1<|.b 1 4 hb2<|.r 2 3<|.nil) (fun a E=>E.fk 71 H (fun c94 E H=>?_) fun c94 E H=>?_)
   refine plc E (.r 5 1<|.b 6 5 hb2<|.r 7 4<|.nil) (fun a E=>E.fk 77 H (fun c95 E H=>?_) fun c95 E H=>?_)
   refine plc E (.r 11 1<|.b 12 6 hb2<|.r 13 4<|.nil) (fun a E=>pld (hK93 _ _ (wp_ret ?_)))
   replace S:=S.tail
   obtain rfl:=si H
   exact rt1 E ⟨_,rfl,_,rfl,S⟩
   refine plc E (.r 11 6 .nil) (fun a E=>pld (hK93 _ _ (wp_ret ?_)))
   replace S:=S.tail
   obtain rfl:=si H
   exact rt1 E ⟨_,rfl,_,rfl,S⟩
   refine plc E (.r 5 12 .nil) (fun a E=>pld (hK93 _ _ (wp_ret ?_)))
   replace S:=S.tail
   obtain rfl:=si H
   exact rt1 E ⟨_,rfl,_,rfl,S⟩
  refine pl0 (plc E (.r 0 2<|.b 2 6 (S.ba 0)<|.r 3 3<|.nil) (fun a E=>E.fk 30 H (fun c42 E H=>?_) fun c42 E H=>?_))
  refine plc E (.r 6 3 .nil) (fun a E=>pld ?_)
  exact J47 _ (by omega) _ (decide (x35<20)) _ _ E .of S H
  refine plc E (.r 6 3 .nil) (fun a E=>pld ?_)
  exact J47 _ (by omega) _ false _ _ E .of S H
 refine pl0 (plc E (.r 0 2<|.b 2 5 (S.ba 0)<|.r 3 3<|.nil) (fun a E=>E.fk 11 H (fun c13 E H=>?_) fun c13 E H=>?_))
 refine plc E (.r 6 3 .nil) (fun a E=>pld ?_)
 exact J18 _ (by omega) _ (decide (x6<20)) _ _ E .of S H
 refine plc E (.r 6 3 .nil) (fun a E=>pld ?_)
 exact J18 _ (by omega) _ false _ _ E .of S H
mutual
def qt.l5:Nat→List qE→Int→Option Bool
 | 0,_,_=>none
 | k+1,x,x4=>if x4<(x.length:Int) then (qt.j13 k x x4 (decide (x4<60))) else (qt.j13 k x x4 false)
def qt.j13:Nat→List qE→Int→Bool→Option Bool
 | 0,_,_,_=>none
 | k+1,x,x4,y12=>if y12=true then (if 0≤x4∧x4<(x.length:Int) then (if (((nth qE.z x x4).f6).length:Int)>20 then (some false) else (qt.l5 k x (w64 (x4+1)))) else (none)) else (some (decide ((x.length:Int)≤60)))
end
theorem qt.l5_s k x x4:type_of% (qt.l5.eq_2 x x4 k):=qt.l5.eq_2 x x4 k
theorem qt.j13_s k x x4 y12:type_of% (qt.j13.eq_2 x x4 y12 k):=qt.j13.eq_2 x x4 y12 k
def qt.f(k:Nat)(x:List qE):Option Bool:=qt.l5 k x 0
def qt.Post(W F:World)(r:Bool)(v:Value)(w':World):Prop:=∃(F':World),v = .bool r∧Sm W F w' F' []
theorem qt.calls(k:Nat)(x:List qE)(A0_0:OA)(c0_0:Nat)(r:Bool)(W F:World)(hown:Sub F W)(g0_0:Rd qE.k F A0_0 c0_0 x)(H:qt.f k x=some r):
    Cr 27 #[.slice A0_0 x.length c0_0] W (qt.Post W F r):=by
 have S:=St.start (Own.nil hown)
 unfold qt.f at H
 refine ent 24 rfl rfl rfl (fun a E=>?_)
 refine rr E fun a E=>(sq fun K2 hK2=>rr E fun a E=>(wp_block ?_))
 refine wp_loop_ghost (fun kq6 a w'=>∃(G:NV)(x4:Int),kq6≤k∧Env 24 G a∧At G [(0,.slice A0_0 x.length c0_0),(3,iv x4)]∧Sm W F w' F []∧qt.l5 kq6 x x4=some r) k ⟨_,0,Nat.le_refl _,E,.of,S,H⟩ ?_
 rintro kq6 a u8 ⟨G,x4,hkq,E,A,S,H⟩
 obtain _ | k7:=kq6
 exact zz H
 rw [qt.l5_s]at H
 obtain ⟨J,E⟩:=E.at A
 refine sq fun K9 hK9=>sq fun K10 hK10=>?_
 have J16:∀ kq14,kq14≤k7→∀(G:NV)(y12:Bool)(a:Act)(w':World),Env 24 G a→At G [(0,.slice A0_0 x.length c0_0),(3,iv x4),(11,.bool y12)]→Sm W F w' F []→qt.j13 kq14 x x4 y12=some r→K10 a w':=by
  intro kq14 hkq G y12 a u17 E A S H
  obtain _ | k15:=kq14
  exact zz H
  rw [qt.j13_s]at H
  obtain ⟨J,E⟩:=E.at A
  refine hK10 _ _ (E.ib 11 H (fun c18 E H=>?_) fun c18 E H=>?_)
  refine wp_skip (hK9 _ _ (sq fun K19 hK19=>wp_block (sq fun K20 hK20=>pl0 ?_)))
  obtain ⟨c21,H⟩:=gd H
  have hE_:=E
  obtain ⟨ad22,rfl⟩:=g0_0.addr c21.1 c21.2
  replace E:=hE_
  obtain ⟨cs24,⟨A26,c27,rfl,g28⟩,hc25⟩:=g0_0.el qE.z x4 c21.1 c21.2
  refine plc E (.r 0 2<|.x 2 c21<|.r 3 1<|.c 4 (S.fc hc25 6)<|.r 5 2<|.nil) (fun a E=>pld (hK20 _ _ (E.ik 20 H (fun c29 E H=>?_) fun c29 E H=>?_)))
  refine rr E fun a E=>(wp_ret (qCW (qCV (qCV (qCW (qCV ?_))))))
  obtain rfl:=si H
  exact rt1 E ⟨_,rfl,_,rfl,S⟩
  refine wp_skip ?_
  refine qCX ?_
  refine hK19 _ _ (pl0 (plc E (.r 0 3 .nil) (fun a E=>pld ?_)))
  exact qCY ⟨k15,by omega,_,(w64 (x4+1)),by omega,E,.of,S,H⟩
  refine wp_exit ?_
  refine hK2 _ _ (rr E fun a E=>(wp_ret ?_))
  obtain rfl:=si H
  exact rt1 E ⟨_,rfl,_,rfl,S⟩
 refine pl0 (plc E (.r 0 5 .nil) (fun a E=>E.fk 8 H (fun c11 E H=>?_) fun c11 E H=>?_))
 refine plc E (.r 5 3 .nil) (fun a E=>pld ?_)
 exact J16 _ (by omega) _ (decide (x4<60)) _ _ E .of S H
 refine plc E (.r 5 3 .nil) (fun a E=>pld ?_)
 exact J16 _ (by omega) _ false _ _ E .of S H
def qAN.l7:Nat→qF→Int→Int→Option (List Int)
 | 0,_,_,_=>none
 | k+1,x,y,x6=>if x6<(x.f5.length:Int) then (if 0≤x6∧x6<(x.f5.length:Int) then (if (nth qD.z x.f5 x6).f0=y then (some ((nth qD.z x.f5 x6).f1)) else (qAN.l7 k x y (w64 (x6+1)))) else (none)) else (some [])
theorem qAN.l7_s k x y x6:type_of% (qAN.l7.eq_2 x y x6 k):=qAN.l7.eq_2 x y x6 k
def qAN.f(k:Nat)(x:qF)(y:Int):Option (List Int):=qAN.l7 k x y 0
def qAN.Post(W F:World)(r:List Int)(v:Value)(w':World):Prop:=∃(F':World)(RA0_0:OA)(rc0_0:Nat),v = .slice RA0_0 r.length rc0_0∧Sm W F w' F' []∧Rd ki F' RA0_0 rc0_0 r
theorem qAN.calls(k:Nat)(x:qF)(y:Int)(A0_4:OA)(c0_4:Nat)(A0_5:OA)(c0_5:Nat)(A0_6:OA)(c0_6:Nat)(r:List Int)(W F:World)(hown:Sub F W)(g0_4:Rd qA.k F A0_4 c0_4 x.f4)(g0_5:Rd qD.k F A0_5 c0_5 x.f5)(g0_6:Rd qC.k F A0_6 c0_6 x.f6)(H:qAN.f k x y=some r):
    Cr 72 #[.agg #[iv x.f0,iv x.f1,iv x.f2,iv x.f3,.slice A0_4 x.f4.length c0_4,.slice A0_5 x.f5.length c0_5,.slice A0_6 x.f6.length c0_6],iv y] W (qAN.Post W F r):=by
 have S:=St.start (Own.nil hown)
 unfold qAN.f at H
 refine ent 27 rfl rfl rfl (fun a E=>?_)
 refine sq fun K1 hK1=>pl0 (plx (t:=26) E S [iv x.f0,iv x.f1,iv x.f2,iv x.f3,.slice A0_4 x.f4.length c0_4,.slice A0_5 x.f5.length c0_5,.slice A0_6 x.f6.length c0_6] fun b2 u3 hb2 S a E=>plc E (.r 1 1 .nil) (fun a E=>pld (hK1 _ _ (sq fun K4 hK4=>rr E fun a E=>(wp_block ?_)))))
 refine wp_loop_ghost (fun kq8 a w'=>∃(G:NV)(x6:Int),kq8≤k∧Env 27 G a∧At G [(1,iv y),(2,.pointer (pb b2)),(5,iv x6)]∧Sm W F w' F [box b2 #[iv x.f0,iv x.f1,iv x.f2,iv x.f3,.slice A0_4 x.f4.length c0_4,.slice A0_5 x.f5.length c0_5,.slice A0_6 x.f6.length c0_6] 26]∧qAN.l7 kq8 x y x6=some r) k ⟨_,0,Nat.le_refl _,E,.of,S,H⟩ ?_
 rintro kq8 a u10 ⟨G,x6,hkq,E,A,S,H⟩
 obtain _ | k9:=kq8
 exact zz H
 rw [qAN.l7_s]at H
 obtain ⟨J,E⟩:=E.at A
 refine sq fun K11 hK11=>sq fun K12 hK12=>pl0 ?_
 have hb2:=S.ba 0
 refine plc E (.r 0 2<|.b 2 5 hb2<|.r 3 2<|.nil) (fun a E=>pld (hK12 _ _ (E.ik 10 H (fun c13 E H=>?_) fun c13 E H=>?_)))
 refine wp_skip (hK11 _ _ (sq fun K14 hK14=>wp_block (sq fun K15 hK15=>pl0 ?_)))
 obtain ⟨c16,H⟩:=gd H
 have hE_:=E
 obtain ⟨ad17,rfl⟩:=g0_5.addr c16.1 c16.2
 replace E:=hE_
 obtain ⟨cs19,⟨A21,c22,rfl,g23⟩,hc20⟩:=g0_5.el qD.z x6 c16.1 c16.2
 refine plc E (.r 0 1<|.b 1 5 hb2<|.r 2 1<|.x 3 c16<|.r 4 1<|.c 5 (S.fc hc20 0)<|.r 6 2<|.nil) (fun a E=>pld (hK15 _ _ (E.ik 20 H (fun c24 E H=>?_) fun c24 E H=>?_)))
 refine rg E (.r 0 1<|.b 1 5 hb2<|.r 2 1<|.x 3 c16<|.r 4 1<|.c 5 (S.fc hc20 1)<|.r 6 1<|.nil) fun a E=>(wp_ret (qCW (qCV (qCV (qCW (qCV ?_))))))
 replace S:=S.tail
 obtain rfl:=si H
 exact rt1 E ⟨_,rfl,_,_,_,rfl,S,g23⟩
 refine wp_skip ?_
 refine qCX ?_
 refine hK14 _ _ (pl0 (plc E (.r 0 3 .nil) (fun a E=>pld ?_)))
 exact qCY ⟨k9,by omega,_,(w64 (x6+1)),by omega,E,.of,S,H⟩
 refine wp_exit ?_
 refine hK4 _ _ (rr E fun a E=>(wp_ret ?_))
 replace S:=S.tail
 obtain rfl:=si H
 exact rt1 E ⟨_,rfl,_,_,_,rfl,S,(Rd.nil _ _)⟩
def qBE.f(x:qA):Option Int:=if x.f5=true then (some x.f3) else (some 0)
def qBE.Post(W F:World)(r:Int)(v:Value)(w':World):Prop:=∃(F':World),v=iv r∧Sm W F w' F' []
theorem qBE.calls(x:qA)(r:Int)(W F:World)(hown:Sub F W)(H:qBE.f x=some r):
    Cr 205 #[.agg #[iv x.f0,iv x.f1,iv x.f2,iv x.f3,.bool x.f4,.bool x.f5]] W (qBE.Post W F r):=by
 have S:=St.start (Own.nil hown)
 unfold qBE.f at H
 refine ent 7 rfl rfl rfl (fun a E=>?_)
 refine sq fun K1 hK1=>pl0 (plx (t:=104) E S [iv x.f0,iv x.f1,iv x.f2,iv x.f3,.bool x.f4,.bool x.f5] fun b2 u3 hb2 S a E=>plc E (.r 1 1 .nil) (fun a E=>pld (hK1 _ _ (sq fun K4 hK4=>rg E (.r 0 1<|.b 1 5 hb2<|.nil) fun a E=>(E.ib 4 H (fun c6 E H=>?_) fun c6 E H=>?_)))))
 refine rg E (.r 0 1<|.b 1 3 hb2<|.r 2 1<|.nil) fun a E=>(wp_ret (qCV ?_))
 replace S:=S.tail
 obtain rfl:=si H
 exact rt1 E ⟨_,rfl,_,rfl,S⟩
 refine wp_skip (hK4 _ _ (rr E fun a E=>(wp_ret ?_)))
 replace S:=S.tail
 obtain rfl:=si H
 exact rt1 E ⟨_,rfl,_,rfl,S⟩
mutual
def qr.l14:Nat→List qA→Int→Int→List qB→Int→Option (List qB)
 | 0,_,_,_,_,_=>none
 | k+1,x,y,z,l12,x13=>if x13<(x.length:Int) then (if y=0 then (if z=0 then (qr.j41 k x y z l12 x13 true) else (if 0≤x13∧x13<(x.length:Int) then (qr.j41 k x y z l12 x13 ((nth qA.z x x13).f2 == z)) else (none))) else (if 0≤x13∧x13<(x.length:Int) then (if (nth qA.z x x13).f1=y then (if z=0 then (qr.j41 k x y z l12 x13 true) else (qr.j41 k x y z l12 x13 ((nth qA.z x x13).f2 == z))) else (qr.j41 k x y z l12 x13 false)) else (none))) else (some l12)
def qr.j41:Nat→List qA→Int→Int→List qB→Int→Bool→Option (List qB)
 | 0,_,_,_,_,_,_=>none
 | k+1,x,y,z,l12,x13,y40=>if y40=true then (if 0≤x13∧x13<(x.length:Int) then ((qBE.f (nth qA.z x x13)).bind fun t56=>(if ((l12.length:Int)+((1:Nat):Int)) * 16≤140737488355328 then (qr.l14 k x y z (l12++[(⟨(nth qA.z x x13).f0,t56⟩:qB)]) (w64 (x13+1))) else (none))) else (none)) else (qr.l14 k x y z l12 (w64 (x13+1)))
end
theorem qr.l14_s k x y z l12 x13:type_of% (qr.l14.eq_2 x y z l12 x13 k):=qr.l14.eq_2 x y z l12 x13 k
theorem qr.j41_s k x y z l12 x13 y40:type_of% (qr.j41.eq_2 x y z l12 x13 y40 k):=qr.j41.eq_2 x y z l12 x13 y40 k
def qr.f(k:Nat)(x:List qA)(y:Int)(z:Int):Option (List qB):=qr.l14 k x y z ([]:List qB) 0
def qr.Post(W F:World)(r:List qB)(v:Value)(w':World):Prop:=∃(F':World)(RA0_0:OA)(rc0_0:Nat),v = .slice RA0_0 r.length rc0_0∧Sm W F w' F' [row qB.k 216 (.slice RA0_0 r.length rc0_0) r]
theorem qr.calls(k:Nat)(x:List qA)(y:Int)(z:Int)(A0_0:OA)(c0_0:Nat)(r:List qB)(W F:World)(hown:Sub F W)(g0_0:Rd qA.k F A0_0 c0_0 x)(H:qr.f k x y z=some r):
    Cr 168 #[.slice A0_0 x.length c0_0,iv y,iv z] W (qr.Post W F r):=by
 have S:=St.start (Own.nil hown)
 unfold qr.f at H
 refine ent 55 rfl rfl rfl (fun a E=>?_)
 refine rr E fun a E=>(sq fun K2 hK2=>pl0 (ple E (.lit (d:=qB.k) (e:=216) S ([]:List qB) (.nil)) ?_))
 rintro _ u3 a ⟨A4,c5,rfl,S,hg⟩ E
 refine plc E (.r 1 1 .nil) (fun a E=>pld (hK2 _ _ (sq fun K7 hK7=>rr E fun a E=>(wp_block ?_))))
 refine wp_loop_ghost (fun kq15 a w'=>∃(G:NV)(A10:OA)(c11:Nat)(l12:List qB)(x13:Int),kq15≤k∧Env 55 G a∧At G [(0,.slice A0_0 x.length c0_0),(1,iv y),(2,iv z),(7,.slice A10 l12.length c11),(8,iv x13)]∧Sm W F w' F [row qB.k 216 (.slice A10 l12.length c11) l12]∧qr.l14 kq15 x y z l12 x13=some r) k ⟨_,A4,c5,([]:List qB),0,Nat.le_refl _,E,.of,S,H⟩ ?_
 rintro kq15 a u17 ⟨G,A10,c11,l12,x13,hkq,E,A,S,H⟩
 obtain _ | k16:=kq15
 exact zz H
 rw [qr.l14_s]at H
 obtain ⟨J,E⟩:=E.at A
 refine sq fun K18 hK18=>rr E fun a E=>(E.ik 13 H (fun c20 E H=>?_) fun c20 E H=>?_)
 refine wp_skip (hK18 _ _ (sq fun K21 hK21=>wp_block (sq fun K22 hK22=>?_)))
 have J44:∀ kq42,kq42≤k16→∀(G:NV)(y40:Bool)(a:Act)(w':World),Env 55 G a→At G [(0,.slice A0_0 x.length c0_0),(1,iv y),(2,iv z),(7,.slice A10 l12.length c11),(8,iv x13),(39,.bool y40)]→Sm W F w' F [row qB.k 216 (.slice A10 l12.length c11) l12]→qr.j41 kq42 x y z l12 x13 y40=some r→K22 a w':=by
  intro kq42 hkq G y40 a u45 E A S H
  obtain _ | k43:=kq42
  exact zz H
  rw [qr.j41_s]at H
  obtain ⟨J,E⟩:=E.at A
  refine hK22 _ _ (E.ib 39 H (fun c46 E H=>?_) fun c46 E H=>?_)
  refine drawn 15 ⟨[13],[],fun q=>False⟩ mixed rfl (by kernel_rfl) (fun hst=>?_)
  replace S:=S.drew
  obtain ⟨c47,H⟩:=gd H
  have hE_:=E
  obtain ⟨ad48,rfl⟩:=g0_0.addr c47.1 c47.2
  replace E:=hE_
  obtain ⟨cs50,rfl,hc51⟩:=g0_0.el qA.z x13 c47.1 c47.2
  refine mny 5 hst E (.r 0 3<|.x 3 c47<|.r 4 1<|.c 5 (S.fc hc51 0)<|.r 6 2<|.x 8 c47<|.cs 9 (S.fcs hc51)<|.nil) (fun a E=>?_)
  obtain ⟨t56,h57,H⟩:=bd H
  refine on1 10 E (.cl en205 (qBE.calls (nth qA.z x x13) _ _ _ S.own.sub h57)) ?_
  rintro _ u55 a ⟨_,rfl,hC⟩ E
  refine ⟨.of hC.agr,?_⟩
  replace S:=S.lent hC
  refine mny 3 hst E (.r 11 1 .nil) (fun a E=>?_)
  refine on1 12 E (.lit (d:=qB.k) (e:=216) S [(⟨(nth qA.z x x13).f0,t56⟩:qB)] (.cons rfl .nil)) ?_
  rintro _ u58 a ⟨A59,c60,rfl,S,hg⟩ E
  refine ⟨.of hg,?_⟩
  obtain ⟨c62,H⟩:=gd H
  replace S:=S.front 1 rfl
  refine on1 13 E (.ap (d:=qB.k) 16 S (qCf (S.row_at (i:=1) rfl)) c62 c60) ?_
  rintro _ u65 a ⟨A63,c64,rfl,S,hz⟩ E
  refine ⟨.d,?_⟩
  refine mny 0 hst E (.r 14 1 .nil) (fun a E=>?_)
  refine dn ?_
  refine qCX ?_
  refine hK21 _ _ (pl0 (plc E (.r 0 3 .nil) (fun a E=>pld ?_)))
  replace S:=S.pm [0] 2
  exact qCY ⟨k43,by omega,_,A63,c64,(l12++[(⟨(nth qA.z x x13).f0,t56⟩:qB)]),(w64 (x13+1)),by omega,E,.of,S,H⟩
  refine wp_skip ?_
  refine qCX ?_
  refine hK21 _ _ (pl0 (plc E (.r 0 3 .nil) (fun a E=>pld ?_)))
  exact qCY ⟨k43,by omega,_,A10,c11,l12,(w64 (x13+1)),by omega,E,.of,S,H⟩
 refine pl0 (plc E (.r 0 3 .nil) (fun a E=>E.fk 18 H (fun c23 E H=>?_) fun c23 E H=>?_))
 refine plc E (.r 3 12 .nil) (fun a E=>E.fk 30 H (fun c24 E H=>?_) fun c24 E H=>?_)
 refine plc E (.r 15 9 .nil) (fun a E=>pld ?_)
 exact J44 _ (by omega) _ true _ _ E .of S H
 obtain ⟨c25,H⟩:=gd H
 have hE_:=E
 obtain ⟨ad26,rfl⟩:=g0_0.addr c25.1 c25.2
 replace E:=hE_
 obtain ⟨cs28,rfl,hc29⟩:=g0_0.el qA.z x13 c25.1 c25.2
 refine plc E (.r 15 2<|.x 17 c25<|.r 18 1<|.c 19 (S.fc hc29 2)<|.r 20 4<|.nil) (fun a E=>pld ?_)
 exact J44 _ (by omega) _ ((nth qA.z x x13).f2 == z) _ _ E .of S H
 obtain ⟨c30,H⟩:=gd H
 have hE_:=E
 obtain ⟨ad31,rfl⟩:=g0_0.addr c30.1 c30.2
 replace E:=hE_
 obtain ⟨cs33,rfl,hc34⟩:=g0_0.el qA.z x13 c30.1 c30.2
 refine plc E (.r 3 2<|.x 5 c30<|.r 6 1<|.c 7 (S.fc hc34 1)<|.r 8 4<|.nil) (fun a E=>E.fk 27 H (fun c35 E H=>?_) fun c35 E H=>?_)
 refine plc E (.r 12 3 .nil) (fun a E=>E.fk 30 H (fun c36 E H=>?_) fun c36 E H=>?_)
 refine plc E (.r 15 9 .nil) (fun a E=>pld ?_)
 exact J44 _ (by omega) _ true _ _ E .of S H
 refine plc E (.r 15 2<|.x 17 c30<|.r 18 1<|.c 19 (S.fc hc34 2)<|.r 20 4<|.nil) (fun a E=>pld ?_)
 exact J44 _ (by omega) _ ((nth qA.z x x13).f2 == z) _ _ E .of S H
 refine plc E (.r 12 12 .nil) (fun a E=>pld ?_)
 exact J44 _ (by omega) _ false _ _ E .of S H
 refine wp_exit ?_
 refine hK7 _ _ (rr E fun a E=>(wp_ret ?_))
 obtain rfl:=si H
 exact rt1 E ⟨_,rfl,_,_,_,rfl,S⟩
mutual
def qn.l14:Nat→List qA→List Int→List qB→Int→Option (List qB)
 | 0,_,_,_,_=>none
 | k+1,x,y,l12,x13=>if x13≤999 then (qn.l29 k x y l12 x13 0 false 0) else (some l12)
def qn.l29:Nat→List qA→List Int→List qB→Int→Int→Bool→Int→Option (List qB)
 | 0,_,_,_,_,_,_,_=>none
 | k+1,x,y,l12,x13,x26,y27,x28=>if x28<(x.length:Int) then (if 0≤x28∧x28<(y.length:Int) then (if (nth 0 y x28)=x13 then (if 0≤x28∧x28<(x.length:Int) then ((qBE.f (nth qA.z x x28)).bind fun t51=>(qn.l29 k x y l12 x13 (w64 (x26+t51)) true (w64 (x28+1)))) else (none)) else (qn.l29 k x y l12 x13 x26 y27 (w64 (x28+1)))) else (none)) else (if x26>65536 then (qn.j57 k x y l12 x13 y27 65536) else (qn.j57 k x y l12 x13 y27 x26))
def qn.j57:Nat→List qA→List Int→List qB→Int→Bool→Int→Option (List qB)
 | 0,_,_,_,_,_,_=>none
 | k+1,x,y,l12,x13,y27,x56=>if y27=true then (if ((l12.length:Int)+((1:Nat):Int)) * 16≤140737488355328 then (qn.l14 k x y (l12++[(⟨x13,x56⟩:qB)]) (w64 (x13+1))) else (none)) else (qn.l14 k x y l12 (w64 (x13+1)))
end
theorem qn.l14_s k x y l12 x13:type_of% (qn.l14.eq_2 x y l12 x13 k):=qn.l14.eq_2 x y l12 x13 k
theorem qn.l29_s k x y l12 x13 x26 y27 x28:type_of% (qn.l29.eq_2 x y l12 x13 x26 y27 x28 k):=qn.l29.eq_2 x y l12 x13 x26 y27 x28 k
theorem qn.j57_s k x y l12 x13 y27 x56:type_of% (qn.j57.eq_2 x y l12 x13 y27 x56 k):=qn.j57.eq_2 x y l12 x13 y27 x56 k
def qn.f(k:Nat)(x:List qA)(y:List Int):Option (List qB):=qn.l14 k x y ([]:List qB) 1
def qn.Post(W F:World)(r:List qB)(v:Value)(w':World):Prop:=∃(F':World)(RA0_0:OA)(rc0_0:Nat),v = .slice RA0_0 r.length rc0_0∧Sm W F w' F' [row qB.k 216 (.slice RA0_0 r.length rc0_0) r]
theorem qn.calls(k:Nat)(x:List qA)(y:List Int)(A0_0:OA)(c0_0:Nat)(A1_0:OA)(c1_0:Nat)(r:List qB)(W F:World)(hown:Sub F W)(g0_0:Rd qA.k F A0_0 c0_0 x)(g1_0:Rd ki F A1_0 c1_0 y)(H:qn.f k x y=some r):
    Cr 206 #[.slice A0_0 x.length c0_0,.slice A1_0 y.length c1_0] W (qn.Post W F r):=by
 have S:=St.start (Own.nil hown)
 unfold qn.f at H
 refine ent 44 rfl rfl rfl (fun a E=>?_)
 refine rr E fun a E=>(sq fun K2 hK2=>pl0 (ple E (.lit (d:=qB.k) (e:=216) S ([]:List qB) (.nil)) ?_))
 rintro _ u3 a ⟨A4,c5,rfl,S,hg⟩ E
 refine plc E (.r 1 1 .nil) (fun a E=>pld (hK2 _ _ (sq fun K7 hK7=>rr E fun a E=>(wp_block ?_))))
 refine wp_loop_ghost (fun kq15 a w'=>∃(G:NV)(A10:OA)(c11:Nat)(l12:List qB)(x13:Int),kq15≤k∧Env 44 G a∧At G [(0,.slice A0_0 x.length c0_0),(1,.slice A1_0 y.length c1_0),(5,.slice A10 l12.length c11),(6,iv x13)]∧Sm W F w' F [row qB.k 216 (.slice A10 l12.length c11) l12]∧qn.l14 kq15 x y l12 x13=some r) k ⟨_,A4,c5,([]:List qB),1,Nat.le_refl _,E,.of,S,H⟩ ?_
 rintro kq15 a u17 ⟨G,A10,c11,l12,x13,hkq,E,A,S,H⟩
 obtain _ | k16:=kq15
 exact zz H
 rw [qn.l14_s]at H
 obtain ⟨J,E⟩:=E.at A
 refine sq fun K18 hK18=>rr E fun a E=>(E.ik 12 H (fun c20 E H=>?_) fun c20 E H=>?_)
 refine wp_skip (hK18 _ _ (sq fun K21 hK21=>wp_block (rr E fun a E=>(rr E fun a E=>(sq fun K24 hK24=>rr E fun a E=>(wp_block ?_))))))
 refine wp_loop_ghost (fun kq30 a w'=>∃(G:NV)(x26:Int)(y27:Bool)(x28:Int),kq30≤k16∧Env 44 G a∧At G [(0,.slice A0_0 x.length c0_0),(1,.slice A1_0 y.length c1_0),(5,.slice A10 l12.length c11),(6,iv x13),(7,iv x26),(8,.bool y27),(9,iv x28)]∧Sm W F w' F [row qB.k 216 (.slice A10 l12.length c11) l12]∧qn.l29 kq30 x y l12 x13 x26 y27 x28=some r) k16 ⟨_,0,false,0,Nat.le_refl _,E,.of,S,H⟩ ?_
 rintro kq30 a u32 ⟨G,x26,y27,x28,hkq,E,A,S,H⟩
 obtain _ | k31:=kq30
 exact zz H
 rw [qn.l29_s]at H
 obtain ⟨J,E⟩:=E.at A
 refine sq fun K33 hK33=>rr E fun a E=>(E.ik 18 H (fun c35 E H=>?_) fun c35 E H=>?_)
 refine wp_skip (hK33 _ _ (sq fun K36 hK36=>wp_block (sq fun K37 hK37=>pl0 ?_)))
 obtain ⟨c38,H⟩:=gd H
 have hE_:=E
 obtain ⟨ad39,rfl⟩:=g1_0.addr c38.1 c38.2
 replace E:=hE_
 obtain ⟨cs41,rfl,hc42⟩:=g1_0.el 0 x28 c38.1 c38.2
 refine plc E (.r 0 2<|.x 2 c38<|.c 3 (S.fc hc42 0)<|.r 4 2<|.nil) (fun a E=>pld (hK37 _ _ (E.ik 26 H (fun c43 E H=>?_) fun c43 E H=>?_)))
 refine sq fun K44 hK44=>pl0 ?_
 obtain ⟨c45,H⟩:=gd H
 have hE_:=E
 obtain ⟨ad46,rfl⟩:=g0_0.addr c45.1 c45.2
 replace E:=hE_
 obtain ⟨cs48,rfl,hc49⟩:=g0_0.el qA.z x28 c45.1 c45.2
 refine plc E (.r 0 3<|.x 3 c45<|.cs 4 (S.fcs hc49)<|.nil) (fun a E=>?_)
 obtain ⟨t51,h52,H⟩:=bd H
 refine plq E S en205 (qBE.calls (nth qA.z x x28) _ _ _ S.own.sub h52) fun u50 S a E=>plc E (.r 6 2 .nil) (fun a E=>pld (hK44 _ _ (pl0 (plc E (.r 0 1 .nil) (fun a E=>pld ?_)))))
 refine qCX ?_
 refine hK36 _ _ (pl0 (plc E (.r 0 3 .nil) (fun a E=>pld ?_)))
 exact qCY ⟨k31,by omega,_,(w64 (x26+t51)),true,(w64 (x28+1)),by omega,E,.of,S,H⟩
 refine wp_skip ?_
 refine qCX ?_
 refine hK36 _ _ (pl0 (plc E (.r 0 3 .nil) (fun a E=>pld ?_)))
 exact qCY ⟨k31,by omega,_,x26,y27,(w64 (x28+1)),by omega,E,.of,S,H⟩
 refine wp_exit ?_
 refine hK24 _ _ (sq fun K53 hK53=>?_)
 have J60:∀ kq58,kq58≤k31→∀(G:NV)(x56:Int)(a:Act)(w':World),Env 44 G a→At G [(0,.slice A0_0 x.length c0_0),(1,.slice A1_0 y.length c1_0),(5,.slice A10 l12.length c11),(6,iv x13),(7,iv x56),(8,.bool y27)]→Sm W F w' F [row qB.k 216 (.slice A10 l12.length c11) l12]→qn.j57 kq58 x y l12 x13 y27 x56=some r→K53 a w':=by
  intro kq58 hkq G x56 a u61 E A S H
  obtain _ | k59:=kq58
  exact zz H
  rw [qn.j57_s]at H
  obtain ⟨J,E⟩:=E.at A
  refine hK53 _ _ (rr E fun a E=>(E.ib 36 H (fun c63 E H=>?_) fun c63 E H=>?_))
  refine pl0 (plc E (.r 0 4 .nil) (fun a E=>ple E (.lit (d:=qB.k) (e:=216) S [(⟨x13,x56⟩:qB)] (.cons rfl .nil)) ?_))
  rintro _ u64 a ⟨A65,c66,rfl,S,hg⟩ E
  obtain ⟨c68,H⟩:=gd H
  replace S:=S.front 1 rfl
  refine ple E (.ap (d:=qB.k) 16 S (qCf (S.row_at (i:=1) rfl)) c68 c66) ?_
  rintro _ u71 a ⟨A69,c70,rfl,S,hz⟩ E
  refine plc E (.r 6 1 .nil) (fun a E=>pld ?_)
  refine qCX ?_
  refine hK21 _ _ (pl0 (plc E (.r 0 3 .nil) (fun a E=>pld ?_)))
  replace S:=S.pm [0] 2
  exact qCY ⟨k59,by omega,_,A69,c70,(l12++[(⟨x13,x56⟩:qB)]),(w64 (x13+1)),by omega,E,.of,S,H⟩
  refine wp_skip ?_
  refine qCX ?_
  refine hK21 _ _ (pl0 (plc E (.r 0 3 .nil) (fun a E=>pld ?_)))
  exact qCY ⟨k59,by omega,_,A10,c11,l12,(w64 (x13+1)),by omega,E,.of,S,H⟩
 refine rr E fun a E=>(E.ik 35 H (fun c55 E H=>?_) fun c55 E H=>?_)
 refine pl0 (plc E (.r 0 1 .nil) (fun a E=>pld ?_))
 exact J60 _ (by omega) _ 65536 _ _ E .of S H
 refine wp_skip ?_
 exact J60 _ (by omega) _ x26 _ _ E .of S H
 refine wp_exit ?_
 refine hK7 _ _ (rr E fun a E=>(wp_ret ?_))
 obtain rfl:=si H
 exact rt1 E ⟨_,rfl,_,_,_,rfl,S⟩
end Go.Proofs.YtpohepinmjmbkaaGreat.PP
