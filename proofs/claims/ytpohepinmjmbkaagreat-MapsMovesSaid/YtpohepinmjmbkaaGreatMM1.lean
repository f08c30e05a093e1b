import Derived.Test.YtpohepinmjmbkaaGreatMM0
namespace Go.Proofs.YtpohepinmjmbkaaGreat.MM
open Go Go.RowKit Go.Proofs.YtpohepinmjmbkaaGreat.Sl
set_option linter.unusedVariables false
set_option linter.unusedSimpArgs false
set_option maxHeartbeats 4000000
set_option maxRecDepth 100000
def qm.l9:Nat→List Int→List Int→Int→Option Bool
 | 0,_,_,_=>none
 | k+1,x,y,x8=>if x8<(x.length:Int) then (if 0≤x8∧x8<(x.length:Int) then (if 0≤x8∧x8<(y.length:Int) then (if (nth 0 x x8)=(nth 0 y x8) then (qm.l9 k x y (w64 (x8+1))) else (some false)) else (none)) else (none)) else (some true)
theorem qm.l9_s k x y x8:type_of% (qm.l9.eq_2 x y x8 k):=qm.l9.eq_2 x y x8 k
def qm.f(k:Nat)(x:List Int)(y:List Int):Option Bool:=if (x.length:Int)=(y.length:Int) then (qm.l9 k x y 0) else (some false)
def qm.Post(W F:World)(r:Bool)(v:Value)(w':World):Prop:=∃(F':World),v = .bool r∧Sm W F w' F' []
theorem qm.calls(k:Nat)(x:List Int)(y:List Int)(A0_0:OA)(c0_0:Nat)(A1_0:OA)(c1_0:Nat)(r:Bool)(W F:World)(hown:Sub F W)(g0_0:Rd ki F A0_0 c0_0 x)(g1_0:Rd ki F A1_0 c1_0 y)(H:qm.f k x y=some r):
    Cr 21 #[.slice A0_0 x.length c0_0,.slice A1_0 y.length c1_0] W (qm.Post W F r):=by
 have S:=St.start (Own.nil hown)
 unfold qm.f at H
 refine ent 26 rfl rfl rfl (fun a E=>?_)
 refine rr E fun a E=>(sq fun K2 hK2=>rr E fun a E=>?_)
 refine E.ikn 10 H (fun c4 E H=>?_) fun c4 E H=>?_
 ·
  refine wp_skip (hK2 _ _ (sq fun K6 hK6=>rr E fun a E=>(wp_block ?_)))
  refine wp_loop_ghost (fun kq10 a w'=>∃(G:NV)(x8:Int),kq10≤k∧Env 26 G a∧At G [(0,.slice A0_0 x.length c0_0),(1,.slice A1_0 y.length c1_0),(5,iv x8)]∧Sm W F w' F []∧qm.l9 kq10 x y x8=some r) k ⟨_,0,Nat.le_refl _,E,.of,S,H⟩ ?_
  rintro kq10 a u12 ⟨G,x8,hkq,E,A,S,H⟩
  obtain _ | k11:=kq10
  ·
   exact zz H
  rw [qm.l9_s]at H
  obtain ⟨J,E⟩:=E.at A
  refine sq fun K13 hK13=>rr E fun a E=>?_
  refine E.ik 14 H (fun c15 E H=>?_) fun c15 E H=>?_
  ·
   refine wp_skip (hK13 _ _ (sq fun K16 hK16=>wp_block (sq fun K17 hK17=>?_)))
   refine drawn 9 ⟨[],[],fun q=>False⟩ mixed rfl (by kernel_rfl) (fun hst=>?_)
   replace S:=S.drew
   obtain ⟨c18,H⟩:=gd H
   have hE_:=E
   obtain ⟨ad19,rfl⟩:=g0_0.addr c18.1 c18.2
   replace E:=hE_
   obtain ⟨cs21,rfl,hc22⟩:=g0_0.el 0 x8 c18.1 c18.2
   obtain ⟨c23,H⟩:=gd H
   have hE_:=E
   obtain ⟨ad24,rfl⟩:=g1_0.addr c23.1 c23.2
   replace E:=hE_
   obtain ⟨cs26,rfl,hc27⟩:=g1_0.el 0 x8 c23.1 c23.2
   refine mny 0 hst E (.r 0 2<|.x 2 c18<|.c 3 (S.fc hc22 0)<|.r 4 2<|.x 6 c23<|.c 7 (S.fc hc27 0)<|.r 8 1<|.nil) (fun a E=>?_)
   refine dn ?_
   refine hK17 _ _ ?_
   refine E.ikn 25 H (fun c28 E H=>?_) fun c28 E H=>?_
   ·
    refine wp_skip ?_
    refine qBd ?_
    refine hK16 _ _ (pl0 (plc E (.r 0 3 .nil) (fun a E=>pld ?_)))
    exact qBf ⟨k11,by omega,_,(w64 (x8+1)),by omega,E,.of,S,H⟩
   refine rr E fun a E=>(wp_ret (qBc (qBb (qBb (qBc (qBb ?_))))))
   obtain rfl:=si H
   exact rt1 E ⟨_,rfl,_,rfl,S⟩
  refine wp_exit ?_
  refine hK6 _ _ (rr E fun a E=>(wp_ret ?_))
  obtain rfl:=si H
  exact rt1 E ⟨_,rfl,_,rfl,S⟩
 refine rr E fun a E=>(wp_ret (qBb ?_))
 obtain rfl:=si H
 exact rt1 E ⟨_,rfl,_,rfl,S⟩
def qAF.l9:Nat→List qA→List qA→Int→Option Bool
 | 0,_,_,_=>none
 | k+1,x,y,x8=>if x8<(x.length:Int) then (if 0≤x8∧x8<(x.length:Int) then (if 0≤x8∧x8<(y.length:Int) then (if (nth qA.z x x8)=(nth qA.z y x8) then (qAF.l9 k x y (w64 (x8+1))) else (some false)) else (none)) else (none)) else (some true)
theorem qAF.l9_s k x y x8:type_of% (qAF.l9.eq_2 x y x8 k):=qAF.l9.eq_2 x y x8 k
def qAF.f(k:Nat)(x:List qA)(y:List qA):Option Bool:=if (x.length:Int)=(y.length:Int) then (qAF.l9 k x y 0) else (some false)
def qAF.Post(W F:World)(r:Bool)(v:Value)(w':World):Prop:=∃(F':World),v = .bool r∧Sm W F w' F' []
theorem qAF.calls(k:Nat)(x:List qA)(y:List qA)(A0_0:OA)(c0_0:Nat)(A1_0:OA)(c1_0:Nat)(r:Bool)(W F:World)(hown:Sub F W)(g0_0:Rd qA.k F A0_0 c0_0 x)(g1_0:Rd qA.k F A1_0 c1_0 y)(H:qAF.f k x y=some r):
    Cr 65 #[.slice A0_0 x.length c0_0,.slice A1_0 y.length c1_0] W (qAF.Post W F r):=by
 have S:=St.start (Own.nil hown)
 unfold qAF.f at H
 refine ent 26 rfl rfl rfl (fun a E=>?_)
 refine rr E fun a E=>(sq fun K2 hK2=>rr E fun a E=>?_)
 refine E.ikn 10 H (fun c4 E H=>?_) fun c4 E H=>?_
 ·
  refine wp_skip (hK2 _ _ (sq fun K6 hK6=>rr E fun a E=>(wp_block ?_)))
  refine wp_loop_ghost (fun kq10 a w'=>∃(G:NV)(x8:Int),kq10≤k∧Env 26 G a∧At G [(0,.slice A0_0 x.length c0_0),(1,.slice A1_0 y.length c1_0),(5,iv x8)]∧Sm W F w' F []∧qAF.l9 kq10 x y x8=some r) k ⟨_,0,Nat.le_refl _,E,.of,S,H⟩ ?_
  rintro kq10 a u12 ⟨G,x8,hkq,E,A,S,H⟩
  obtain _ | k11:=kq10
  ·
   exact zz H
  rw [qAF.l9_s]at H
  obtain ⟨J,E⟩:=E.at A
  refine sq fun K13 hK13=>rr E fun a E=>?_
  refine E.ik 14 H (fun c15 E H=>?_) fun c15 E H=>?_
  ·
   refine wp_skip (hK13 _ _ (sq fun K16 hK16=>wp_block (sq fun K17 hK17=>?_)))
   refine drawn 9 ⟨[],[],fun q=>False⟩ mixed rfl (by kernel_rfl) (fun hst=>?_)
   replace S:=S.drew
   obtain ⟨c18,H⟩:=gd H
   have hE_:=E
   obtain ⟨ad19,rfl⟩:=g0_0.addr c18.1 c18.2
   replace E:=hE_
   obtain ⟨cs21,rfl,hc22⟩:=g0_0.el qA.z x8 c18.1 c18.2
   obtain ⟨c23,H⟩:=gd H
   have hE_:=E
   obtain ⟨ad24,rfl⟩:=g1_0.addr c23.1 c23.2
   replace E:=hE_
   obtain ⟨cs26,rfl,hc27⟩:=g1_0.el qA.z x8 c23.1 c23.2
   refine mny 0 hst E (.r 0 2<|.x 2 c18<|.cs 3 (S.fcs hc22)<|.r 4 2<|.x 6 c23<|.cs 7 (S.fcs hc27)<|.y 8 (y_nes (fun w=>eqs104 (nth qA.z x x8) (nth qA.z y x8) w 9998))<|.nil) (fun a E=>?_)
   refine dn ?_
   refine hK17 _ _ ?_
   refine E.ikn 25 H (fun c28 E H=>?_) fun c28 E H=>?_
   ·
    refine wp_skip ?_
    refine qBd ?_
    refine hK16 _ _ (pl0 (plc E (.r 0 3 .nil) (fun a E=>pld ?_)))
    exact qBf ⟨k11,by omega,_,(w64 (x8+1)),by omega,E,.of,S,H⟩
   refine rr E fun a E=>(wp_ret (qBc (qBb (qBb (qBc (qBb ?_))))))
   obtain rfl:=si H
   exact rt1 E ⟨_,rfl,_,rfl,S⟩
  refine wp_exit ?_
  refine hK6 _ _ (rr E fun a E=>(wp_ret ?_))
  obtain rfl:=si H
  exact rt1 E ⟨_,rfl,_,rfl,S⟩
 refine rr E fun a E=>(wp_ret (qBb ?_))
 obtain rfl:=si H
 exact rt1 E ⟨_,rfl,_,rfl,S⟩
mutual
def ql.l9:Nat→List qE→List qE→Int→Option Bool
 | 0,_,_,_=>none
 | k+1,x,y,x8=>if x8<(x.length:Int) then (if 0≤x8∧x8<(x.length:Int) then (if 0≤x8∧x8<(y.length:Int) then (if (nth qE.z x x8).f0=(nth qE.z y x8).f0 then ((qm.f k ((nth qE.z x x8).f1) ((nth qE.z y x8).f1)).bind fun t42=>(ql.j45 k x y x8 (!t42))) else (ql.j45 k x y x8 true)) else (none)) else (none)) else (some true)
def ql.j45:Nat→List qE→List qE→Int→Bool→Option Bool
 | 0,_,_,_,_=>none
 | k+1,x,y,x8,y44=>if y44=true then (some false) else (ql.l9 k x y (w64 (x8+1)))
end
theorem ql.l9_s k x y x8:type_of% (ql.l9.eq_2 x y x8 k):=ql.l9.eq_2 x y x8 k
theorem ql.j45_s k x y x8 y44:type_of% (ql.j45.eq_2 x y x8 y44 k):=ql.j45.eq_2 x y x8 y44 k
def ql.f(k:Nat)(x:List qE)(y:List qE):Option Bool:=if (x.length:Int)=(y.length:Int) then (ql.l9 k x y 0) else (some false)
def ql.Post(W F:World)(r:Bool)(v:Value)(w':World):Prop:=∃(F':World),v = .bool r∧Sm W F w' F' []
theorem ql.calls(k:Nat)(x:List qE)(y:List qE)(A0_0:OA)(c0_0:Nat)(A1_0:OA)(c1_0:Nat)(r:Bool)(W F:World)(hown:Sub F W)(g0_0:Rd qE.k F A0_0 c0_0 x)(g1_0:Rd qE.k F A1_0 c1_0 y)(H:ql.f k x y=some r):
    Cr 54 #[.slice A0_0 x.length c0_0,.slice A1_0 y.length c1_0] W (ql.Post W F r):=by
 have S:=St.start (Own.nil hown)
 unfold ql.f at H
 refine ent 42 rfl rfl rfl (fun a E=>?_)
 refine rr E fun a E=>(sq fun K2 hK2=>rr E fun a E=>?_)
 refine E.ikn 10 H (fun c4 E H=>?_) fun c4 E H=>?_
 ·
  refine wp_skip (hK2 _ _ (sq fun K6 hK6=>rr E fun a E=>(wp_block ?_)))
  refine wp_loop_ghost (fun kq10 a w'=>∃(G:NV)(x8:Int),kq10≤k∧Env 42 G a∧At G [(0,.slice A0_0 x.length c0_0),(1,.slice A1_0 y.length c1_0),(5,iv x8)]∧Sm W F w' F []∧ql.l9 kq10 x y x8=some r) k ⟨_,0,Nat.le_refl _,E,.of,S,H⟩ ?_
  rintro kq10 a u12 ⟨G,x8,hkq,E,A,S,H⟩
  obtain _ | k11:=kq10
  ·
   exact zz H
  rw [ql.l9_s]at H
  obtain ⟨J,E⟩:=E.at A
  refine sq fun K13 hK13=>rr E fun a E=>?_
  refine E.ik 14 H (fun c15 E H=>?_) fun c15 E H=>?_
  ·
   refine wp_skip (hK13 _ _ (sq fun K16 hK16=>wp_block (sq fun K17 hK17=>?_)))
   have J48:∀ kq46,kq46≤k11→∀(G:NV)(y44:Bool)(a:Act)(w':World),Env 42 G a→At G [(0,.slice A0_0 x.length c0_0),(1,.slice A1_0 y.length c1_0),(5,iv x8),(41,.bool y44)]→Sm W F w' F []→ql.j45 kq46 x y x8 y44=some r→K17 a w':=by
    intro kq46 hkq G y44 a u49 E A S H
    obtain _ | k47:=kq46
    ·
     exact zz H
    rw [ql.j45_s]at H
    obtain ⟨J,E⟩:=E.at A
    refine hK17 _ _ ?_
    refine E.ib 41 H (fun c50 E H=>?_) fun c50 E H=>?_
    ·
     refine rr E fun a E=>(wp_ret (qBc (qBb (qBb (qBc (qBb ?_))))))
     obtain rfl:=si H
     exact rt1 E ⟨_,rfl,_,rfl,S⟩
    refine wp_skip ?_
    refine qBd ?_
    refine hK16 _ _ (pl0 (plc E (.r 0 3 .nil) (fun a E=>pld ?_)))
    exact qBf ⟨k47,by omega,_,(w64 (x8+1)),by omega,E,.of,S,H⟩
   refine drawn 25 ⟨[],[],fun q=>False⟩ mixed rfl (by kernel_rfl) (fun hst=>?_)
   replace S:=S.drew
   obtain ⟨c18,H⟩:=gd H
   have hE_:=E
   obtain ⟨ad19,rfl⟩:=g0_0.addr c18.1 c18.2
   replace E:=hE_
   obtain ⟨cs21,⟨A23,c24,rfl,g25⟩,hc22⟩:=g0_0.el qE.z x8 c18.1 c18.2
   obtain ⟨c26,H⟩:=gd H
   have hE_:=E
   obtain ⟨ad27,rfl⟩:=g1_0.addr c26.1 c26.2
   replace E:=hE_
   obtain ⟨cs29,⟨A31,c32,rfl,g33⟩,hc30⟩:=g1_0.el qE.z x8 c26.1 c26.2
   refine mny 13 hst E (.r 0 2<|.x 2 c18<|.r 3 1<|.c 4 (S.fc hc22 0)<|.r 5 2<|.x 7 c26<|.r 8 1<|.c 9 (S.fc hc30 0)<|.r 10 2<|.nil) (fun a E=>?_)
   rcases sp H with ⟨c34,H⟩ | ⟨c34,H⟩
   ·
    replace E:=E.ktn 28 c34
    refine mny 3 hst E (.r 12 2<|.x 14 c18<|.r 15 1<|.c 16 (S.fc hc22 1)<|.r 17 2<|.x 19 c26<|.r 20 1<|.c 21 (S.fc hc30 1)<|.nil) (fun a E=>?_)
    obtain ⟨t42,h43,H⟩:=bd H
    refine on1 22 E (.cl en21 (qm.calls k11 ((nth qE.z x x8).f1) ((nth qE.z y x8).f1) _ _ _ _ _ _ _ S.own.sub g25 g33 h43)) ?_
    rintro _ u41 a ⟨_,rfl,hC⟩ E
    refine ⟨.of hC.agr,?_⟩
    replace S:=S.lent hC
    refine mny 0 hst E (.r 23 2 .nil) (fun a E=>?_)
    refine dn ?_
    exact J48 _ (by omega) _ (!t42) _ _ E .of S H
   replace E:=E.kfn 28 c34
   refine mny 0 hst E (.r 12 13 .nil) (fun a E=>?_)
   refine dn ?_
   exact J48 _ (by omega) _ true _ _ E .of S H
  refine wp_exit ?_
  refine hK6 _ _ (rr E fun a E=>(wp_ret ?_))
  obtain rfl:=si H
  exact rt1 E ⟨_,rfl,_,rfl,S⟩
 refine rr E fun a E=>(wp_ret (qBb ?_))
 obtain rfl:=si H
 exact rt1 E ⟨_,rfl,_,rfl,S⟩
mutual
def qi.l9:Nat→List qC→List qC→Int→Option Bool
 | 0,_,_,_=>none
 | k+1,x,y,x8=>if x8<(x.length:Int) then (if 0≤x8∧x8<(x.length:Int) then (if 0≤x8∧x8<(y.length:Int) then (if (nth qC.z x x8).f0=(nth qC.z y x8).f0 then ((ql.f k ((nth qC.z x x8).f1) ((nth qC.z y x8).f1)).bind fun t42=>(qi.j45 k x y x8 (!t42))) else (qi.j45 k x y x8 true)) else (none)) else (none)) else (some true)
def qi.j45:Nat→List qC→List qC→Int→Bool→Option Bool
 | 0,_,_,_,_=>none
 | k+1,x,y,x8,y44=>if y44=true then (some false) else (qi.l9 k x y (w64 (x8+1)))
end
theorem qi.l9_s k x y x8:type_of% (qi.l9.eq_2 x y x8 k):=qi.l9.eq_2 x y x8 k
theorem qi.j45_s k x y x8 y44:type_of% (qi.j45.eq_2 x y x8 y44 k):=qi.j45.eq_2 x y x8 y44 k
def qi.f(k:Nat)(x:List qC)(y:List qC):Option Bool:=if (x.length:Int)=(y.length:Int) then (qi.l9 k x y 0) else (some false)
def qi.Post(W F:World)(r:Bool)(v:Value)(w':World):Prop:=∃(F':World),v = .bool r∧Sm W F w' F' []
theorem qi.calls(k:Nat)(x:List qC)(y:List qC)(A0_0:OA)(c0_0:Nat)(A1_0:OA)(c1_0:Nat)(r:Bool)(W F:World)(hown:Sub F W)(g0_0:Rd qC.k F A0_0 c0_0 x)(g1_0:Rd qC.k F A1_0 c1_0 y)(H:qi.f k x y=some r):
    Cr 66 #[.slice A0_0 x.length c0_0,.slice A1_0 y.length c1_0] W (qi.Post W F r):=by
 have S:=St.start (Own.nil hown)
 unfold qi.f at H
 refine ent 42 rfl rfl rfl (fun a E=>?_)
 refine rr E fun a E=>(sq fun K2 hK2=>rr E fun a E=>?_)
 refine E.ikn 10 H (fun c4 E H=>?_) fun c4 E H=>?_
 ·
  refine wp_skip (hK2 _ _ (sq fun K6 hK6=>rr E fun a E=>(wp_block ?_)))
  refine wp_loop_ghost (fun kq10 a w'=>∃(G:NV)(x8:Int),kq10≤k∧Env 42 G a∧At G [(0,.slice A0_0 x.length c0_0),(1,.slice A1_0 y.length c1_0),(5,iv x8)]∧Sm W F w' F []∧qi.l9 kq10 x y x8=some r) k ⟨_,0,Nat.le_refl _,E,.of,S,H⟩ ?_
  rintro kq10 a u12 ⟨G,x8,hkq,E,A,S,H⟩
  obtain _ | k11:=kq10
  ·
   exact zz H
  rw [qi.l9_s]at H
  obtain ⟨J,E⟩:=E.at A
  refine sq fun K13 hK13=>rr E fun a E=>?_
  refine E.ik 14 H (fun c15 E H=>?_) fun c15 E H=>?_
  ·
   refine wp_skip (hK13 _ _ (sq fun K16 hK16=>wp_block (sq fun K17 hK17=>?_)))
   have J48:∀ kq46,kq46≤k11→∀(G:NV)(y44:Bool)(a:Act)(w':World),Env 42 G a→At G [(0,.slice A0_0 x.length c0_0),(1,.slice A1_0 y.length c1_0),(5,iv x8),(41,.bool y44)]→Sm W F w' F []→qi.j45 kq46 x y x8 y44=some r→K17 a w':=by
    intro kq46 hkq G y44 a u49 E A S H
    obtain _ | k47:=kq46
    ·
     exact zz H
    rw [qi.j45_s]at H
    obtain ⟨J,E⟩:=E.at A
    refine hK17 _ _ ?_
    refine E.ib 41 H (fun c50 E H=>?_) fun c50 E H=>?_
    ·
     refine rr E fun a E=>(wp_ret (qBc (qBb (qBb (qBc (qBb ?_))))))
     obtain rfl:=si H
     exact rt1 E ⟨_,rfl,_,rfl,S⟩
    refine wp_skip ?_
    refine qBd ?_
    refine hK16 _ _ (pl0 (plc E (.r 0 3 .nil) (fun a E=>pld ?_)))
    exact qBf ⟨k47,by omega,_,(w64 (x8+1)),by omega,E,.of,S,H⟩
   refine drawn 25 ⟨[],[],fun q=>False⟩ mixed rfl (by kernel_rfl) (fun hst=>?_)
   replace S:=S.drew
   obtain ⟨c18,H⟩:=gd H
   have hE_:=E
   obtain ⟨ad19,rfl⟩:=g0_0.addr c18.1 c18.2
   replace E:=hE_
   obtain ⟨cs21,⟨A23,c24,rfl,g25⟩,hc22⟩:=g0_0.el qC.z x8 c18.1 c18.2
   obtain ⟨c26,H⟩:=gd H
   have hE_:=E
   obtain ⟨ad27,rfl⟩:=g1_0.addr c26.1 c26.2
   replace E:=hE_
   obtain ⟨cs29,⟨A31,c32,rfl,g33⟩,hc30⟩:=g1_0.el qC.z x8 c26.1 c26.2
   refine mny 13 hst E (.r 0 2<|.x 2 c18<|.r 3 1<|.c 4 (S.fc hc22 0)<|.r 5 2<|.x 7 c26<|.r 8 1<|.c 9 (S.fc hc30 0)<|.r 10 2<|.nil) (fun a E=>?_)
   rcases sp H with ⟨c34,H⟩ | ⟨c34,H⟩
   ·
    replace E:=E.ktn 28 c34
    refine mny 3 hst E (.r 12 2<|.x 14 c18<|.r 15 1<|.c 16 (S.fc hc22 1)<|.r 17 2<|.x 19 c26<|.r 20 1<|.c 21 (S.fc hc30 1)<|.nil) (fun a E=>?_)
    obtain ⟨t42,h43,H⟩:=bd H
    refine on1 22 E (.cl en54 (ql.calls k11 ((nth qC.z x x8).f1) ((nth qC.z y x8).f1) _ _ _ _ _ _ _ S.own.sub g25 g33 h43)) ?_
    rintro _ u41 a ⟨_,rfl,hC⟩ E
    refine ⟨.of hC.agr,?_⟩
    replace S:=S.lent hC
    refine mny 0 hst E (.r 23 2 .nil) (fun a E=>?_)
    refine dn ?_
    exact J48 _ (by omega) _ (!t42) _ _ E .of S H
   replace E:=E.kfn 28 c34
   refine mny 0 hst E (.r 12 13 .nil) (fun a E=>?_)
   refine dn ?_
   exact J48 _ (by omega) _ true _ _ E .of S H
  refine wp_exit ?_
  refine hK6 _ _ (rr E fun a E=>(wp_ret ?_))
  obtain rfl:=si H
  exact rt1 E ⟨_,rfl,_,rfl,S⟩
 refine rr E fun a E=>(wp_ret (qBb ?_))
 obtain rfl:=si H
 exact rt1 E ⟨_,rfl,_,rfl,S⟩
mutual
def qd.j17:Nat→qF→qF→Bool→Option Bool
 | 0,_,_,_=>none
 | k+1,x,y,y16=>if y16=true then (some false) else (qd.l27 k x y 0)
def qd.l27:Nat→qF→qF→Int→Option Bool
 | 0,_,_,_=>none
 | k+1,x,y,x26=>if x26<(x.f5.length:Int) then (if 0≤x26∧x26<(x.f5.length:Int) then (if 0≤x26∧x26<(y.f5.length:Int) then (if (nth qD.z x.f5 x26).f0=(nth qD.z y.f5 x26).f0 then ((qm.f k ((nth qD.z x.f5 x26).f1) ((nth qD.z y.f5 x26).f1)).bind fun t60=>(qd.j63 k x y x26 (!t60))) else (qd.j63 k x y x26 true)) else (none)) else (none)) else ((qi.f k x.f6 y.f6).bind fun t72=>(some t72))
def qd.j63:Nat→qF→qF→Int→Bool→Option Bool
 | 0,_,_,_,_=>none
 | k+1,x,y,x26,y62=>if y62=true then (some false) else (qd.l27 k x y (w64 (x26+1)))
end
theorem qd.j17_s k x y y16:type_of% (qd.j17.eq_2 x y y16 k):=qd.j17.eq_2 x y y16 k
theorem qd.l27_s k x y x26:type_of% (qd.l27.eq_2 x y x26 k):=qd.l27.eq_2 x y x26 k
theorem qd.j63_s k x y x26 y62:type_of% (qd.j63.eq_2 x y x26 y62 k):=qd.j63.eq_2 x y x26 y62 k
def qd.f(k:Nat)(x:qF)(y:qF):Option Bool:=if x.f0=y.f0 then (if x.f1=y.f1 then (if x.f2=y.f2 then (if x.f3=y.f3 then ((qAF.f k x.f4 y.f4).bind fun t13=>(if t13=true then (qd.j17 k x y (!((x.f5.length:Int) == (y.f5.length:Int)))) else (qd.j17 k x y true))) else (qd.j17 k x y true)) else (qd.j17 k x y true)) else (qd.j17 k x y true)) else (qd.j17 k x y true)
def qd.Post(W F:World)(r:Bool)(v:Value)(w':World):Prop:=∃(F':World),v = .bool r∧Sm W F w' F' []
theorem qd.calls(k:Nat)(x:qF)(y:qF)(A0_4:OA)(c0_4:Nat)(A0_5:OA)(c0_5:Nat)(A0_6:OA)(c0_6:Nat)(A1_4:OA)(c1_4:Nat)(A1_5:OA)(c1_5:Nat)(A1_6:OA)(c1_6:Nat)(r:Bool)(W F:World)(hown:Sub F W)(g0_4:Rd qA.k F A0_4 c0_4 x.f4)(g0_5:Rd qD.k F A0_5 c0_5 x.f5)(g0_6:Rd qC.k F A0_6 c0_6 x.f6)(g1_4:Rd qA.k F A1_4 c1_4 y.f4)(g1_5:Rd qD.k F A1_5 c1_5 y.f5)(g1_6:Rd qC.k F A1_6 c1_6 y.f6)(H:qd.f k x y=some r):
    Cr 16 #[.agg #[iv x.f0,iv x.f1,iv x.f2,iv x.f3,.slice A0_4 x.f4.length c0_4,.slice A0_5 x.f5.length c0_5,.slice A0_6 x.f6.length c0_6],.agg #[iv y.f0,iv y.f1,iv y.f2,iv y.f3,.slice A1_4 y.f4.length c1_4,.slice A1_5 y.f5.length c1_5,.slice A1_6 y.f6.length c1_6]] W (qd.Post W F r):=by
 have S:=St.start (Own.nil hown)
 unfold qd.f at H
 refine ent 90 rfl rfl rfl (fun a E=>?_)
 refine sq fun K1 hK1=>pl0 (ple E (.bx (t:=26) S [iv x.f0,iv x.f1,iv x.f2,iv x.f3,.slice A0_4 x.f4.length c0_4,.slice A0_5 x.f5.length c0_5,.slice A0_6 x.f6.length c0_6]) ?_)
 rintro _ u3 a ⟨b2,rfl,hb2,S,hg⟩ E
 refine ple E (.bx (t:=26) S [iv y.f0,iv y.f1,iv y.f2,iv y.f3,.slice A1_4 y.f4.length c1_4,.slice A1_5 y.f5.length c1_5,.slice A1_6 y.f6.length c1_6]) ?_
 rintro _ u5 a ⟨b4,rfl,hb4,S,hg⟩ E
 refine plc E (.r 2 1 .nil) (fun a E=>pld (hK1 _ _ (sq fun K6 hK6=>sq fun K7 hK7=>?_)))
 have J20:∀ kq18,kq18≤k→∀(G:NV)(y16:Bool)(a:Act)(w':World),Env 90 G a→At G [(2,.pointer (pb b2)),(3,.pointer (pb b4)),(48,.bool y16)]→Sm W F w' F [box b4 #[iv y.f0,iv y.f1,iv y.f2,iv y.f3,.slice A1_4 y.f4.length c1_4,.slice A1_5 y.f5.length c1_5,.slice A1_6 y.f6.length c1_6] 26,box b2 #[iv x.f0,iv x.f1,iv x.f2,iv x.f3,.slice A0_4 x.f4.length c0_4,.slice A0_5 x.f5.length c0_5,.slice A0_6 x.f6.length c0_6] 26]→qd.j17 kq18 x y y16=some r→K7 a w':=by
  intro kq18 hkq G y16 a u21 E A S H
  obtain _ | k19:=kq18
  ·
   exact zz H
  rw [qd.j17_s]at H
  obtain ⟨J,E⟩:=E.at A
  refine hK7 _ _ ?_
  refine E.ib 48 H (fun c22 E H=>?_) fun c22 E H=>?_
  ·
   refine rr E fun a E=>(wp_ret (qBb ?_))
   replace S:=S.pm [] 2
   obtain rfl:=si H
   exact rt1 E ⟨_,rfl,_,rfl,S⟩
  refine wp_skip (hK6 _ _ (sq fun K24 hK24=>rr E fun a E=>(wp_block ?_)))
  refine wp_loop_ghost (fun kq28 a w'=>∃(G:NV)(x26:Int),kq28≤k19∧Env 90 G a∧At G [(2,.pointer (pb b2)),(3,.pointer (pb b4)),(5,iv x26)]∧Sm W F w' F [box b4 #[iv y.f0,iv y.f1,iv y.f2,iv y.f3,.slice A1_4 y.f4.length c1_4,.slice A1_5 y.f5.length c1_5,.slice A1_6 y.f6.length c1_6] 26,box b2 #[iv x.f0,iv x.f1,iv x.f2,iv x.f3,.slice A0_4 x.f4.length c0_4,.slice A0_5 x.f5.length c0_5,.slice A0_6 x.f6.length c0_6] 26]∧qd.l27 kq28 x y x26=some r) k19 ⟨_,0,Nat.le_refl _,E,.of,S,H⟩ ?_
  rintro kq28 a u30 ⟨G,x26,hkq,E,A,S,H⟩
  obtain _ | k29:=kq28
  ·
   exact zz H
  rw [qd.l27_s]at H
  obtain ⟨J,E⟩:=E.at A
  refine sq fun K31 hK31=>sq fun K32 hK32=>pl0 ?_
  have hb2:=S.ba 1
  refine plc E (.r 0 2<|.b 2 5 hb2<|.r 3 2<|.nil) (fun a E=>pld (hK32 _ _ ?_))
  refine E.ik 53 H (fun c33 E H=>?_) fun c33 E H=>?_
  ·
   refine wp_skip (hK31 _ _ (sq fun K34 hK34=>wp_block (sq fun K35 hK35=>?_)))
   have J66:∀ kq64,kq64≤k29→∀(G:NV)(y62:Bool)(a:Act)(w':World),Env 90 G a→At G [(2,.pointer (pb b2)),(3,.pointer (pb b4)),(5,iv x26),(84,.bool y62)]→Sm W F w' F [box b4 #[iv y.f0,iv y.f1,iv y.f2,iv y.f3,.slice A1_4 y.f4.length c1_4,.slice A1_5 y.f5.length c1_5,.slice A1_6 y.f6.length c1_6] 26,box b2 #[iv x.f0,iv x.f1,iv x.f2,iv x.f3,.slice A0_4 x.f4.length c0_4,.slice A0_5 x.f5.length c0_5,.slice A0_6 x.f6.length c0_6] 26]→qd.j63 kq64 x y x26 y62=some r→K35 a w':=by
    intro kq64 hkq G y62 a u67 E A S H
    obtain _ | k65:=kq64
    ·
     exact zz H
    rw [qd.j63_s]at H
    obtain ⟨J,E⟩:=E.at A
    refine hK35 _ _ ?_
    refine E.ib 84 H (fun c68 E H=>?_) fun c68 E H=>?_
    ·
     refine rr E fun a E=>(wp_ret (qBc (qBb (qBb (qBc (qBb ?_))))))
     replace S:=S.pm [] 2
     obtain rfl:=si H
     exact rt1 E ⟨_,rfl,_,rfl,S⟩
    refine wp_skip ?_
    refine qBd ?_
    refine hK34 _ _ (pl0 (plc E (.r 0 3 .nil) (fun a E=>pld ?_)))
    exact qBf ⟨k65,by omega,_,(w64 (x26+1)),by omega,E,.of,S,H⟩
   refine drawn 29 ⟨[],[],fun q=>False⟩ mixed rfl (by kernel_rfl) (fun hst=>?_)
   replace S:=S.drew
   have hb2:=S.ba 1
   obtain ⟨c36,H⟩:=gd H
   have hE_:=E
   obtain ⟨ad37,rfl⟩:=g0_5.addr c36.1 c36.2
   replace E:=hE_
   obtain ⟨cs39,⟨A41,c42,rfl,g43⟩,hc40⟩:=g0_5.el qD.z x26 c36.1 c36.2
   have hb4:=S.ba 0
   obtain ⟨c44,H⟩:=gd H
   have hE_:=E
   obtain ⟨ad45,rfl⟩:=g1_5.addr c44.1 c44.2
   replace E:=hE_
   obtain ⟨cs47,⟨A49,c50,rfl,g51⟩,hc48⟩:=g1_5.el qD.z x26 c44.1 c44.2
   refine mny 15 hst E (.r 0 1<|.b 1 5 hb2<|.r 2 1<|.x 3 c36<|.r 4 1<|.c 5 (S.fc hc40 0)<|.r 6 1<|.b 7 5 hb4<|.r 8 1<|.x 9 c44<|.r 10 1<|.c 11 (S.fc hc48 0)<|.r 12 2<|.nil) (fun a E=>?_)
   rcases sp H with ⟨c52,H⟩ | ⟨c52,H⟩
   ·
    replace E:=E.ktn 69 c52
    refine mny 3 hst E (.r 14 1<|.b 15 5 hb2<|.r 16 1<|.x 17 c36<|.r 18 1<|.c 19 (S.fc hc40 1)<|.r 20 1<|.b 21 5 hb4<|.r 22 1<|.x 23 c44<|.r 24 1<|.c 25 (S.fc hc48 1)<|.nil) (fun a E=>?_)
    obtain ⟨t60,h61,H⟩:=bd H
    refine on1 26 E (.cl en21 (qm.calls k29 ((nth qD.z x.f5 x26).f1) ((nth qD.z y.f5 x26).f1) _ _ _ _ _ _ _ S.own.sub g43 g51 h61)) ?_
    rintro _ u59 a ⟨_,rfl,hC⟩ E
    refine ⟨.of hC.agr,?_⟩
    replace S:=S.lent hC
    refine mny 0 hst E (.r 27 2 .nil) (fun a E=>?_)
    refine dn ?_
    exact J66 _ (by omega) _ (!t60) _ _ E .of S H
   replace E:=E.kfn 69 c52
   refine mny 0 hst E (.r 14 15 .nil) (fun a E=>?_)
   refine dn ?_
   exact J66 _ (by omega) _ true _ _ E .of S H
  refine wp_exit ?_
  refine hK24 _ _ (sq fun K70 hK70=>pl0 ?_)
  have hb4:=S.ba 0
  refine plc E (.r 0 1<|.b 1 6 hb2<|.r 2 1<|.b 3 6 hb4<|.nil) (fun a E=>?_)
  obtain ⟨t72,h73,H⟩:=bd H
  refine ple E (.cl en66 (qi.calls k29 x.f6 y.f6 _ _ _ _ _ _ _ S.own.sub g0_6 g1_6 h73)) ?_
  rintro _ u71 a ⟨_,rfl,hC⟩ E
  replace S:=S.lent hC
  refine plc E (.r 5 1 .nil) (fun a E=>pld (hK70 _ _ (wp_ret ?_)))
  replace S:=S.pm [] 2
  obtain rfl:=si H
  exact rt1 E ⟨_,rfl,_,rfl,S⟩
 refine pl0 ?_
 have hb2:=S.ba 1
 refine plc E (.r 0 1<|.b 1 0 hb2<|.r 2 1<|.b 3 0 hb4<|.r 4 2<|.nil) (fun a E=>?_)
 rcases sp H with ⟨c8,H⟩ | ⟨c8,H⟩
 ·
  replace E:=E.ktn 11 c8
  refine plc E (.r 6 1<|.b 7 1 hb2<|.r 8 1<|.b 9 1 hb4<|.r 10 3<|.nil) (fun a E=>?_)
  rcases sp H with ⟨c9,H⟩ | ⟨c9,H⟩
  ·
   replace E:=E.ktn 18 c9
   refine plc E (.r 13 1<|.b 14 2 hb2<|.r 15 1<|.b 16 2 hb4<|.r 17 3<|.nil) (fun a E=>?_)
   rcases sp H with ⟨c10,H⟩ | ⟨c10,H⟩
   ·
    replace E:=E.ktn 25 c10
    refine plc E (.r 20 1<|.b 21 3 hb2<|.r 22 1<|.b 23 3 hb4<|.r 24 3<|.nil) (fun a E=>?_)
    rcases sp H with ⟨c11,H⟩ | ⟨c11,H⟩
    ·
     replace E:=E.ktn 32 c11
     refine plc E (.r 27 1<|.b 28 4 hb2<|.r 29 1<|.b 30 4 hb4<|.nil) (fun a E=>?_)
     obtain ⟨t13,h14,H⟩:=bd H
     refine ple E (.cl en65 (qAF.calls k x.f4 y.f4 _ _ _ _ _ _ _ S.own.sub g0_4 g1_4 h14)) ?_
     rintro _ u12 a ⟨_,rfl,hC⟩ E
     replace S:=S.lent hC
     refine plc E (.r 32 3 .nil) (fun a E=>?_)
     rcases sp H with ⟨c15,H⟩ | ⟨c15,H⟩
     ·
      replace E:=E.btn 40 c15
      have hb2:=S.ba 1
      have hb4:=S.ba 0
      refine plc E (.r 35 1<|.b 36 5 hb2<|.r 37 2<|.b 39 5 hb4<|.r 40 3<|.nil) (fun a E=>pld ?_)
      exact J20 _ (by omega) _ (!((x.f5.length:Int) == (y.f5.length:Int))) _ _ E .of S H
     replace E:=E.bfn 40 c15
     refine plc E (.r 35 8 .nil) (fun a E=>pld ?_)
     exact J20 _ (by omega) _ true _ _ E .of S H
    replace E:=E.kfn 32 c11
    refine plc E (.r 27 16 .nil) (fun a E=>pld ?_)
    exact J20 _ (by omega) _ true _ _ E .of S H
   replace E:=E.kfn 25 c10
   refine plc E (.r 20 23 .nil) (fun a E=>pld ?_)
   exact J20 _ (by omega) _ true _ _ E .of S H
  replace E:=E.kfn 18 c9
  refine plc E (.r 13 30 .nil) (fun a E=>pld ?_)
  exact J20 _ (by omega) _ true _ _ E .of S H
 replace E:=E.kfn 11 c8
 refine plc E (.r 6 37 .nil) (fun a E=>pld ?_)
 exact J20 _ (by omega) _ true _ _ E .of S H
def qAb.f(x:Int)(y:Int)(z:Int):Option Bool:=if x≥y then (some (decide (x≤z))) else (some false)
def qAb.Post(W F:World)(r:Bool)(v:Value)(w':World):Prop:=∃(F':World),v = .bool r∧Sm W F w' F' []
theorem qAb.calls(x:Int)(y:Int)(z:Int)(r:Bool)(W F:World)(hown:Sub F W)(H:qAb.f x y z=some r):
    Cr 70 #[iv x,iv y,iv z] W (qAb.Post W F r):=by
 have S:=St.start (Own.nil hown)
 unfold qAb.f at H
 refine ent 15 rfl rfl rfl (fun a E=>?_)
 refine rr E fun a E=>(sq fun K2 hK2=>pl0 (plc E (.r 0 4 .nil) (fun a E=>?_)))
 rcases sp H with ⟨c3,H⟩ | ⟨c3,H⟩
 ·
  replace E:=E.kt 10 c3
  refine plc E (.r 4 5 .nil) (fun a E=>pld (hK2 _ _ (wp_ret ?_)))
  obtain rfl:=si H
  exact rt1 E ⟨_,rfl,_,rfl,S⟩
 replace E:=E.kf 10 c3
 refine plc E (.r 4 5 .nil) (fun a E=>pld (hK2 _ _ (wp_ret ?_)))
 obtain rfl:=si H
 exact rt1 E ⟨_,rfl,_,rfl,S⟩
def qBP.f(x:Int)(y:Int)(z:Int):Option Bool:=if x≥y then (some (decide (x≤z))) else (some false)
def qBP.Post(W F:World)(r:Bool)(v:Value)(w':World):Prop:=∃(F':World),v = .bool r∧Sm W F w' F' []
theorem qBP.calls(x:Int)(y:Int)(z:Int)(r:Bool)(W F:World)(hown:Sub F W)(H:qBP.f x y z=some r):
    Cr 141 #[iv x,iv y,iv z] W (qBP.Post W F r):=by
 have S:=St.start (Own.nil hown)
 unfold qBP.f at H
 refine ent 15 rfl rfl rfl (fun a E=>?_)
 refine rr E fun a E=>(sq fun K2 hK2=>pl0 (plc E (.r 0 4 .nil) (fun a E=>?_)))
 rcases sp H with ⟨c3,H⟩ | ⟨c3,H⟩
 ·
  replace E:=E.kt 10 c3
  refine plc E (.r 4 5 .nil) (fun a E=>pld (hK2 _ _ (wp_ret ?_)))
  obtain rfl:=si H
  exact rt1 E ⟨_,rfl,_,rfl,S⟩
 replace E:=E.kf 10 c3
 refine plc E (.r 4 5 .nil) (fun a E=>pld (hK2 _ _ (wp_ret ?_)))
 obtain rfl:=si H
 exact rt1 E ⟨_,rfl,_,rfl,S⟩
mutual
def qAA.l9:Nat→List qA→Int→Option Int
 | 0,_,_=>none
 | k+1,x,x8=>if x8<(x.length:Int) then (if 0≤x8∧x8<(x.length:Int) then ((qBP.f ((nth qA.z x x8).f0) 1 999).bind fun t28=>(if t28=true then ((qBP.f ((nth qA.z x x8).f1) 1 9).bind fun t32=>(if t32=true then ((qBP.f ((nth qA.z x x8).f2) 1 9).bind fun t36=>(if t36=true then ((qBP.f ((nth qA.z x x8).f3) 0 65536).bind fun t40=>(if t40=true then (if x8>0 then (if 0≤(w64 (x8 - 1))∧(w64 (x8 - 1))<(x.length:Int) then (qAA.j49 k x x8 (decide ((nth qA.z x x8).f0≤(nth qA.z x (w64 (x8 - 1))).f0))) else (none)) else (qAA.j49 k x x8 false)) else (qAA.j49 k x x8 true))) else (qAA.j49 k x x8 true))) else (qAA.j49 k x x8 true))) else (qAA.j49 k x x8 true))) else (none)) else (some 0)
def qAA.j49:Nat→List qA→Int→Bool→Option Int
 | 0,_,_,_=>none
 | k+1,x,x8,y48=>if y48=true then (some 1) else (qAA.l9 k x (w64 (x8+1)))
end
theorem qAA.l9_s k x x8:type_of% (qAA.l9.eq_2 x x8 k):=qAA.l9.eq_2 x x8 k
theorem qAA.j49_s k x x8 y48:type_of% (qAA.j49.eq_2 x x8 y48 k):=qAA.j49.eq_2 x x8 y48 k
def qAA.f(k:Nat)(x:List qA):Option Int:=if (x.length:Int)>12 then (some 1) else (qAA.l9 k x 0)
def qAA.Post(W F:World)(r:Int)(v:Value)(w':World):Prop:=∃(F':World),v=iv r∧Sm W F w' F' []
theorem qAA.calls(k:Nat)(x:List qA)(A0_0:OA)(c0_0:Nat)(r:Int)(W F:World)(hown:Sub F W)(g0_0:Rd qA.k F A0_0 c0_0 x)(H:qAA.f k x=some r):
    Cr 80 #[.slice A0_0 x.length c0_0] W (qAA.Post W F r):=by
 have S:=St.start (Own.nil hown)
 unfold qAA.f at H
 refine ent 53 rfl rfl rfl (fun a E=>?_)
 refine rr E fun a E=>(sq fun K2 hK2=>rr E fun a E=>?_)
 refine E.ik 7 H (fun c4 E H=>?_) fun c4 E H=>?_
 ·
  refine rr E fun a E=>(wp_ret (qBb ?_))
  obtain rfl:=si H
  exact rt1 E ⟨_,rfl,_,rfl,S⟩
 refine wp_skip (hK2 _ _ (sq fun K6 hK6=>rr E fun a E=>(wp_block ?_)))
 refine wp_loop_ghost (fun kq10 a w'=>∃(G:NV)(x8:Int),kq10≤k∧Env 53 G a∧At G [(0,.slice A0_0 x.length c0_0),(8,.slice A0_0 x.length c0_0),(9,iv (x.length:Int)),(10,iv x8)]∧Sm W F w' F []∧qAA.l9 kq10 x x8=some r) k ⟨_,0,Nat.le_refl _,E,.of,S,H⟩ ?_
 rintro kq10 a u12 ⟨G,x8,hkq,E,A,S,H⟩
 obtain _ | k11:=kq10
 ·
  exact zz H
 rw [qAA.l9_s]at H
 obtain ⟨J,E⟩:=E.at A
 refine rr E fun a E=>(sq fun K14 hK14=>?_)
 refine E.ik 11 H (fun c15 E H=>?_) fun c15 E H=>?_
 ·
  refine wp_skip (hK14 _ _ (sq fun K16 hK16=>wp_block (sq fun K17 hK17=>pl0 ?_)))
  obtain ⟨c18,H⟩:=gd H
  have hE_:=E
  obtain ⟨ad19,rfl⟩:=g0_0.addr c18.1 c18.2
  replace E:=hE_
  obtain ⟨cs21,rfl,hc22⟩:=g0_0.el qA.z x8 c18.1 c18.2
  refine plc E (.r 0 1<|.x 1 c18<|.cs 2 (S.fcs hc22)<|.nil) (fun a E=>ple E (.al (t:=104) S [iv 0,iv 0,iv 0,iv 0,.bool false,.bool false]) ?_)
  rintro _ u24 a ⟨b23,rfl,hb23,S,hg⟩ E
  refine plc E (.r 4 1 .nil) (fun a E=>ple E (.sto S [iv ((nth qA.z x x8).f0),iv ((nth qA.z x x8).f1),iv ((nth qA.z x x8).f2),iv ((nth qA.z x x8).f3),.bool ((nth qA.z x x8).f4),.bool ((nth qA.z x x8).f5)]) ?_)
  rintro _ u25 a ⟨rfl,hb23,S,hz⟩ E
  refine pld (hK17 _ _ (sq fun K26 hK26=>?_))
  have J52:∀ kq50,kq50≤k11→∀(G:NV)(y48:Bool)(a:Act)(w':World),Env 53 G a→At G [(0,.slice (some ad19) x.length c0_0),(8,.slice (some ad19) x.length c0_0),(9,iv (x.length:Int)),(10,iv x8),(51,.bool y48)]→Sm W F w' F [box b23 #[iv ((nth qA.z x x8).f0),iv ((nth qA.z x x8).f1),iv ((nth qA.z x x8).f2),iv ((nth qA.z x x8).f3),.bool ((nth qA.z x x8).f4),.bool ((nth qA.z x x8).f5)] 104]→qAA.j49 kq50 x x8 y48=some r→K26 a w':=by
   intro kq50 hkq G y48 a u53 E A S H
   obtain _ | k51:=kq50
   ·
    exact zz H
   rw [qAA.j49_s]at H
   obtain ⟨J,E⟩:=E.at A
   refine hK26 _ _ ?_
   refine E.ib 51 H (fun c54 E H=>?_) fun c54 E H=>?_
   ·
    refine rr E fun a E=>(wp_ret (qBc (qBb (qBb (qBc (qBb ?_))))))
    replace S:=S.tail
    obtain rfl:=si H
    exact rt1 E ⟨_,rfl,_,rfl,S⟩
   refine wp_skip ?_
   refine qBd ?_
   refine hK16 _ _ (pl0 (plc E (.r 0 2 .nil) (fun a E=>pld ?_)))
   replace S:=S.tail
   exact qBf ⟨k51,by omega,_,(w64 (x8+1)),by omega,E,.of,S,H⟩
  refine drawn 37 ⟨[],[],fun q=>False⟩ mixed rfl (by kernel_rfl) (fun hst=>?_)
  replace S:=S.drew
  have hb23:=S.ba 0
  refine mny 35 hst E (.r 0 1<|.b 1 0 hb23<|.nil) (fun a E=>?_)
  obtain ⟨t28,h29,H⟩:=bd H
  refine on1 2 E (.cl en141 (qBP.calls ((nth qA.z x x8).f0) 1 999 _ _ _ S.own.sub h29)) ?_
  rintro _ u27 a ⟨_,rfl,hC⟩ E
  refine ⟨.of hC.agr,?_⟩
  replace S:=S.lent hC
  refine mny 32 hst E (.r 3 2 .nil) (fun a E=>?_)
  rcases sp H with ⟨c30,H⟩ | ⟨c30,H⟩
  ·
   replace E:=E.btn 19 c30
   have hb23:=S.ba 0
   refine mny 30 hst E (.r 5 1<|.b 6 1 hb23<|.nil) (fun a E=>?_)
   obtain ⟨t32,h33,H⟩:=bd H
   refine on1 7 E (.cl en141 (qBP.calls ((nth qA.z x x8).f1) 1 9 _ _ _ S.own.sub h33)) ?_
   rintro _ u31 a ⟨_,rfl,hC⟩ E
   refine ⟨.of hC.agr,?_⟩
   replace S:=S.lent hC
   refine mny 26 hst E (.r 8 3 .nil) (fun a E=>?_)
   rcases sp H with ⟨c34,H⟩ | ⟨c34,H⟩
   ·
    replace E:=E.btn 25 c34
    have hb23:=S.ba 0
    refine mny 24 hst E (.r 11 1<|.b 12 2 hb23<|.nil) (fun a E=>?_)
    obtain ⟨t36,h37,H⟩:=bd H
    refine on1 13 E (.cl en141 (qBP.calls ((nth qA.z x x8).f2) 1 9 _ _ _ S.own.sub h37)) ?_
    rintro _ u35 a ⟨_,rfl,hC⟩ E
    refine ⟨.of hC.agr,?_⟩
    replace S:=S.lent hC
    refine mny 20 hst E (.r 14 3 .nil) (fun a E=>?_)
    rcases sp H with ⟨c38,H⟩ | ⟨c38,H⟩
    ·
     replace E:=E.btn 31 c38
     have hb23:=S.ba 0
     refine mny 18 hst E (.r 17 1<|.b 18 3 hb23<|.nil) (fun a E=>?_)
     obtain ⟨t40,h41,H⟩:=bd H
     refine on1 19 E (.cl en141 (qBP.calls ((nth qA.z x x8).f3) 0 65536 _ _ _ S.own.sub h41)) ?_
     rintro _ u39 a ⟨_,rfl,hC⟩ E
     refine ⟨.of hC.agr,?_⟩
     replace S:=S.lent hC
     refine mny 14 hst E (.r 20 3 .nil) (fun a E=>?_)
     rcases sp H with ⟨c42,H⟩ | ⟨c42,H⟩
     ·
      replace E:=E.btn 37 c42
      refine mny 11 hst E (.r 23 3 .nil) (fun a E=>?_)
      rcases sp H with ⟨c43,H⟩ | ⟨c43,H⟩
      ·
       replace E:=E.kt 40 c43
       have hb23:=S.ba 0
       obtain ⟨c44,H⟩:=gd H
       obtain ⟨cs46,rfl,hc47⟩:=g0_0.el qA.z (w64 (x8 - 1)) c44.1 c44.2
       refine mny 0 hst E (.r 26 1<|.b 27 0 hb23<|.r 28 3<|.x 31 c44<|.r 32 1<|.c 33 (S.fc hc47 0)<|.r 34 3<|.nil) (fun a E=>?_)
       refine dn ?_
       exact J52 _ (by omega) _ (decide ((nth qA.z x x8).f0≤(nth qA.z x (w64 (x8 - 1))).f0)) _ _ E .of S H
      replace E:=E.kf 40 c43
      refine mny 0 hst E (.r 26 11 .nil) (fun a E=>?_)
      refine dn ?_
      exact J52 _ (by omega) _ false _ _ E .of S H
     replace E:=E.bfn 37 c42
     refine mny 0 hst E (.r 23 14 .nil) (fun a E=>?_)
     refine dn ?_
     exact J52 _ (by omega) _ true _ _ E .of S H
    replace E:=E.bfn 31 c38
    refine mny 0 hst E (.r 17 20 .nil) (fun a E=>?_)
    refine dn ?_
    exact J52 _ (by omega) _ true _ _ E .of S H
   replace E:=E.bfn 25 c34
   refine mny 0 hst E (.r 11 26 .nil) (fun a E=>?_)
   refine dn ?_
   exact J52 _ (by omega) _ true _ _ E .of S H
  replace E:=E.bfn 19 c30
  refine mny 0 hst E (.r 5 32 .nil) (fun a E=>?_)
  refine dn ?_
  exact J52 _ (by omega) _ true _ _ E .of S H
 refine wp_exit ?_
 refine hK6 _ _ (rr E fun a E=>(wp_ret ?_))
 obtain rfl:=si H
 exact rt1 E ⟨_,rfl,_,rfl,S⟩
def qx.l5:Nat→List Int→Int→Int→Option Int
 | 0,_,_,_=>none
 | k+1,x,y,x4=>if x4<(x.length:Int) then (if 0≤x4∧x4<(x.length:Int) then (if y=(nth 0 x x4) then (some x4) else (qx.l5 k x y (w64 (x4+1)))) else (none)) else (some (-1))
theorem qx.l5_s k x y x4:type_of% (qx.l5.eq_2 x y x4 k):=qx.l5.eq_2 x y x4 k
def qx.f(k:Nat)(x:List Int)(y:Int):Option Int:=qx.l5 k x y 0
def qx.Post(W F:World)(r:Int)(v:Value)(w':World):Prop:=∃(F':World),v=iv r∧Sm W F w' F' []
theorem qx.calls(k:Nat)(x:List Int)(y:Int)(A0_0:OA)(c0_0:Nat)(r:Int)(W F:World)(hown:Sub F W)(g0_0:Rd ki F A0_0 c0_0 x)(H:qx.f k x y=some r):
    Cr 162 #[.slice A0_0 x.length c0_0,iv y] W (qx.Post W F r):=by
 have S:=St.start (Own.nil hown)
 unfold qx.f at H
 refine ent 19 rfl rfl rfl (fun a E=>?_)
 refine rr E fun a E=>(sq fun K2 hK2=>rr E fun a E=>(wp_block ?_))
 refine wp_loop_ghost (fun kq6 a w'=>∃(G:NV)(x4:Int),kq6≤k∧Env 19 G a∧At G [(0,.slice A0_0 x.length c0_0),(1,iv y),(7,iv (x.length:Int)),(8,iv x4)]∧Sm W F w' F []∧qx.l5 kq6 x y x4=some r) k ⟨_,0,Nat.le_refl _,E,.of,S,H⟩ ?_
 rintro kq6 a u8 ⟨G,x4,hkq,E,A,S,H⟩
 obtain _ | k7:=kq6
 ·
  exact zz H
 rw [qx.l5_s]at H
 obtain ⟨J,E⟩:=E.at A
 refine rr E fun a E=>(sq fun K10 hK10=>?_)
 refine E.ik 9 H (fun c11 E H=>?_) fun c11 E H=>?_
 ·
  refine wp_skip (hK10 _ _ (sq fun K12 hK12=>wp_block (rr E fun a E=>(sq fun K14 hK14=>pl0 ?_))))
  obtain ⟨c15,H⟩:=gd H
  have hE_:=E
  obtain ⟨ad16,rfl⟩:=g0_0.addr c15.1 c15.2
  replace E:=hE_
  obtain ⟨cs18,rfl,hc19⟩:=g0_0.el 0 x4 c15.1 c15.2
  refine plc E (.r 0 3<|.x 3 c15<|.c 4 (S.fc hc19 0)<|.r 5 1<|.nil) (fun a E=>pld (hK14 _ _ ?_))
  refine E.ik 16 H (fun c20 E H=>?_) fun c20 E H=>?_
  ·
   refine rr E fun a E=>(wp_ret (qBc (qBb (qBb (qBc (qBb ?_))))))
   obtain rfl:=si H
   exact rt1 E ⟨_,rfl,_,rfl,S⟩
  refine wp_skip ?_
  refine qBd ?_
  refine hK12 _ _ (pl0 (plc E (.r 0 2 .nil) (fun a E=>pld ?_)))
  exact qBf ⟨k7,by omega,_,(w64 (x4+1)),by omega,E,.of,S,H⟩
 refine wp_exit ?_
 refine hK2 _ _ (rr E fun a E=>(wp_ret ?_))
 obtain rfl:=si H
 exact rt1 E ⟨_,rfl,_,rfl,S⟩
def qAC.f(k:Nat)(x:List Int)(y:Int):Option Bool:=(qx.f k x y).bind fun t4=>(some (decide (t4≥0)))
def qAC.Post(W F:World)(r:Bool)(v:Value)(w':World):Prop:=∃(F':World),v = .bool r∧Sm W F w' F' []
theorem qAC.calls(k:Nat)(x:List Int)(y:Int)(A0_0:OA)(c0_0:Nat)(r:Bool)(W F:World)(hown:Sub F W)(g0_0:Rd ki F A0_0 c0_0 x)(H:qAC.f k x y=some r):
    Cr 118 #[.slice A0_0 x.length c0_0,iv y] W (qAC.Post W F r):=by
 have S:=St.start (Own.nil hown)
 unfold qAC.f at H
 refine ent 9 rfl rfl rfl (fun a E=>?_)
 refine rr E fun a E=>(sq fun K2 hK2=>pl0 (plc E (.r 0 2 .nil) (fun a E=>?_)))
 obtain ⟨t4,h5,H⟩:=bd H
 refine ple E (.cl en162 (qx.calls k x y _ _ _ _ _ S.own.sub g0_0 h5)) ?_
 rintro _ u3 a ⟨_,rfl,hC⟩ E
 replace S:=S.lent hC
 refine plc E (.r 3 2 .nil) (fun a E=>pld (hK2 _ _ (wp_ret ?_)))
 obtain rfl:=si H
 exact rt1 E ⟨_,rfl,_,rfl,S⟩
mutual
def qAD.l18:Nat→List qA→List Int→List Int→Int→Option Bool
 | 0,_,_,_,_=>none
 | k+1,x,y,l16,x17=>if x17<(y.length:Int) then (if 0≤x17∧x17<(y.length:Int) then (qAD.l35 k x y l16 x17 0) else (none)) else (some true)
def qAD.l35:Nat→List qA→List Int→List Int→Int→Int→Option Bool
 | 0,_,_,_,_,_=>none
 | k+1,x,y,l16,x17,x34=>if x34<(x.length:Int) then (if 0≤x34∧x34<(x.length:Int) then (if (nth qA.z x x34).f0=(nth 0 y x17) then ((qAC.f k l16 ((nth qA.z x x34).f1)).bind fun t55=>(qAD.j58 k x y l16 x17 x34 (!t55))) else (qAD.j58 k x y l16 x17 x34 false)) else (none)) else (some false)
def qAD.j58:Nat→List qA→List Int→List Int→Int→Int→Bool→Option Bool
 | 0,_,_,_,_,_,_=>none
 | k+1,x,y,l16,x17,x34,y57=>if y57=true then (if ((l16.length:Int)+((1:Nat):Int)) * 8≤140737488355328 then (qAD.l18 k x y (l16++[(nth qA.z x x34).f1]) (w64 (x17+1))) else (none)) else (qAD.l35 k x y l16 x17 (w64 (x34+1)))
end
theorem qAD.l18_s k x y l16 x17:type_of% (qAD.l18.eq_2 x y l16 x17 k):=qAD.l18.eq_2 x y l16 x17 k
theorem qAD.l35_s k x y l16 x17 x34:type_of% (qAD.l35.eq_2 x y l16 x17 x34 k):=qAD.l35.eq_2 x y l16 x17 x34 k
theorem qAD.j58_s k x y l16 x17 x34 y57:type_of% (qAD.j58.eq_2 x y l16 x17 x34 y57 k):=qAD.j58.eq_2 x y l16 x17 x34 y57 k
def qAD.f(k:Nat)(x:List qA)(y:List Int):Option Bool:=(qAA.f k x).bind fun t5=>(if t5=0 then (qAD.l18 k x y [] 0) else (some false))
def qAD.Post(W F:World)(r:Bool)(v:Value)(w':World):Prop:=∃(F':World),v = .bool r∧Sm W F w' F' []
theorem qAD.calls(k:Nat)(x:List qA)(y:List Int)(A0_0:OA)(c0_0:Nat)(A1_0:OA)(c1_0:Nat)(r:Bool)(W F:World)(hown:Sub F W)(g0_0:Rd qA.k F A0_0 c0_0 x)(g1_0:Rd ki F A1_0 c1_0 y)(H:qAD.f k x y=some r):
    Cr 81 #[.slice A0_0 x.length c0_0,.slice A1_0 y.length c1_0] W (qAD.Post W F r):=by
 have S:=St.start (Own.nil hown)
 unfold qAD.f at H
 refine ent 43 rfl rfl rfl (fun a E=>?_)
 refine rr E fun a E=>?_
 refine wp_scope_straight ?_
 refine sq fun K2 hK2=>sq fun K3 hK3=>pl0 (plc E (.r 0 1 .nil) (fun a E=>?_))
 obtain ⟨t5,h6,H⟩:=bd H
 refine ple E (.cl en80 (qAA.calls k x _ _ _ _ _ S.own.sub g0_0 h6)) ?_
 rintro _ u4 a ⟨_,rfl,hC⟩ E
 replace S:=S.lent hC
 refine plc E (.r 2 1 .nil) (fun a E=>pld (hK3 _ _ ?_))
 refine E.ikn 12 H (fun c7 E H=>?_) fun c7 E H=>?_
 ·
  refine wp_skip (hK2 _ _ (rr E fun a E=>(sq fun K10 hK10=>?_)))
  refine wp_label ?_
  refine hK10 _ _ (sq fun K11 hK11=>rr E fun a E=>(wp_block ?_))
  replace S:=S.nilrow ki 3
  refine wp_loop_ghost (fun kq19 a w'=>∃(G:NV)(A14:OA)(c15:Nat)(l16:List Int)(x17:Int),kq19≤k∧Env 43 G a∧At G [(0,.slice A0_0 x.length c0_0),(5,.slice A14 l16.length c15),(13,.slice A1_0 y.length c1_0),(14,iv (y.length:Int)),(15,iv x17)]∧Sm W F w' F [row ki 3 (.slice A14 l16.length c15) l16]∧qAD.l18 kq19 x y l16 x17=some r) k ⟨_,none,0,[],0,Nat.le_refl _,E,.of,S,H⟩ ?_
  rintro kq19 a u21 ⟨G,A14,c15,l16,x17,hkq,E,A,S,H⟩
  obtain _ | k20:=kq19
  ·
   exact zz H
  rw [qAD.l18_s]at H
  obtain ⟨J,E⟩:=E.at A
  refine rr E fun a E=>(sq fun K23 hK23=>?_)
  refine E.ik 16 H (fun c24 E H=>?_) fun c24 E H=>?_
  ·
   refine wp_skip (hK23 _ _ (sq fun K25 hK25=>wp_block (sq fun K26 hK26=>pl0 ?_)))
   obtain ⟨c27,H⟩:=gd H
   have hE_:=E
   obtain ⟨ad28,rfl⟩:=g1_0.addr c27.1 c27.2
   replace E:=hE_
   obtain ⟨cs30,rfl,hc31⟩:=g1_0.el 0 x17 c27.1 c27.2
   refine plc E (.x 0 c27<|.c 1 (S.fc hc31 0)<|.r 2 1<|.nil) (fun a E=>pld (hK26 _ _ (sq fun K32 hK32=>rr E fun a E=>(wp_block ?_))))
   refine wp_loop_ghost (fun kq36 a w'=>∃(G:NV)(x34:Int),kq36≤k20∧Env 43 G a∧At G [(0,.slice A0_0 x.length c0_0),(5,.slice A14 l16.length c15),(7,iv (nth 0 y x17)),(13,.slice (some ad28) y.length c1_0),(14,iv (y.length:Int)),(15,iv x17),(19,.slice A0_0 x.length c0_0),(20,iv (x.length:Int)),(21,iv x34)]∧Sm W F w' F [row ki 3 (.slice A14 l16.length c15) l16]∧qAD.l35 kq36 x y l16 x17 x34=some r) k20 ⟨_,0,Nat.le_refl _,E,.of,S,H⟩ ?_
   rintro kq36 a u38 ⟨G,x34,hkq,E,A,S,H⟩
   obtain _ | k37:=kq36
   ·
    exact zz H
   rw [qAD.l35_s]at H
   obtain ⟨J,E⟩:=E.at A
   refine rr E fun a E=>(sq fun K40 hK40=>?_)
   refine E.ik 22 H (fun c41 E H=>?_) fun c41 E H=>?_
   ·
    refine wp_skip (hK40 _ _ (sq fun K42 hK42=>wp_block (sq fun K43 hK43=>pl0 ?_)))
    obtain ⟨c44,H⟩:=gd H
    have hE_:=E
    obtain ⟨ad45,rfl⟩:=g0_0.addr c44.1 c44.2
    replace E:=hE_
    obtain ⟨cs47,rfl,hc48⟩:=g0_0.el qA.z x34 c44.1 c44.2
    refine plc E (.x 0 c44<|.cs 1 (S.fcs hc48)<|.nil) (fun a E=>ple E (.al (t:=104) S [iv 0,iv 0,iv 0,iv 0,.bool false,.bool false]) ?_)
    rintro _ u50 a ⟨b49,rfl,hb49,S,hg⟩ E
    refine ple E (.sto S [iv ((nth qA.z x x34).f0),iv ((nth qA.z x x34).f1),iv ((nth qA.z x x34).f2),iv ((nth qA.z x x34).f3),.bool ((nth qA.z x x34).f4),.bool ((nth qA.z x x34).f5)]) ?_
    rintro _ u51 a ⟨rfl,hb49,S,hz⟩ E
    refine pld (hK43 _ _ (sq fun K52 hK52=>?_))
    have J61:∀ kq59,kq59≤k37→∀(G:NV)(y57:Bool)(a:Act)(w':World),Env 43 G a→At G [(0,.slice (some ad45) x.length c0_0),(5,.slice A14 l16.length c15),(7,iv (nth 0 y x17)),(9,.pointer (pb b49)),(13,.slice (some ad28) y.length c1_0),(14,iv (y.length:Int)),(15,iv x17),(19,.slice (some ad45) x.length c0_0),(20,iv (x.length:Int)),(21,iv x34),(35,.bool y57)]→Sm W F w' F [box b49 #[iv ((nth qA.z x x34).f0),iv ((nth qA.z x x34).f1),iv ((nth qA.z x x34).f2),iv ((nth qA.z x x34).f3),.bool ((nth qA.z x x34).f4),.bool ((nth qA.z x x34).f5)] 104,row ki 3 (.slice A14 l16.length c15) l16]→qAD.j58 kq59 x y l16 x17 x34 y57=some r→K52 a w':=by
     intro kq59 hkq G y57 a u62 E A S H
     obtain _ | k60:=kq59
     ·
      exact zz H
     rw [qAD.j58_s]at H
     obtain ⟨J,E⟩:=E.at A
     refine hK52 _ _ ?_
     refine E.ib 35 H (fun c63 E H=>?_) fun c63 E H=>?_
     ·
      refine sq fun K64 hK64=>pl0 ?_
      have hb49:=S.ba 0
      refine plc E (.r 0 2<|.b 2 1 hb49<|.nil) (fun a E=>ple E (.lit (d:=ki) (e:=3) S [(nth qA.z x x34).f1] (.cons rfl .nil)) ?_)
      rintro _ u65 a ⟨A66,c67,rfl,S,hg⟩ E
      obtain ⟨c69,H⟩:=gd H
      replace S:=S.front 2 rfl
      refine ple E (.ap (d:=ki) 8 S (qCG (S.row_at (i:=1) rfl)) c69 c67) ?_
      rintro _ u72 a ⟨A70,c71,rfl,S,hz⟩ E
      refine plc E (.r 5 1 .nil) (fun a E=>pld (hK64 _ _ ?_))
      refine wp_exit ?_
      refine hK25 _ _ (pl0 (plc E (.r 0 2 .nil) (fun a E=>pld ?_)))
      replace S:=S.pm [0] 3
      exact qBf ⟨k60,by omega,_,A70,c71,(l16++[(nth qA.z x x34).f1]),(w64 (x17+1)),by omega,E,.of,S,H⟩
     refine wp_skip ?_
     refine qBd ?_
     refine hK42 _ _ (pl0 (plc E (.r 0 2 .nil) (fun a E=>pld ?_)))
     replace S:=S.tail
     exact qBf ⟨k60,by omega,_,(w64 (x34+1)),by omega,E,.of,S,H⟩
    refine pl0 (plc E (.r 0 1<|.b 1 0 hb49<|.r 2 3<|.nil) (fun a E=>?_))
    rcases sp H with ⟨c53,H⟩ | ⟨c53,H⟩
    ·
     replace E:=E.kt 29 c53
     refine plc E (.r 5 2<|.b 7 1 hb49<|.nil) (fun a E=>?_)
     obtain ⟨t55,h56,H⟩:=bd H
     refine ple E (.cl en118 (qAC.calls k37 l16 ((nth qA.z x x34).f1) _ _ _ _ _ (Sub.refl _) (S.rd_at (i:=1) rfl) h56)) ?_
     rintro _ u54 a ⟨_,rfl,hC⟩ E
     replace S:=S.lent hC
     refine plc E (.r 9 2 .nil) (fun a E=>pld ?_)
     exact J61 _ (by omega) _ (!t55) _ _ E .of S H
    replace E:=E.kf 29 c53
    refine plc E (.r 5 6 .nil) (fun a E=>pld ?_)
    exact J61 _ (by omega) _ false _ _ E .of S H
   refine wp_exit ?_
   refine hK32 _ _ (rr E fun a E=>(wp_ret (qBc (qBb (qBb (qBc (qBb (qCs ?_))))))))
   replace S:=S.tail
   obtain rfl:=si H
   exact rt1 E ⟨_,rfl,_,rfl,S⟩
  refine wp_exit ?_
  refine hK11 _ _ (rr E fun a E=>(wp_ret (qCs ?_)))
  replace S:=S.tail
  obtain rfl:=si H
  exact rt1 E ⟨_,rfl,_,rfl,S⟩
 refine rr E fun a E=>(wp_ret (qBb (qCs ?_)))
 obtain rfl:=si H
 exact rt1 E ⟨_,rfl,_,rfl,S⟩
def qn.l9:Nat→List Int→List Int→Int→Option Bool
 | 0,_,_,_=>none
 | k+1,x,y,x8=>if x8<(x.length:Int) then (if 0≤x8∧x8<(x.length:Int) then (if 0≤x8∧x8<(y.length:Int) then (if (nth 0 x x8)=(nth 0 y x8) then (qn.l9 k x y (w64 (x8+1))) else (some false)) else (none)) else (none)) else (some true)
theorem qn.l9_s k x y x8:type_of% (qn.l9.eq_2 x y x8 k):=qn.l9.eq_2 x y x8 k
def qn.f(k:Nat)(x:List Int)(y:List Int):Option Bool:=if (x.length:Int)=(y.length:Int) then (qn.l9 k x y 0) else (some false)
def qn.Post(W F:World)(r:Bool)(v:Value)(w':World):Prop:=∃(F':World),v = .bool r∧Sm W F w' F' []
theorem qn.calls(k:Nat)(x:List Int)(y:List Int)(A0_0:OA)(c0_0:Nat)(A1_0:OA)(c1_0:Nat)(r:Bool)(W F:World)(hown:Sub F W)(g0_0:Rd ki F A0_0 c0_0 x)(g1_0:Rd ki F A1_0 c1_0 y)(H:qn.f k x y=some r):
    Cr 90 #[.slice A0_0 x.length c0_0,.slice A1_0 y.length c1_0] W (qn.Post W F r):=by
 have S:=St.start (Own.nil hown)
 unfold qn.f at H
 refine ent 26 rfl rfl rfl (fun a E=>?_)
 refine rr E fun a E=>(sq fun K2 hK2=>rr E fun a E=>?_)
 refine E.ikn 10 H (fun c4 E H=>?_) fun c4 E H=>?_
 ·
  refine wp_skip (hK2 _ _ (sq fun K6 hK6=>rr E fun a E=>(wp_block ?_)))
  refine wp_loop_ghost (fun kq10 a w'=>∃(G:NV)(x8:Int),kq10≤k∧Env 26 G a∧At G [(0,.slice A0_0 x.length c0_0),(1,.slice A1_0 y.length c1_0),(12,iv (x.length:Int)),(13,iv x8)]∧Sm W F w' F []∧qn.l9 kq10 x y x8=some r) k ⟨_,0,Nat.le_refl _,E,.of,S,H⟩ ?_
  rintro kq10 a u12 ⟨G,x8,hkq,E,A,S,H⟩
  obtain _ | k11:=kq10
  ·
   exact zz H
  rw [qn.l9_s]at H
  obtain ⟨J,E⟩:=E.at A
  refine rr E fun a E=>(sq fun K14 hK14=>?_)
  refine E.ik 14 H (fun c15 E H=>?_) fun c15 E H=>?_
  ·
   refine wp_skip (hK14 _ _ (sq fun K16 hK16=>wp_block (rr E fun a E=>(sq fun K18 hK18=>?_))))
   refine drawn 9 ⟨[],[],fun q=>False⟩ mixed rfl (by kernel_rfl) (fun hst=>?_)
   replace S:=S.drew
   obtain ⟨c19,H⟩:=gd H
   have hE_:=E
   obtain ⟨ad20,rfl⟩:=g0_0.addr c19.1 c19.2
   replace E:=hE_
   obtain ⟨cs22,rfl,hc23⟩:=g0_0.el 0 x8 c19.1 c19.2
   obtain ⟨c24,H⟩:=gd H
   have hE_:=E
   obtain ⟨ad25,rfl⟩:=g1_0.addr c24.1 c24.2
   replace E:=hE_
   obtain ⟨cs27,rfl,hc28⟩:=g1_0.el 0 x8 c24.1 c24.2
   refine mny 0 hst E (.r 0 2<|.x 2 c19<|.c 3 (S.fc hc23 0)<|.r 4 2<|.x 6 c24<|.c 7 (S.fc hc28 0)<|.r 8 1<|.nil) (fun a E=>?_)
   refine dn ?_
   refine hK18 _ _ ?_
   refine E.ikn 24 H (fun c29 E H=>?_) fun c29 E H=>?_
   ·
    refine wp_skip ?_
    refine qBd ?_
    refine hK16 _ _ (pl0 (plc E (.r 0 2 .nil) (fun a E=>pld ?_)))
    exact qBf ⟨k11,by omega,_,(w64 (x8+1)),by omega,E,.of,S,H⟩
   refine rr E fun a E=>(wp_ret (qBc (qBb (qBb (qBc (qBb ?_))))))
   obtain rfl:=si H
   exact rt1 E ⟨_,rfl,_,rfl,S⟩
  refine wp_exit ?_
  refine hK6 _ _ (rr E fun a E=>(wp_ret ?_))
  obtain rfl:=si H
  exact rt1 E ⟨_,rfl,_,rfl,S⟩
 refine rr E fun a E=>(wp_ret (qBb ?_))
 obtain rfl:=si H
 exact rt1 E ⟨_,rfl,_,rfl,S⟩
def qBE.f(k:Nat)(x:qE)(xf0_:qE):Option Bool:=(qn.f k x.f1 xf0_.f1).bind fun t6=>(some t6)
def qBE.Post(W F:World)(r:Bool)(v:Value)(w':World):Prop:=∃(F':World),v = .bool r∧Sm W F w' F' []
theorem qBE.calls(k:Nat)(x:qE)(xf0_:qE)(A0_1:OA)(c0_1:Nat)(pf0_:Nat)(Af0_1:OA)(cf0_1:Nat)(r:Bool)(W F:World)(hown:Sub F W)(g0_1:Rd ki F A0_1 c0_1 x.f1)(gf0_1:Rd ki F Af0_1 cf0_1 xf0_.f1)(hpf0_:F.heap[pf0_]? = some (.cells #[iv xf0_.f0,.slice Af0_1 xf0_.f1.length cf0_1] 51 (0,0)))(H:qBE.f k x xf0_=some r):
    Cr 187 #[.agg #[iv x.f0,.slice A0_1 x.f1.length c0_1],.pointer (pb pf0_)] W (qBE.Post W F r):=by
 have S:=St.start (Own.nil hown)
 unfold qBE.f at H
 refine ent 9 rfl rfl rfl (fun a E=>?_)
 refine sq fun K1 hK1=>pl0 (ple E (.bx (t:=51) S [iv x.f0,.slice A0_1 x.f1.length c0_1]) ?_)
 rintro _ u3 a ⟨b2,rfl,hb2,S,hg⟩ E
 refine plc E (.r 1 1 .nil) (fun a E=>pld (hK1 _ _ (sq fun K4 hK4=>pl0 (plc E (.r 0 1<|.b 1 1 hb2<|.r 2 1<|.b 3 1 (S.own.sub _ _ _ _ hpf0_)<|.nil) (fun a E=>?_)))))
 obtain ⟨t6,h7,H⟩:=bd H
 refine ple E (.cl en90 (qn.calls k x.f1 xf0_.f1 _ _ _ _ _ _ _ S.own.sub g0_1 gf0_1 h7)) ?_
 rintro _ u5 a ⟨_,rfl,hC⟩ E
 replace S:=S.lent hC
 refine plc E (.r 5 1 .nil) (fun a E=>pld (hK4 _ _ (wp_ret ?_)))
 replace S:=S.tail
 obtain rfl:=si H
 exact rt1 E ⟨_,rfl,_,rfl,S⟩
def qT.l5:Nat→List qE→qE→Int→Option Int
 | 0,_,_,_=>none
 | k+1,x,x1c0_,x4=>if x4<(x.length:Int) then (if 0≤x4∧x4<(x.length:Int) then ((qBE.f k (nth qE.z x x4) x1c0_).bind fun t24=>(if t24=true then (some x4) else (qT.l5 k x x1c0_ (w64 (x4+1))))) else (none)) else (some (-1))
theorem qT.l5_s k x x1c0_ x4:type_of% (qT.l5.eq_2 x x1c0_ x4 k):=qT.l5.eq_2 x x1c0_ x4 k
def qT.f(k:Nat)(x:List qE)(x1c0_:qE):Option Int:=qT.l5 k x x1c0_ 0
def qT.Post(W F:World)(r:Int)(v:Value)(w':World):Prop:=∃(F':World),v=iv r∧Sm W F w' F' []
theorem qT.calls(k:Nat)(x:List qE)(x1c0_:qE)(A0_0:OA)(c0_0:Nat)(p1c0_:Nat)(A1c0_1:OA)(c1c0_1:Nat)(r:Int)(W F:World)(hown:Sub F W)(g0_0:Rd qE.k F A0_0 c0_0 x)(g1c0_1:Rd ki F A1c0_1 c1c0_1 x1c0_.f1)(hp1c0_:F.heap[p1c0_]? = some (.cells #[iv x1c0_.f0,.slice A1c0_1 x1c0_.f1.length c1c0_1] 51 (0,0)))(H:qT.f k x x1c0_=some r):
    Cr 163 #[.slice A0_0 x.length c0_0,.func (.func 187) #[] #[.pointer (pb p1c0_)]] W (qT.Post W F r):=by
 have S:=St.start (Own.nil hown)
 unfold qT.f at H
 refine ent 19 rfl rfl rfl (fun a E=>?_)
 refine rr E fun a E=>(sq fun K2 hK2=>rr E fun a E=>(wp_block ?_))
 refine wp_loop_ghost (fun kq6 a w'=>∃(G:NV)(x4:Int),kq6≤k∧Env 19 G a∧At G [(0,.slice A0_0 x.length c0_0),(1,.func (.func 187) #[] #[.pointer (pb p1c0_)]),(7,iv (x.length:Int)),(8,iv x4)]∧Sm W F w' F []∧qT.l5 kq6 x x1c0_ x4=some r) k ⟨_,0,Nat.le_refl _,E,.of,S,H⟩ ?_
 rintro kq6 a u8 ⟨G,x4,hkq,E,A,S,H⟩
 obtain _ | k7:=kq6
 ·
  exact zz H
 rw [qT.l5_s]at H
 obtain ⟨J,E⟩:=E.at A
 refine rr E fun a E=>(sq fun K10 hK10=>?_)
 refine E.ik 9 H (fun c11 E H=>?_) fun c11 E H=>?_
 ·
  refine wp_skip (hK10 _ _ (sq fun K12 hK12=>wp_block (rr E fun a E=>(sq fun K14 hK14=>pl0 ?_))))
  obtain ⟨c15,H⟩:=gd H
  have hE_:=E
  obtain ⟨ad16,rfl⟩:=g0_0.addr c15.1 c15.2
  replace E:=hE_
  obtain ⟨cs18,⟨A20,c21,rfl,g22⟩,hc19⟩:=g0_0.el qE.z x4 c15.1 c15.2
  refine plc E (.r 0 3<|.x 3 c15<|.cs 4 (S.fcs hc19)<|.nil) (fun a E=>?_)
  obtain ⟨t24,h25,H⟩:=bd H
  refine ple E (.cl en187 (qBE.calls k7 (nth qE.z x x4) x1c0_ _ _ _ _ _ _ _ _ S.own.sub g22 g1c0_1 hp1c0_ h25)) ?_
  rintro _ u23 a ⟨_,rfl,hC⟩ E
  replace S:=S.lent hC
  refine pld (hK14 _ _ ?_)
  refine E.ib 16 H (fun c26 E H=>?_) fun c26 E H=>?_
  ·
   refine rr E fun a E=>(wp_ret (qBc (qBb (qBb (qBc (qBb ?_))))))
   obtain rfl:=si H
   exact rt1 E ⟨_,rfl,_,rfl,S⟩
  refine wp_skip ?_
  refine qBd ?_
  refine hK12 _ _ (pl0 (plc E (.r 0 2 .nil) (fun a E=>pld ?_)))
  exact qBf ⟨k7,by omega,_,(w64 (x4+1)),by omega,E,.of,S,H⟩
 refine wp_exit ?_
 refine hK2 _ _ (rr E fun a E=>(wp_ret ?_))
 obtain rfl:=si H
 exact rt1 E ⟨_,rfl,_,rfl,S⟩
def qj.f(k:Nat)(x:List qE)(x1c0_:qE):Option Bool:=(qT.f k x x1c0_).bind fun t4=>(some (decide (t4≥0)))
def qj.Post(W F:World)(r:Bool)(v:Value)(w':World):Prop:=∃(F':World),v = .bool r∧Sm W F w' F' []
theorem qj.calls(k:Nat)(x:List qE)(x1c0_:qE)(A0_0:OA)(c0_0:Nat)(p1c0_:Nat)(A1c0_1:OA)(c1c0_1:Nat)(r:Bool)(W F:World)(hown:Sub F W)(g0_0:Rd qE.k F A0_0 c0_0 x)(g1c0_1:Rd ki F A1c0_1 c1c0_1 x1c0_.f1)(hp1c0_:F.heap[p1c0_]? = some (.cells #[iv x1c0_.f0,.slice A1c0_1 x1c0_.f1.length c1c0_1] 51 (0,0)))(H:qj.f k x x1c0_=some r):
    Cr 119 #[.slice A0_0 x.length c0_0,.func (.func 187) #[] #[.pointer (pb p1c0_)]] W (qj.Post W F r):=by
 have S:=St.start (Own.nil hown)
 unfold qj.f at H
 refine ent 9 rfl rfl rfl (fun a E=>?_)
 refine rr E fun a E=>(sq fun K2 hK2=>pl0 (plc E (.r 0 2 .nil) (fun a E=>?_)))
 obtain ⟨t4,h5,H⟩:=bd H
 refine ple E (.cl en163 (qT.calls k x x1c0_ _ _ _ _ _ _ _ _ S.own.sub g0_0 g1c0_1 hp1c0_ h5)) ?_
 rintro _ u3 a ⟨_,rfl,hC⟩ E
 replace S:=S.lent hC
 refine plc E (.r 3 2 .nil) (fun a E=>pld (hK2 _ _ (wp_ret ?_)))
 obtain rfl:=si H
 exact rt1 E ⟨_,rfl,_,rfl,S⟩
mutual
def qAE.l9:Nat→qF→qC→Int→Option Bool
 | 0,_,_,_=>none
 | k+1,x,y,x8=>if x8<(y.f1.length:Int) then (if 0≤x8∧x8<(y.f1.length:Int) then ((qAb.f ((nth qE.z y.f1 x8).f0) 0 (w64 (y.f0 - 1))).bind fun t32=>(if t32=true then (if x8>0 then (if 0≤(w64 (x8 - 1))∧(w64 (x8 - 1))<(y.f1.length:Int) then (if (nth qE.z y.f1 x8).f0≤(nth qE.z y.f1 (w64 (x8 - 1))).f0 then (qAE.j51 k x y x8 true) else ((qAb.f (((nth qE.z y.f1 x8).f1).length:Int) x.f2 x.f1).bind fun t45=>(qAE.j51 k x y x8 (!t45)))) else (none)) else ((qAb.f (((nth qE.z y.f1 x8).f1).length:Int) x.f2 x.f1).bind fun t48=>(qAE.j51 k x y x8 (!t48)))) else (qAE.j51 k x y x8 true))) else (none)) else (some true)
def qAE.j51:Nat→qF→qC→Int→Bool→Option Bool
 | 0,_,_,_,_=>none
 | k+1,x,y,x8,y50=>if y50=true then (some false) else (qAE.l61 k x y x8 0)
def qAE.l61:Nat→qF→qC→Int→Int→Option Bool
 | 0,_,_,_,_=>none
 | k+1,x,y,x8,x60=>if x60<(((nth qE.z y.f1 x8).f1).length:Int) then (if 0≤x60∧x60<(((nth qE.z y.f1 x8).f1).length:Int) then ((qAb.f (nth 0 ((nth qE.z y.f1 x8).f1) x60) 1 999).bind fun t77=>(if t77=true then (if x60>0 then (if 0≤(w64 (x60 - 1))∧(w64 (x60 - 1))<(((nth qE.z y.f1 x8).f1).length:Int) then (qAE.j86 k x y x8 x60 (decide ((nth 0 ((nth qE.z y.f1 x8).f1) x60)≤(nth 0 ((nth qE.z y.f1 x8).f1) (w64 (x60 - 1)))))) else (none)) else (qAE.j86 k x y x8 x60 false)) else (qAE.j86 k x y x8 x60 true))) else (none)) else (if 0≤x8∧x8≤(y.f1.length:Int) then ((qj.f k (cutl y.f1 0 x8) (nth qE.z y.f1 x8)).bind fun t100=>(if t100=true then (some false) else (qAE.l9 k x y (w64 (x8+1))))) else (none))
def qAE.j86:Nat→qF→qC→Int→Int→Bool→Option Bool
 | 0,_,_,_,_,_=>none
 | k+1,x,y,x8,x60,y85=>if y85=true then (some false) else (qAE.l61 k x y x8 (w64 (x60+1)))
end
theorem qAE.l9_s k x y x8:type_of% (qAE.l9.eq_2 x y x8 k):=qAE.l9.eq_2 x y x8 k
theorem qAE.j51_s k x y x8 y50:type_of% (qAE.j51.eq_2 x y x8 y50 k):=qAE.j51.eq_2 x y x8 y50 k
theorem qAE.l61_s k x y x8 x60:type_of% (qAE.l61.eq_2 x y x8 x60 k):=qAE.l61.eq_2 x y x8 x60 k
theorem qAE.j86_s k x y x8 x60 y85:type_of% (qAE.j86.eq_2 x y x8 x60 y85 k):=qAE.j86.eq_2 x y x8 x60 y85 k
def qAE.f(k:Nat)(x:qF)(y:qC):Option Bool:=qAE.l9 k x y 0
def qAE.Post(W F:World)(r:Bool)(v:Value)(w':World):Prop:=∃(F':World),v = .bool r∧Sm W F w' F' []
theorem qAE.calls(k:Nat)(x:qF)(y:qC)(A0_4:OA)(c0_4:Nat)(A0_5:OA)(c0_5:Nat)(A0_6:OA)(c0_6:Nat)(A1_1:OA)(c1_1:Nat)(r:Bool)(W F:World)(hown:Sub F W)(g0_4:Rd qA.k F A0_4 c0_4 x.f4)(g0_5:Rd qD.k F A0_5 c0_5 x.f5)(g0_6:Rd qC.k F A0_6 c0_6 x.f6)(g1_1:Rd qE.k F A1_1 c1_1 y.f1)(H:qAE.f k x y=some r):
    Cr 142 #[.agg #[iv x.f0,iv x.f1,iv x.f2,iv x.f3,.slice A0_4 x.f4.length c0_4,.slice A0_5 x.f5.length c0_5,.slice A0_6 x.f6.length c0_6],.agg #[iv y.f0,.slice A1_1 y.f1.length c1_1]] W (qAE.Post W F r):=by
 have S:=St.start (Own.nil hown)
 unfold qAE.f at H
 refine ent 84 rfl rfl rfl (fun a E=>?_)
 refine sq fun K1 hK1=>pl0 (ple E (.bx (t:=26) S [iv x.f0,iv x.f1,iv x.f2,iv x.f3,.slice A0_4 x.f4.length c0_4,.slice A0_5 x.f5.length c0_5,.slice A0_6 x.f6.length c0_6]) ?_)
 rintro _ u3 a ⟨b2,rfl,hb2,S,hg⟩ E
 refine ple E (.bx (t:=49) S [iv y.f0,.slice A1_1 y.f1.length c1_1]) ?_
 rintro _ u5 a ⟨b4,rfl,hb4,S,hg⟩ E
 refine plc E (.r 2 1 .nil) (fun a E=>pld (hK1 _ _ (sq fun K6 hK6=>rg E (.r 0 1<|.b 1 1 hb4<|.r 2 2<|.nil) fun a E=>(wp_block ?_))))
 refine wp_loop_ghost (fun kq10 a w'=>∃(G:NV)(x8:Int),kq10≤k∧Env 84 G a∧At G [(2,.pointer (pb b2)),(3,.pointer (pb b4)),(10,.slice A1_1 y.f1.length c1_1),(11,iv (y.f1.length:Int)),(12,iv x8)]∧Sm W F w' F [box b4 #[iv y.f0,.slice A1_1 y.f1.length c1_1] 49,box b2 #[iv x.f0,iv x.f1,iv x.f2,iv x.f3,.slice A0_4 x.f4.length c0_4,.slice A0_5 x.f5.length c0_5,.slice A0_6 x.f6.length c0_6] 26]∧qAE.l9 kq10 x y x8=some r) k ⟨_,0,Nat.le_refl _,E,.of,S,H⟩ ?_
 rintro kq10 a u12 ⟨G,x8,hkq,E,A,S,H⟩
 obtain _ | k11:=kq10
 ·
  exact zz H
 rw [qAE.l9_s]at H
 obtain ⟨J,E⟩:=E.at A
 refine rr E fun a E=>(sq fun K14 hK14=>?_)
 refine E.ik 13 H (fun c15 E H=>?_) fun c15 E H=>?_
 ·
  refine wp_skip (hK14 _ _ (sq fun K16 hK16=>wp_block (sq fun K17 hK17=>pl0 ?_)))
  obtain ⟨c18,H⟩:=gd H
  have hE_:=E
  obtain ⟨ad19,rfl⟩:=g1_1.addr c18.1 c18.2
  replace E:=hE_
  obtain ⟨cs21,⟨A23,c24,rfl,g25⟩,hc22⟩:=g1_1.el qE.z x8 c18.1 c18.2
  refine plc E (.r 0 1<|.x 1 c18<|.cs 2 (S.fcs hc22)<|.nil) (fun a E=>ple E (.al (t:=51) S [iv 0,.slice none 0 0]) ?_)
  rintro _ u27 a ⟨b26,rfl,hb26,S,hg⟩ E
  refine plc E (.r 4 1 .nil) (fun a E=>ple E (.sto S [iv ((nth qE.z y.f1 x8).f0),.slice A23 (((nth qE.z y.f1 x8).f1).length) c24]) ?_)
  rintro _ u28 a ⟨rfl,hb26,S,hz⟩ E
  refine pld (hK17 _ _ (sq fun K29 hK29=>sq fun K30 hK30=>?_))
  have J54:∀ kq52,kq52≤k11→∀(G:NV)(y50:Bool)(a:Act)(w':World),Env 84 G a→At G [(2,.pointer (pb b2)),(3,.pointer (pb b4)),(5,iv x8),(6,.pointer (pb b26)),(10,.slice (some ad19) y.f1.length c1_1),(11,iv (y.f1.length:Int)),(12,iv x8),(50,.bool y50)]→Sm W F w' F [box b26 #[iv ((nth qE.z y.f1 x8).f0),.slice A23 (((nth qE.z y.f1 x8).f1).length) c24] 51,box b4 #[iv y.f0,.slice (some ad19) y.f1.length c1_1] 49,box b2 #[iv x.f0,iv x.f1,iv x.f2,iv x.f3,.slice A0_4 x.f4.length c0_4,.slice A0_5 x.f5.length c0_5,.slice A0_6 x.f6.length c0_6] 26]→qAE.j51 kq52 x y x8 y50=some r→K30 a w':=by
   intro kq52 hkq G y50 a u55 E A S H
   obtain _ | k53:=kq52
   ·
    exact zz H
   rw [qAE.j51_s]at H
   obtain ⟨J,E⟩:=E.at A
   refine hK30 _ _ ?_
   refine E.ib 50 H (fun c56 E H=>?_) fun c56 E H=>?_
   ·
    refine rr E fun a E=>(wp_ret (qBb (qBc (qBb (qBb (qBc (qBb ?_)))))))
    replace S:=S.pm [] 3
    obtain rfl:=si H
    exact rt1 E ⟨_,rfl,_,rfl,S⟩
   refine wp_skip (hK29 _ _ (sq fun K58 hK58=>sq fun K59 hK59=>pl0 ?_))
   have hb26:=S.ba 0
   refine plc E (.r 0 1<|.b 1 1 hb26<|.r 2 2<|.nil) (fun a E=>pld (hK59 _ _ (wp_block ?_)))
   refine wp_loop_ghost (fun kq62 a w'=>∃(G:NV)(x60:Int),kq62≤k53∧Env 84 G a∧At G [(2,.pointer (pb b2)),(3,.pointer (pb b4)),(5,iv x8),(6,.pointer (pb b26)),(10,.slice (some ad19) y.f1.length c1_1),(11,iv (y.f1.length:Int)),(12,iv x8),(52,.slice A23 (((nth qE.z y.f1 x8).f1).length) c24),(53,iv (((nth qE.z y.f1 x8).f1).length:Int)),(54,iv x60)]∧Sm W F w' F [box b26 #[iv ((nth qE.z y.f1 x8).f0),.slice A23 (((nth qE.z y.f1 x8).f1).length) c24] 51,box b4 #[iv y.f0,.slice (some ad19) y.f1.length c1_1] 49,box b2 #[iv x.f0,iv x.f1,iv x.f2,iv x.f3,.slice A0_4 x.f4.length c0_4,.slice A0_5 x.f5.length c0_5,.slice A0_6 x.f6.length c0_6] 26]∧qAE.l61 kq62 x y x8 x60=some r) k53 ⟨_,0,Nat.le_refl _,E,.of,S,H⟩ ?_
   rintro kq62 a u64 ⟨G,x60,hkq,E,A,S,H⟩
   obtain _ | k63:=kq62
   ·
    exact zz H
   rw [qAE.l61_s]at H
   obtain ⟨J,E⟩:=E.at A
   refine rr E fun a E=>(sq fun K66 hK66=>?_)
   refine E.ik 55 H (fun c67 E H=>?_) fun c67 E H=>?_
   ·
    refine wp_skip (hK66 _ _ (sq fun K68 hK68=>wp_block (sq fun K69 hK69=>pl0 ?_)))
    obtain ⟨c70,H⟩:=gd H
    have hE_:=E
    obtain ⟨ad71,rfl⟩:=g25.addr c70.1 c70.2
    replace E:=hE_
    obtain ⟨cs73,rfl,hc74⟩:=g25.el 0 x60 c70.1 c70.2
    refine plc E (.r 0 1<|.x 1 c70<|.c 2 (S.fc hc74 0)<|.r 3 2<|.nil) (fun a E=>pld (hK69 _ _ (sq fun K75 hK75=>?_)))
    have J89:∀ kq87,kq87≤k63→∀(G:NV)(y85:Bool)(a:Act)(w':World),Env 84 G a→At G [(2,.pointer (pb b2)),(3,.pointer (pb b4)),(5,iv x8),(6,.pointer (pb b26)),(10,.slice (some ad19) y.f1.length c1_1),(11,iv (y.f1.length:Int)),(12,iv x8),(52,.slice (some ad71) (((nth qE.z y.f1 x8).f1).length) c24),(53,iv (((nth qE.z y.f1 x8).f1).length:Int)),(54,iv x60),(75,.bool y85)]→Sm W F w' F [box b26 #[iv ((nth qE.z y.f1 x8).f0),.slice (some ad71) (((nth qE.z y.f1 x8).f1).length) c24] 51,box b4 #[iv y.f0,.slice (some ad19) y.f1.length c1_1] 49,box b2 #[iv x.f0,iv x.f1,iv x.f2,iv x.f3,.slice A0_4 x.f4.length c0_4,.slice A0_5 x.f5.length c0_5,.slice A0_6 x.f6.length c0_6] 26]→qAE.j86 kq87 x y x8 x60 y85=some r→K75 a w':=by
     intro kq87 hkq G y85 a u90 E A S H
     obtain _ | k88:=kq87
     ·
      exact zz H
     rw [qAE.j86_s]at H
     obtain ⟨J,E⟩:=E.at A
     refine hK75 _ _ ?_
     refine E.ib 75 H (fun c91 E H=>?_) fun c91 E H=>?_
     ·
      refine rr E fun a E=>(wp_ret (qBc (qBb (qBb (qBc (qBb (qBc (qBb (qBb (qBc (qBb ?_)))))))))))
      replace S:=S.pm [] 3
      obtain rfl:=si H
      exact rt1 E ⟨_,rfl,_,rfl,S⟩
     refine wp_skip ?_
     refine qBd ?_
     refine hK68 _ _ (pl0 (plc E (.r 0 2 .nil) (fun a E=>pld ?_)))
     exact qBf ⟨k88,by omega,_,(w64 (x60+1)),by omega,E,.of,S,H⟩
    refine pl0 (plc E (.r 0 1 .nil) (fun a E=>?_))
    obtain ⟨t77,h78,H⟩:=bd H
    refine ple E (.cl en70 (qAb.calls (nth 0 ((nth qE.z y.f1 x8).f1) x60) 1 999 _ _ _ S.own.sub h78)) ?_
    rintro _ u76 a ⟨_,rfl,hC⟩ E
    replace S:=S.lent hC
    refine plc E (.r 2 2 .nil) (fun a E=>?_)
    rcases sp H with ⟨c79,H⟩ | ⟨c79,H⟩
    ·
     replace E:=E.btn 62 c79
     refine plc E (.r 4 3 .nil) (fun a E=>?_)
     rcases sp H with ⟨c80,H⟩ | ⟨c80,H⟩
     ·
      replace E:=E.kt 65 c80
      have hb26:=S.ba 0
      obtain ⟨c81,H⟩:=gd H
      obtain ⟨cs83,rfl,hc84⟩:=g25.el 0 (w64 (x60 - 1)) c81.1 c81.2
      refine plc E (.r 7 2<|.b 9 1 hb26<|.r 10 2<|.x 12 c81<|.c 13 (S.fc hc84 0)<|.r 14 3<|.nil) (fun a E=>pld ?_)
      exact J89 _ (by omega) _ (decide ((nth 0 ((nth qE.z y.f1 x8).f1) x60)≤(nth 0 ((nth qE.z y.f1 x8).f1) (w64 (x60 - 1))))) _ _ E .of S H
     replace E:=E.kf 65 c80
     refine plc E (.r 7 10 .nil) (fun a E=>pld ?_)
     exact J89 _ (by omega) _ false _ _ E .of S H
    replace E:=E.bfn 62 c79
    refine plc E (.r 4 13 .nil) (fun a E=>pld ?_)
    exact J89 _ (by omega) _ true _ _ E .of S H
   refine wp_exit ?_
   refine hK58 _ _ (sq fun K93 hK93=>pl0 ?_)
   have hb4:=S.ba 1
   obtain ⟨c94,H⟩:=gd H
   obtain ⟨A95,c96,g97,hv98⟩:=qFV (P:=Tryz.prog) g1_1 ⟨Int.le_refl _,c94.1,c94.2⟩ sz51
   refine plc E (.r 0 1<|.b 1 1 hb4<|.r 2 1<|.y 3 (hv98 (by kernel_rfl))<|.r 4 1<|.nil) (fun a E=>?_)
   obtain ⟨t100,h101,H⟩:=bd H
   refine ple E (.cl en119 (qj.calls k63 (cutl y.f1 0 x8) (nth qE.z y.f1 x8) _ _ _ _ _ _ _ _ (Sub.refl _) (g97.mono S.own.sub) (g25.mono S.own.sub) (S.ba 0) h101)) ?_
   rintro _ u99 a ⟨_,rfl,hC⟩ E
   replace S:=S.lent hC
   refine pld (hK93 _ _ ?_)
   refine E.ib 82 H (fun c102 E H=>?_) fun c102 E H=>?_
   ·
    refine rr E fun a E=>(wp_ret (qBc (qBb (qBb (qBc (qBb ?_))))))
    replace S:=S.pm [] 3
    obtain rfl:=si H
    exact rt1 E ⟨_,rfl,_,rfl,S⟩
   refine wp_skip ?_
   refine qBd ?_
   refine hK16 _ _ (pl0 (plc E (.r 0 2 .nil) (fun a E=>pld ?_)))
   replace S:=S.tail
   exact qBf ⟨k63,by omega,_,(w64 (x8+1)),by omega,E,.of,S,H⟩
  refine drawn 34 ⟨[],[],fun q=>False⟩ mixed rfl (by kernel_rfl) (fun hst=>?_)
  replace S:=S.drew
  have hb26:=S.ba 0
  have hb4:=S.ba 1
  refine mny 29 hst E (.r 0 1<|.b 1 0 hb26<|.r 2 1<|.b 3 0 hb4<|.r 4 1<|.nil) (fun a E=>?_)
  obtain ⟨t32,h33,H⟩:=bd H
  refine on1 5 E (.cl en70 (qAb.calls ((nth qE.z y.f1 x8).f0) 0 (w64 (y.f0 - 1)) _ _ _ S.own.sub h33)) ?_
  rintro _ u31 a ⟨_,rfl,hC⟩ E
  refine ⟨.of hC.agr,?_⟩
  replace S:=S.lent hC
  refine mny 26 hst E (.r 6 2 .nil) (fun a E=>?_)
  rcases sp H with ⟨c34,H⟩ | ⟨c34,H⟩
  ·
   replace E:=E.btn 24 c34
   refine mny 23 hst E (.r 8 3 .nil) (fun a E=>?_)
   rcases sp H with ⟨c35,H⟩ | ⟨c35,H⟩
   ·
    replace E:=E.kt 27 c35
    have hb26:=S.ba 0
    have hb4:=S.ba 1
    obtain ⟨c36,H⟩:=gd H
    obtain ⟨cs38,⟨A40,c41,rfl,g42⟩,hc39⟩:=g1_1.el qE.z (w64 (x8 - 1)) c36.1 c36.2
    refine mny 10 hst E (.r 11 1<|.b 12 0 hb26<|.r 13 1<|.b 14 1 hb4<|.r 15 2<|.x 17 c36<|.r 18 1<|.c 19 (S.fc hc39 0)<|.r 20 4<|.nil) (fun a E=>?_)
    rcases sp H with ⟨c43,H⟩ | ⟨c43,H⟩
    ·
     replace E:=E.kt 40 c43
     refine mny 0 hst E (.r 24 10 .nil) (fun a E=>?_)
     refine dn ?_
     exact J54 _ (by omega) _ true _ _ E .of S H
    replace E:=E.kf 40 c43
    have hb2:=S.ba 2
    refine mny 3 hst E (.r 24 1<|.b 25 1 hb26<|.r 26 2<|.b 28 2 hb2<|.r 29 1<|.b 30 1 hb2<|.nil) (fun a E=>?_)
    obtain ⟨t45,h46,H⟩:=bd H
    refine on1 31 E (.cl en70 (qAb.calls (((nth qE.z y.f1 x8).f1).length:Int) x.f2 x.f1 _ _ _ S.own.sub h46)) ?_
    rintro _ u44 a ⟨_,rfl,hC⟩ E
    refine ⟨.of hC.agr,?_⟩
    replace S:=S.lent hC
    refine mny 0 hst E (.r 32 2 .nil) (fun a E=>?_)
    refine dn ?_
    exact J54 _ (by omega) _ (!t45) _ _ E .of S H
   replace E:=E.kf 27 c35
   have hb26:=S.ba 0
   have hb2:=S.ba 2
   refine mny 3 hst E (.r 11 14<|.b 25 1 hb26<|.r 26 2<|.b 28 2 hb2<|.r 29 1<|.b 30 1 hb2<|.nil) (fun a E=>?_)
   obtain ⟨t48,h49,H⟩:=bd H
   refine on1 31 E (.cl en70 (qAb.calls (((nth qE.z y.f1 x8).f1).length:Int) x.f2 x.f1 _ _ _ S.own.sub h49)) ?_
   rintro _ u47 a ⟨_,rfl,hC⟩ E
   refine ⟨.of hC.agr,?_⟩
   replace S:=S.lent hC
   refine mny 0 hst E (.r 32 2 .nil) (fun a E=>?_)
   refine dn ?_
   exact J54 _ (by omega) _ (!t48) _ _ E .of S H
  replace E:=E.bfn 24 c34
  refine mny 0 hst E (.r 8 26 .nil) (fun a E=>?_)
  refine dn ?_
  exact J54 _ (by omega) _ true _ _ E .of S H
 refine wp_exit ?_
 refine hK6 _ _ (rr E fun a E=>(wp_ret ?_))
 replace S:=S.pm [] 2
 obtain rfl:=si H
 exact rt1 E ⟨_,rfl,_,rfl,S⟩
mutual
def qAT.l11:Nat→qF→Int→Option Int
 | 0,_,_=>none
 | k+1,x,x10=>if x10<(x.f6.length:Int) then (if 0≤x10∧x10<(x.f6.length:Int) then ((qAb.f ((nth qC.z x.f6 x10).f0) 0 x.f0).bind fun t33=>(if t33=true then ((qAE.f k x (nth qC.z x.f6 x10)).bind fun t37=>(qAT.j40 k x x10 (!t37))) else (qAT.j40 k x x10 true))) else (none)) else (some 0)
def qAT.j40:Nat→qF→Int→Bool→Option Int
 | 0,_,_,_=>none
 | k+1,x,x10,y39=>if y39=true then (some 1) else (qAT.l11 k x (w64 (x10+1)))
end
theorem qAT.l11_s k x x10:type_of% (qAT.l11.eq_2 x x10 k):=qAT.l11.eq_2 x x10 k
theorem qAT.j40_s k x x10 y39:type_of% (qAT.j40.eq_2 x x10 y39 k):=qAT.j40.eq_2 x x10 y39 k
def qAT.f(k:Nat)(x:qF):Option Int:=if (x.f6.length:Int)=x.f3 then (qAT.l11 k x 0) else (some 1)
def qAT.Post(W F:World)(r:Int)(v:Value)(w':World):Prop:=∃(F':World),v=iv r∧Sm W F w' F' []
theorem qAT.calls(k:Nat)(x:qF)(A0_4:OA)(c0_4:Nat)(A0_5:OA)(c0_5:Nat)(A0_6:OA)(c0_6:Nat)(r:Int)(W F:World)(hown:Sub F W)(g0_4:Rd qA.k F A0_4 c0_4 x.f4)(g0_5:Rd qD.k F A0_5 c0_5 x.f5)(g0_6:Rd qC.k F A0_6 c0_6 x.f6)(H:qAT.f k x=some r):
    Cr 82 #[.agg #[iv x.f0,iv x.f1,iv x.f2,iv x.f3,.slice A0_4 x.f4.length c0_4,.slice A0_5 x.f5.length c0_5,.slice A0_6 x.f6.length c0_6]] W (qAT.Post W F r):=by
 have S:=St.start (Own.nil hown)
 unfold qAT.f at H
 refine ent 31 rfl rfl rfl (fun a E=>?_)
 refine sq fun K1 hK1=>pl0 (ple E (.bx (t:=26) S [iv x.f0,iv x.f1,iv x.f2,iv x.f3,.slice A0_4 x.f4.length c0_4,.slice A0_5 x.f5.length c0_5,.slice A0_6 x.f6.length c0_6]) ?_)
 rintro _ u3 a ⟨b2,rfl,hb2,S,hg⟩ E
 refine plc E (.r 1 1 .nil) (fun a E=>pld (hK1 _ _ (sq fun K4 hK4=>rg E (.r 0 1<|.b 1 6 hb2<|.r 2 2<|.b 4 3 hb2<|.r 5 1<|.nil) fun a E=>?_)))
 refine E.ikn 10 H (fun c6 E H=>?_) fun c6 E H=>?_
 ·
  refine wp_skip (hK4 _ _ (sq fun K8 hK8=>rg E (.r 0 1<|.b 1 6 hb2<|.r 2 2<|.nil) fun a E=>(wp_block ?_)))
  refine wp_loop_ghost (fun kq12 a w'=>∃(G:NV)(x10:Int),kq12≤k∧Env 31 G a∧At G [(1,.pointer (pb b2)),(12,.slice A0_6 x.f6.length c0_6),(13,iv (x.f6.length:Int)),(14,iv x10)]∧Sm W F w' F [box b2 #[iv x.f0,iv x.f1,iv x.f2,iv x.f3,.slice A0_4 x.f4.length c0_4,.slice A0_5 x.f5.length c0_5,.slice A0_6 x.f6.length c0_6] 26]∧qAT.l11 kq12 x x10=some r) k ⟨_,0,Nat.le_refl _,E,.of,S,H⟩ ?_
  rintro kq12 a u14 ⟨G,x10,hkq,E,A,S,H⟩
  obtain _ | k13:=kq12
  ·
   exact zz H
  rw [qAT.l11_s]at H
  obtain ⟨J,E⟩:=E.at A
  refine rr E fun a E=>(sq fun K16 hK16=>?_)
  refine E.ik 15 H (fun c17 E H=>?_) fun c17 E H=>?_
  ·
   refine wp_skip (hK16 _ _ (sq fun K18 hK18=>wp_block (sq fun K19 hK19=>pl0 ?_)))
   obtain ⟨c20,H⟩:=gd H
   have hE_:=E
   obtain ⟨ad21,rfl⟩:=g0_6.addr c20.1 c20.2
   replace E:=hE_
   obtain ⟨cs23,⟨A25,c26,rfl,g27⟩,hc24⟩:=g0_6.el qC.z x10 c20.1 c20.2
   refine plc E (.x 0 c20<|.cs 1 (S.fcs hc24)<|.nil) (fun a E=>ple E (.al (t:=49) S [iv 0,.slice none 0 0]) ?_)
   rintro _ u29 a ⟨b28,rfl,hb28,S,hg⟩ E
   refine ple E (.sto S [iv ((nth qC.z x.f6 x10).f0),.slice A25 (((nth qC.z x.f6 x10).f1).length) c26]) ?_
   rintro _ u30 a ⟨rfl,hb28,S,hz⟩ E
   refine pld (hK19 _ _ (sq fun K31 hK31=>?_))
   have J43:∀ kq41,kq41≤k13→∀(G:NV)(y39:Bool)(a:Act)(w':World),Env 31 G a→At G [(1,.pointer (pb b2)),(12,.slice (some ad21) x.f6.length c0_6),(13,iv (x.f6.length:Int)),(14,iv x10),(29,.bool y39)]→Sm W F w' F [box b28 #[iv ((nth qC.z x.f6 x10).f0),.slice A25 (((nth qC.z x.f6 x10).f1).length) c26] 49,box b2 #[iv x.f0,iv x.f1,iv x.f2,iv x.f3,.slice A0_4 x.f4.length c0_4,.slice A0_5 x.f5.length c0_5,.slice (some ad21) x.f6.length c0_6] 26]→qAT.j40 kq41 x x10 y39=some r→K31 a w':=by
    intro kq41 hkq G y39 a u44 E A S H
    obtain _ | k42:=kq41
    ·
     exact zz H
    rw [qAT.j40_s]at H
    obtain ⟨J,E⟩:=E.at A
    refine hK31 _ _ ?_
    refine E.ib 29 H (fun c45 E H=>?_) fun c45 E H=>?_
    ·
     refine rr E fun a E=>(wp_ret (qBc (qBb (qBb (qBc (qBb ?_))))))
     replace S:=S.pm [] 2
     obtain rfl:=si H
     exact rt1 E ⟨_,rfl,_,rfl,S⟩
    refine wp_skip ?_
    refine qBd ?_
    refine hK18 _ _ (pl0 (plc E (.r 0 2 .nil) (fun a E=>pld ?_)))
    replace S:=S.tail
    exact qBf ⟨k42,by omega,_,(w64 (x10+1)),by omega,E,.of,S,H⟩
   refine pl0 ?_
   have hb2:=S.ba 1
   refine plc E (.r 0 1<|.b 1 0 hb28<|.r 2 1<|.b 3 0 hb2<|.nil) (fun a E=>?_)
   obtain ⟨t33,h34,H⟩:=bd H
   refine ple E (.cl en70 (qAb.calls ((nth qC.z x.f6 x10).f0) 0 x.f0 _ _ _ S.own.sub h34)) ?_
   rintro _ u32 a ⟨_,rfl,hC⟩ E
   replace S:=S.lent hC
   refine plc E (.r 5 2 .nil) (fun a E=>?_)
   rcases sp H with ⟨c35,H⟩ | ⟨c35,H⟩
   ·
    replace E:=E.btn 24 c35
    have hb2:=S.ba 1
    have hb28:=S.ba 0
    refine plc E (.bn 7 0 7 hb2<|.bn 8 0 2 hb28<|.nil) (fun a E=>?_)
    obtain ⟨t37,h38,H⟩:=bd H
    refine ple E (.cl en142 (qAE.calls k13 x (nth qC.z x.f6 x10) _ _ _ _ _ _ _ _ _ _ _ S.own.sub g0_4 g0_5 g0_6 g27 h38)) ?_
    rintro _ u36 a ⟨_,rfl,hC⟩ E
    replace S:=S.lent hC
    refine plc E (.r 10 2 .nil) (fun a E=>pld ?_)
    exact J43 _ (by omega) _ (!t37) _ _ E .of S H
   replace E:=E.bfn 24 c35
   refine plc E (.r 7 5 .nil) (fun a E=>pld ?_)
   exact J43 _ (by omega) _ true _ _ E .of S H
  refine wp_exit ?_
  refine hK8 _ _ (rr E fun a E=>(wp_ret ?_))
  replace S:=S.tail
  obtain rfl:=si H
  exact rt1 E ⟨_,rfl,_,rfl,S⟩
 refine rr E fun a E=>(wp_ret (qBb ?_))
 replace S:=S.tail
 obtain rfl:=si H
 exact rt1 E ⟨_,rfl,_,rfl,S⟩
mutual
def qv.j26:Nat→qF→Bool→Option Int
 | 0,_,_=>none
 | k+1,x,y25=>if y25=true then (some 1) else (qv.l36 k x 0)
def qv.l36:Nat→qF→Int→Option Int
 | 0,_,_=>none
 | k+1,x,x35=>if x35<(x.f5.length:Int) then (if 0≤x35∧x35<(x.f5.length:Int) then ((qAb.f ((nth qD.z x.f5 x35).f0) 0 (w64 (x.f3 - 1))).bind fun t58=>(if t58=true then (if x35>0 then (if 0≤(w64 (x35 - 1))∧(w64 (x35 - 1))<(x.f5.length:Int) then (if (nth qD.z x.f5 x35).f0≤(nth qD.z x.f5 (w64 (x35 - 1))).f0 then (qv.j85 k x x35 true) else ((qAb.f (((nth qD.z x.f5 x35).f1).length:Int) 1 x.f1).bind fun t71=>(if t71=true then ((qAD.f k x.f4 ((nth qD.z x.f5 x35).f1)).bind fun t75=>(qv.j85 k x x35 (!t75))) else (qv.j85 k x x35 true)))) else (none)) else ((qAb.f (((nth qD.z x.f5 x35).f1).length:Int) 1 x.f1).bind fun t78=>(if t78=true then ((qAD.f k x.f4 ((nth qD.z x.f5 x35).f1)).bind fun t82=>(qv.j85 k x x35 (!t82))) else (qv.j85 k x x35 true)))) else (qv.j85 k x x35 true))) else (none)) else ((qAT.f k x).bind fun t94=>(some t94))
def qv.j85:Nat→qF→Int→Bool→Option Int
 | 0,_,_,_=>none
 | k+1,x,x35,y84=>if y84=true then (some 1) else (qv.l36 k x (w64 (x35+1)))
end
theorem qv.j26_s k x y25:type_of% (qv.j26.eq_2 x y25 k):=qv.j26.eq_2 x y25 k
theorem qv.l36_s k x x35:type_of% (qv.l36.eq_2 x x35 k):=qv.l36.eq_2 x x35 k
theorem qv.j85_s k x x35 y84:type_of% (qv.j85.eq_2 x x35 y84 k):=qv.j85.eq_2 x x35 y84 k
def qv.f(k:Nat)(x:qF):Option Int:=(qAb.f x.f0 0 2147483647).bind fun t7=>(if t7=true then ((qAb.f x.f1 1 3).bind fun t11=>(if t11=true then ((qAb.f x.f2 1 x.f1).bind fun t15=>(if t15=true then ((qAb.f x.f3 1 8).bind fun t19=>(if t19=true then ((qAA.f k x.f4).bind fun t23=>(qv.j26 k x (!(t23 == 0)))) else (qv.j26 k x true))) else (qv.j26 k x true))) else (qv.j26 k x true))) else (qv.j26 k x true))
def qv.Post(W F:World)(r:Int)(v:Value)(w':World):Prop:=∃(F':World),v=iv r∧Sm W F w' F' []
theorem qv.calls(k:Nat)(x:qF)(A0_4:OA)(c0_4:Nat)(A0_5:OA)(c0_5:Nat)(A0_6:OA)(c0_6:Nat)(r:Int)(W F:World)(hown:Sub F W)(g0_4:Rd qA.k F A0_4 c0_4 x.f4)(g0_5:Rd qD.k F A0_5 c0_5 x.f5)(g0_6:Rd qC.k F A0_6 c0_6 x.f6)(H:qv.f k x=some r):
    Cr 32 #[.agg #[iv x.f0,iv x.f1,iv x.f2,iv x.f3,.slice A0_4 x.f4.length c0_4,.slice A0_5 x.f5.length c0_5,.slice A0_6 x.f6.length c0_6]] W (qv.Post W F r):=by
 have S:=St.start (Own.nil hown)
 unfold qv.f at H
 refine ent 86 rfl rfl rfl (fun a E=>?_)
 refine sq fun K1 hK1=>pl0 (ple E (.bx (t:=26) S [iv x.f0,iv x.f1,iv x.f2,iv x.f3,.slice A0_4 x.f4.length c0_4,.slice A0_5 x.f5.length c0_5,.slice A0_6 x.f6.length c0_6]) ?_)
 rintro _ u3 a ⟨b2,rfl,hb2,S,hg⟩ E
 refine plc E (.r 1 1 .nil) (fun a E=>pld (hK1 _ _ (sq fun K4 hK4=>sq fun K5 hK5=>?_)))
 have J29:∀ kq27,kq27≤k→∀(G:NV)(y25:Bool)(a:Act)(w':World),Env 86 G a→At G [(1,.pointer (pb b2)),(34,.bool y25)]→Sm W F w' F [box b2 #[iv x.f0,iv x.f1,iv x.f2,iv x.f3,.slice A0_4 x.f4.length c0_4,.slice A0_5 x.f5.length c0_5,.slice A0_6 x.f6.length c0_6] 26]→qv.j26 kq27 x y25=some r→K5 a w':=by
  intro kq27 hkq G y25 a u30 E A S H
  obtain _ | k28:=kq27
  ·
   exact zz H
  rw [qv.j26_s]at H
  obtain ⟨J,E⟩:=E.at A
  refine hK5 _ _ ?_
  refine E.ib 34 H (fun c31 E H=>?_) fun c31 E H=>?_
  ·
   refine rr E fun a E=>(wp_ret (qBb ?_))
   replace S:=S.tail
   obtain rfl:=si H
   exact rt1 E ⟨_,rfl,_,rfl,S⟩
  refine wp_skip (hK4 _ _ (sq fun K33 hK33=>sq fun K34 hK34=>pl0 ?_))
  have hb2:=S.ba 0
  refine plc E (.r 0 1<|.b 1 5 hb2<|.r 2 2<|.nil) (fun a E=>pld (hK34 _ _ (wp_block ?_)))
  refine wp_loop_ghost (fun kq37 a w'=>∃(G:NV)(x35:Int),kq37≤k28∧Env 86 G a∧At G [(1,.pointer (pb b2)),(36,.slice A0_5 x.f5.length c0_5),(37,iv (x.f5.length:Int)),(38,iv x35)]∧Sm W F w' F [box b2 #[iv x.f0,iv x.f1,iv x.f2,iv x.f3,.slice A0_4 x.f4.length c0_4,.slice A0_5 x.f5.length c0_5,.slice A0_6 x.f6.length c0_6] 26]∧qv.l36 kq37 x x35=some r) k28 ⟨_,0,Nat.le_refl _,E,.of,S,H⟩ ?_
  rintro kq37 a u39 ⟨G,x35,hkq,E,A,S,H⟩
  obtain _ | k38:=kq37
  ·
   exact zz H
  rw [qv.l36_s]at H
  obtain ⟨J,E⟩:=E.at A
  refine rr E fun a E=>(sq fun K41 hK41=>?_)
  refine E.ik 39 H (fun c42 E H=>?_) fun c42 E H=>?_
  ·
   refine wp_skip (hK41 _ _ (sq fun K43 hK43=>wp_block (sq fun K44 hK44=>pl0 ?_)))
   obtain ⟨c45,H⟩:=gd H
   have hE_:=E
   obtain ⟨ad46,rfl⟩:=g0_5.addr c45.1 c45.2
   replace E:=hE_
   obtain ⟨cs48,⟨A50,c51,rfl,g52⟩,hc49⟩:=g0_5.el qD.z x35 c45.1 c45.2
   refine plc E (.r 0 1<|.x 1 c45<|.cs 2 (S.fcs hc49)<|.nil) (fun a E=>ple E (.al (t:=97) S [iv 0,.slice none 0 0]) ?_)
   rintro _ u54 a ⟨b53,rfl,hb53,S,hg⟩ E
   refine plc E (.r 4 1 .nil) (fun a E=>ple E (.sto S [iv ((nth qD.z x.f5 x35).f0),.slice A50 (((nth qD.z x.f5 x35).f1).length) c51]) ?_)
   rintro _ u55 a ⟨rfl,hb53,S,hz⟩ E
   refine pld (hK44 _ _ (sq fun K56 hK56=>?_))
   have J88:∀ kq86,kq86≤k38→∀(G:NV)(y84:Bool)(a:Act)(w':World),Env 86 G a→At G [(1,.pointer (pb b2)),(36,.slice (some ad46) x.f5.length c0_5),(37,iv (x.f5.length:Int)),(38,iv x35),(82,.bool y84)]→Sm W F w' F [box b53 #[iv ((nth qD.z x.f5 x35).f0),.slice A50 (((nth qD.z x.f5 x35).f1).length) c51] 97,box b2 #[iv x.f0,iv x.f1,iv x.f2,iv x.f3,.slice A0_4 x.f4.length c0_4,.slice (some ad46) x.f5.length c0_5,.slice A0_6 x.f6.length c0_6] 26]→qv.j85 kq86 x x35 y84=some r→K56 a w':=by
    intro kq86 hkq G y84 a u89 E A S H
    obtain _ | k87:=kq86
    ·
     exact zz H
    rw [qv.j85_s]at H
    obtain ⟨J,E⟩:=E.at A
    refine hK56 _ _ ?_
    refine E.ib 82 H (fun c90 E H=>?_) fun c90 E H=>?_
    ·
     refine rr E fun a E=>(wp_ret (qBc (qBb (qBb (qBc (qBb ?_))))))
     replace S:=S.pm [] 2
     obtain rfl:=si H
     exact rt1 E ⟨_,rfl,_,rfl,S⟩
    refine wp_skip ?_
    refine qBd ?_
    refine hK43 _ _ (pl0 (plc E (.r 0 2 .nil) (fun a E=>pld ?_)))
    replace S:=S.tail
    exact qBf ⟨k87,by omega,_,(w64 (x35+1)),by omega,E,.of,S,H⟩
   refine drawn 40 ⟨[],[],fun q=>False⟩ mixed rfl (by kernel_rfl) (fun hst=>?_)
   replace S:=S.drew
   have hb53:=S.ba 0
   have hb2:=S.ba 1
   refine mny 35 hst E (.r 0 1<|.b 1 0 hb53<|.r 2 1<|.b 3 3 hb2<|.r 4 1<|.nil) (fun a E=>?_)
   obtain ⟨t58,h59,H⟩:=bd H
   refine on1 5 E (.cl en70 (qAb.calls ((nth qD.z x.f5 x35).f0) 0 (w64 (x.f3 - 1)) _ _ _ S.own.sub h59)) ?_
   rintro _ u57 a ⟨_,rfl,hC⟩ E
   refine ⟨.of hC.agr,?_⟩
   replace S:=S.lent hC
   refine mny 32 hst E (.r 6 2 .nil) (fun a E=>?_)
   rcases sp H with ⟨c60,H⟩ | ⟨c60,H⟩
   ·
    replace E:=E.btn 50 c60
    refine mny 29 hst E (.r 8 3 .nil) (fun a E=>?_)
    rcases sp H with ⟨c61,H⟩ | ⟨c61,H⟩
    ·
     replace E:=E.kt 53 c61
     have hb53:=S.ba 0
     have hb2:=S.ba 1
     obtain ⟨c62,H⟩:=gd H
     obtain ⟨cs64,⟨A66,c67,rfl,g68⟩,hc65⟩:=g0_5.el qD.z (w64 (x35 - 1)) c62.1 c62.2
     refine mny 16 hst E (.r 11 1<|.b 12 0 hb53<|.r 13 1<|.b 14 5 hb2<|.r 15 2<|.x 17 c62<|.r 18 1<|.c 19 (S.fc hc65 0)<|.r 20 4<|.nil) (fun a E=>?_)
     rcases sp H with ⟨c69,H⟩ | ⟨c69,H⟩
     ·
      replace E:=E.kt 66 c69
      refine mny 0 hst E (.r 24 16 .nil) (fun a E=>?_)
      refine dn ?_
      exact J88 _ (by omega) _ true _ _ E .of S H
     replace E:=E.kf 66 c69
     refine mny 11 hst E (.r 24 1<|.b 25 1 hb53<|.r 26 2<|.b 28 1 hb2<|.nil) (fun a E=>?_)
     obtain ⟨t71,h72,H⟩:=bd H
     refine on1 29 E (.cl en70 (qAb.calls (((nth qD.z x.f5 x35).f1).length:Int) 1 x.f1 _ _ _ S.own.sub h72)) ?_
     rintro _ u70 a ⟨_,rfl,hC⟩ E
     refine ⟨.of hC.agr,?_⟩
     replace S:=S.lent hC
     refine mny 7 hst E (.r 30 3 .nil) (fun a E=>?_)
     rcases sp H with ⟨c73,H⟩ | ⟨c73,H⟩
     ·
      replace E:=E.btn 75 c73
      have hb2:=S.ba 1
      have hb53:=S.ba 0
      refine mny 3 hst E (.r 33 1<|.b 34 4 hb2<|.r 35 1<|.b 36 1 hb53<|.nil) (fun a E=>?_)
      obtain ⟨t75,h76,H⟩:=bd H
      refine on1 37 E (.cl en81 (qAD.calls k38 x.f4 ((nth qD.z x.f5 x35).f1) _ _ _ _ _ _ _ S.own.sub g0_4 g52 h76)) ?_
      rintro _ u74 a ⟨_,rfl,hC⟩ E
      refine ⟨.of hC.agr,?_⟩
      replace S:=S.lent hC
      refine mny 0 hst E (.r 38 2 .nil) (fun a E=>?_)
      refine dn ?_
      exact J88 _ (by omega) _ (!t75) _ _ E .of S H
     replace E:=E.bfn 75 c73
     refine mny 0 hst E (.r 33 7 .nil) (fun a E=>?_)
     refine dn ?_
     exact J88 _ (by omega) _ true _ _ E .of S H
    replace E:=E.kf 53 c61
    have hb53:=S.ba 0
    have hb2:=S.ba 1
    refine mny 11 hst E (.r 11 14<|.b 25 1 hb53<|.r 26 2<|.b 28 1 hb2<|.nil) (fun a E=>?_)
    obtain ⟨t78,h79,H⟩:=bd H
    refine on1 29 E (.cl en70 (qAb.calls (((nth qD.z x.f5 x35).f1).length:Int) 1 x.f1 _ _ _ S.own.sub h79)) ?_
    rintro _ u77 a ⟨_,rfl,hC⟩ E
    refine ⟨.of hC.agr,?_⟩
    replace S:=S.lent hC
    refine mny 7 hst E (.r 30 3 .nil) (fun a E=>?_)
    rcases sp H with ⟨c80,H⟩ | ⟨c80,H⟩
    ·
     replace E:=E.btn 75 c80
     have hb2:=S.ba 1
     have hb53:=S.ba 0
     refine mny 3 hst E (.r 33 1<|.b 34 4 hb2<|.r 35 1<|.b 36 1 hb53<|.nil) (fun a E=>?_)
     obtain ⟨t82,h83,H⟩:=bd H
     refine on1 37 E (.cl en81 (qAD.calls k38 x.f4 ((nth qD.z x.f5 x35).f1) _ _ _ _ _ _ _ S.own.sub g0_4 g52 h83)) ?_
     rintro _ u81 a ⟨_,rfl,hC⟩ E
     refine ⟨.of hC.agr,?_⟩
     replace S:=S.lent hC
     refine mny 0 hst E (.r 38 2 .nil) (fun a E=>?_)
     refine dn ?_
     exact J88 _ (by omega) _ (!t82) _ _ E .of S H
    replace E:=E.bfn 75 c80
    refine mny 0 hst E (.r 33 7 .nil) (fun a E=>?_)
    refine dn ?_
    exact J88 _ (by omega) _ true _ _ E .of S H
   replace E:=E.bfn 50 c60
   refine mny 0 hst E (.r 8 32 .nil) (fun a E=>?_)
   refine dn ?_
   exact J88 _ (by omega) _ true _ _ E .of S H
  refine wp_exit ?_
  refine hK33 _ _ (sq fun K92 hK92=>pl0 ?_)
  have hb2:=S.ba 0
  refine plc E (.bn 0 0 7 hb2 .nil) (fun a E=>?_)
  obtain ⟨t94,h95,H⟩:=bd H
  refine ple E (.cl en82 (qAT.calls k38 x _ _ _ _ _ _ _ _ _ S.own.sub g0_4 g0_5 g0_6 h95)) ?_
  rintro _ u93 a ⟨_,rfl,hC⟩ E
  replace S:=S.lent hC
  refine plc E (.r 2 1 .nil) (fun a E=>pld (hK92 _ _ (wp_ret ?_)))
  replace S:=S.tail
  obtain rfl:=si H
  exact rt1 E ⟨_,rfl,_,rfl,S⟩
 refine pl0 (plc E (.r 0 1<|.b 1 0 hb2<|.nil) (fun a E=>?_))
 obtain ⟨t7,h8,H⟩:=bd H
 refine ple E (.cl en70 (qAb.calls x.f0 0 2147483647 _ _ _ S.own.sub h8)) ?_
 rintro _ u6 a ⟨_,rfl,hC⟩ E
 replace S:=S.lent hC
 refine plc E (.r 3 2 .nil) (fun a E=>?_)
 rcases sp H with ⟨c9,H⟩ | ⟨c9,H⟩
 ·
  replace E:=E.btn 9 c9
  have hb2:=S.ba 0
  refine plc E (.r 5 1<|.b 6 1 hb2<|.nil) (fun a E=>?_)
  obtain ⟨t11,h12,H⟩:=bd H
  refine ple E (.cl en70 (qAb.calls x.f1 1 3 _ _ _ S.own.sub h12)) ?_
  rintro _ u10 a ⟨_,rfl,hC⟩ E
  replace S:=S.lent hC
  refine plc E (.r 8 3 .nil) (fun a E=>?_)
  rcases sp H with ⟨c13,H⟩ | ⟨c13,H⟩
  ·
   replace E:=E.btn 15 c13
   have hb2:=S.ba 0
   refine plc E (.r 11 1<|.b 12 2 hb2<|.r 13 1<|.b 14 1 hb2<|.nil) (fun a E=>?_)
   obtain ⟨t15,h16,H⟩:=bd H
   refine ple E (.cl en70 (qAb.calls x.f2 1 x.f1 _ _ _ S.own.sub h16)) ?_
   rintro _ u14 a ⟨_,rfl,hC⟩ E
   replace S:=S.lent hC
   refine plc E (.r 16 3 .nil) (fun a E=>?_)
   rcases sp H with ⟨c17,H⟩ | ⟨c17,H⟩
   ·
    replace E:=E.btn 23 c17
    have hb2:=S.ba 0
    refine plc E (.r 19 1<|.b 20 3 hb2<|.nil) (fun a E=>?_)
    obtain ⟨t19,h20,H⟩:=bd H
    refine ple E (.cl en70 (qAb.calls x.f3 1 8 _ _ _ S.own.sub h20)) ?_
    rintro _ u18 a ⟨_,rfl,hC⟩ E
    replace S:=S.lent hC
    refine plc E (.r 22 3 .nil) (fun a E=>?_)
    rcases sp H with ⟨c21,H⟩ | ⟨c21,H⟩
    ·
     replace E:=E.btn 29 c21
     have hb2:=S.ba 0
     refine plc E (.r 25 1<|.b 26 4 hb2<|.nil) (fun a E=>?_)
     obtain ⟨t23,h24,H⟩:=bd H
     refine ple E (.cl en80 (qAA.calls k x.f4 _ _ _ _ _ S.own.sub g0_4 h24)) ?_
     rintro _ u22 a ⟨_,rfl,hC⟩ E
     replace S:=S.lent hC
     refine plc E (.r 28 2 .nil) (fun a E=>pld ?_)
     exact J29 _ (by omega) _ (!(t23 == 0)) _ _ E .of S H
    replace E:=E.bfn 29 c21
    refine plc E (.r 25 5 .nil) (fun a E=>pld ?_)
    exact J29 _ (by omega) _ true _ _ E .of S H
   replace E:=E.bfn 23 c17
   refine plc E (.r 19 11 .nil) (fun a E=>pld ?_)
   exact J29 _ (by omega) _ true _ _ E .of S H
  replace E:=E.bfn 15 c13
  refine plc E (.r 11 19 .nil) (fun a E=>pld ?_)
  exact J29 _ (by omega) _ true _ _ E .of S H
 replace E:=E.bfn 9 c9
 refine plc E (.r 5 25 .nil) (fun a E=>pld ?_)
 exact J29 _ (by omega) _ true _ _ E .of S H
def qBW.f(k:Nat)(x:Int)(y:Int)(z:Int):Option (qF × Int):=if 0≤(if (if 8<z then 8 else z)>0 then (if 8<z then 8 else z) else 0)∧(if (if 8<z then 8 else z)>0 then (if 8<z then 8 else z) else 0) * 32≤140737488355328 then ((qv.f k (⟨0,x,y,z,[],[],(List.replicate ((if (if 8<z then 8 else z)>0 then (if 8<z then 8 else z) else 0)).toNat (qC.z:qC))⟩:qF)).bind fun t16=>(if t16=0 then (some ((⟨0,x,y,z,[],[],(List.replicate ((if (if 8<z then 8 else z)>0 then (if 8<z then 8 else z) else 0)).toNat (qC.z:qC))⟩:qF),0)) else (some ((⟨0,0,0,0,[],[],[]⟩:qF),t16)))) else (none)
def qBW.Post(W F:World)(r:qF × Int)(v:Value)(w':World):Prop:=∃(F':World)(RA0_4:OA)(rc0_4:Nat)(RA0_5:OA)(rc0_5:Nat)(RA0_6:OA)(rc0_6:Nat),v = .tuple #[.agg #[iv r.1.f0,iv r.1.f1,iv r.1.f2,iv r.1.f3,.slice RA0_4 r.1.f4.length rc0_4,.slice RA0_5 r.1.f5.length rc0_5,.slice RA0_6 r.1.f6.length rc0_6],iv r.2]∧Sm W F w' F' [row qC.k 49 (.slice RA0_6 r.1.f6.length rc0_6) r.1.f6]∧Rd qA.k F' RA0_4 rc0_4 r.1.f4∧Rd qD.k F' RA0_5 rc0_5 r.1.f5
theorem qBW.calls(k:Nat)(x:Int)(y:Int)(z:Int)(r:qF × Int)(W F:World)(hown:Sub F W)(H:qBW.f k x y z=some r):
    Cr 15 #[iv x,iv y,iv z] W (qBW.Post W F r):=by
 have S:=St.start (Own.nil hown)
 unfold qBW.f at H
 refine ent 25 rfl rfl rfl (fun a E=>?_)
 refine sq fun K1 hK1=>pl0 (ple E (.al (t:=26) S [iv 0,iv 0,iv 0,iv 0,.slice none 0 0,.slice none 0 0,.slice none 0 0]) ?_)
 rintro _ u3 a ⟨b2,rfl,hb2,S,hg⟩ E
 refine plc E (.r 1 1 .nil) (fun a E=>pld (hK1 _ _ (sq fun K4 hK4=>pl0 (plc E (.r 0 6 .nil) (fun a E=>?_)))))
 obtain ⟨c5,H⟩:=gd H
 refine ple E (.mk (d:=qC.k) (e:=49) 32 qC.z S c5 (by rw [zr49]; exact ⟨none,0,rfl,Rd.nil _ _⟩)) ?_
 rintro _ u8 a ⟨A6,c7,rfl,S,hg⟩ E
 refine plc E (.r 7 1 .nil) (fun a E=>ple E (.al (t:=26) S [iv 0,iv 0,iv 0,iv 0,.slice none 0 0,.slice none 0 0,.slice none 0 0]) ?_)
 rintro _ u11 a ⟨b10,rfl,hb10,S,hg⟩ E
 refine ple E (.sto S [iv 0,iv x,iv y,iv z,.slice none 0 0,.slice none 0 0,.slice A6 ((List.replicate ((if (if 8<z then 8 else z)>0 then (if 8<z then 8 else z) else 0)).toNat (qC.z:qC)).length) c7]) ?_
 rintro _ u12 a ⟨rfl,hb10,S,hz⟩ E
 refine pld (hK4 _ _ (sq fun K13 hK13=>sq fun K14 hK14=>pl0 (plc E (.bn 0 0 7 hb10 .nil) (fun a E=>?_))))
 obtain ⟨t16,h17,H⟩:=bd H
 refine ple E (.cl en32 (qv.calls k (⟨0,x,y,z,[],[],(List.replicate ((if (if 8<z then 8 else z)>0 then (if 8<z then 8 else z) else 0)).toNat (qC.z:qC))⟩:qF) _ _ _ _ _ _ _ _ _ (Sub.refl _) (Rd.nil _ _) (Rd.nil _ _) (S.rd_at (i:=1) rfl) h17)) ?_
 rintro _ u15 a ⟨_,rfl,hC⟩ E
 replace S:=S.lent hC
 refine plc E (.r 2 1 .nil) (fun a E=>pld (hK14 _ _ (rr E fun a E=>?_)))
 refine E.ikn 21 H (fun c19 E H=>?_) fun c19 E H=>?_
 ·
  refine wp_skip (hK13 _ _ (sq fun K23 hK23=>pl0 ?_))
  have hb10:=S.ba 0
  refine plc E (.bn 0 0 7 hb10 .nil) (fun a E=>?_)
  replace S:=S.front 2 rfl
  refine ple E (.sto S [iv 0,iv x,iv y,iv z,.slice none 0 0,.slice none 0 0,.slice A6 ((List.replicate ((if (if 8<z then 8 else z)>0 then (if 8<z then 8 else z) else 0)).toNat (qC.z:qC)).length) c7]) ?_
  rintro _ u24 a ⟨rfl,hb2,S,hz⟩ E
  refine plc E (.r 2 1 .nil) (fun a E=>pld (hK23 _ _ (wp_ret ?_)))
  replace S:=S.pm [] 2
  obtain rfl:=si H
  exact retN E rfl (of_decide_eq_true rfl) (.cell (by kernel_rfl) (qBg [iv 0,iv x,iv y,iv z,.slice none 0 0,.slice none 0 0,.slice A6 ((List.replicate ((if (if 8<z then 8 else z)>0 then (if 8<z then 8 else z) else 0)).toNat (qC.z:qC)).length) c7] ag26 sz26 hb2 rfl) (.tmp (by kernel_rfl) .nil)) ⟨_,rfl,_,_,_,_,_,_,_,rfl,S,(Rd.nil _ _),(Rd.nil _ _)⟩
 refine sq fun K20 hK20=>pl0 (plc E (.r 0 2 .nil) (fun a E=>?_))
 replace S:=S.front 2 rfl
 refine ple E (.sto S [iv 0,iv 0,iv 0,iv 0,.slice none 0 0,.slice none 0 0,.slice none 0 0]) ?_
 rintro _ u21 a ⟨rfl,hb2,S,hz⟩ E
 refine plc E (.r 3 1 .nil) (fun a E=>pld (hK20 _ _ (wp_ret (qBb ?_))))
 replace S:=S.nilrow qC.k 49
 replace S:=S.pm [0] 4
 obtain rfl:=si H
 exact retN E rfl (of_decide_eq_true rfl) (.cell (by kernel_rfl) (qBg [iv 0,iv 0,iv 0,iv 0,.slice none 0 0,.slice none 0 0,.slice none 0 0] ag26 sz26 hb2 rfl) (.tmp (by kernel_rfl) .nil)) ⟨_,rfl,_,_,_,_,_,_,_,rfl,S,(Rd.nil _ _),(Rd.nil _ _)⟩
def qAG.f(x:List Int):Option (List Int):=if ((([]:List Int).length:Int)+(x.length:Int)) * 8≤140737488355328 then (some (([]:List Int)++x)) else (none)
def qAG.Post(W F:World)(r:List Int)(v:Value)(w':World):Prop:=∃(F':World)(RA0_0:OA)(rc0_0:Nat),v = .slice RA0_0 r.length rc0_0∧Sm W F w' F' [row ki 3 (.slice RA0_0 r.length rc0_0) r]
theorem qAG.calls(x:List Int)(A0_0:OA)(c0_0:Nat)(r:List Int)(W F:World)(hown:Sub F W)(g0_0:Rd ki F A0_0 c0_0 x)(H:qAG.f x=some r):
    Cr 112 #[.slice A0_0 x.length c0_0] W (qAG.Post W F r):=by
 have S:=St.start (Own.nil hown)
 unfold qAG.f at H
 refine ent 8 rfl rfl rfl (fun a E=>?_)
 rcases A0_0 with _ | ad1
 ·
  have hnil:=g0_0.none_nil
  replace H:(some [])=some r:=by simpa [hnil] using H
  refine rr E fun a E=>(sq fun K3 hK3=>rr E fun a E=>(ct E (rr E fun a E=>(wp_ret (qBb ?_)))))
  replace S:=S.nilrow ki 3
  obtain rfl:=si H
  exact rt1 E ⟨_,rfl,_,_,_,rfl,S⟩
 refine rr E fun a E=>(sq fun K8 hK8=>rr E fun a E=>(cf E (wp_skip (hK8 _ _ (sq fun K10 hK10=>pl0 (ple E (.lit (d:=ki) (e:=3) S ([]:List Int) (.nil)) ?_))))))
 rintro _ u11 a ⟨A12,c13,rfl,S,hg⟩ E
 refine plc E (.r 1 1 .nil) (fun a E=>?_)
 obtain ⟨c15,H⟩:=gd H
 refine ple E (.ap (d:=ki) 8 S (g0_0.src S.own.sub) c15 c0_0) ?_
 rintro _ u18 a ⟨A16,c17,rfl,S,hz⟩ E
 refine plc E (.r 3 1 .nil) (fun a E=>pld (hK10 _ _ (wp_ret ?_)))
 obtain rfl:=si H
 exact rt1 E ⟨_,rfl,_,_,_,rfl,S⟩
def qAh.f(x:Int):Option Bool:=some (!(x == x))
def qAh.Post(W F:World)(r:Bool)(v:Value)(w':World):Prop:=∃(F':World),v = .bool r∧Sm W F w' F' []
theorem qAh.calls(x:Int)(r:Bool)(W F:World)(hown:Sub F W)(H:qAh.f x=some r):
    Cr 202 #[iv x] W (qAh.Post W F r):=by
 have S:=St.start (Own.nil hown)
 unfold qAh.f at H
 refine ent 6 rfl rfl rfl (fun a E=>?_)
 refine rr E fun a E=>(rr E fun a E=>(wp_ret ?_))
 obtain rfl:=si H
 exact rt1 E ⟨_,rfl,_,rfl,S⟩
def qAW.f(x:Int)(y:Int):Option Int:=(qAh.f x).bind fun t4=>((qAh.f y).bind fun t8=>(if t4=true then (if t8=true then (some 0) else (some (-1))) else (if t8=true then (some 1) else (if x<y then (some (-1)) else (if x>y then (some 1) else (some 0))))))
def qAW.Post(W F:World)(r:Int)(v:Value)(w':World):Prop:=∃(F':World),v=iv r∧Sm W F w' F' []
theorem qAW.calls(x:Int)(y:Int)(r:Int)(W F:World)(hown:Sub F W)(H:qAW.f x y=some r):
    Cr 161 #[iv x,iv y] W (qAW.Post W F r):=by
 have S:=St.start (Own.nil hown)
 unfold qAW.f at H
 refine ent 20 rfl rfl rfl (fun a E=>?_)
 refine rr E fun a E=>(sq fun K2 hK2=>pl0 (plc E (.r 0 1 .nil) (fun a E=>?_)))
 obtain ⟨t4,h5,H⟩:=bd H
 refine ple E (.cl en202 (qAh.calls x _ _ _ S.own.sub h5)) ?_
 rintro _ u3 a ⟨_,rfl,hC⟩ E
 replace S:=S.lent hC
 refine plc E (.r 2 1 .nil) (fun a E=>pld (hK2 _ _ (sq fun K6 hK6=>pl0 (plc E (.r 0 1 .nil) (fun a E=>?_)))))
 obtain ⟨t8,h9,H⟩:=bd H
 refine ple E (.cl en202 (qAh.calls y _ _ _ S.own.sub h9)) ?_
 rintro _ u7 a ⟨_,rfl,hC⟩ E
 replace S:=S.lent hC
 refine plc E (.r 2 1 .nil) (fun a E=>pld (hK6 _ _ (sq fun K10 hK10=>rr E fun a E=>?_)))
 refine E.ib 11 H (fun c12 E H=>?_) fun c12 E H=>?_
 ·
  refine sq fun K13 hK13=>rr E fun a E=>?_
  refine E.ib 12 H (fun c15 E H=>?_) fun c15 E H=>?_
  ·
   refine rr E fun a E=>(wp_ret (qBb (qBb ?_)))
   obtain rfl:=si H
   exact rt1 E ⟨_,rfl,_,rfl,S⟩
  refine wp_skip (hK13 _ _ (rr E fun a E=>(wp_ret (qBb ?_))))
  obtain rfl:=si H
  exact rt1 E ⟨_,rfl,_,rfl,S⟩
 refine wp_skip (hK10 _ _ (sq fun K18 hK18=>rr E fun a E=>?_))
 refine E.ib 13 H (fun c20 E H=>?_) fun c20 E H=>?_
 ·
  refine rr E fun a E=>(wp_ret (qBb ?_))
  obtain rfl:=si H
  exact rt1 E ⟨_,rfl,_,rfl,S⟩
 refine wp_skip (hK18 _ _ (sq fun K22 hK22=>rr E fun a E=>?_))
 refine E.ik 16 H (fun c24 E H=>?_) fun c24 E H=>?_
 ·
  refine rr E fun a E=>(wp_ret (qBb ?_))
  obtain rfl:=si H
  exact rt1 E ⟨_,rfl,_,rfl,S⟩
 refine wp_skip (hK22 _ _ (sq fun K26 hK26=>rr E fun a E=>?_))
 refine E.ik 19 H (fun c28 E H=>?_) fun c28 E H=>?_
 ·
  refine rr E fun a E=>(wp_ret (qBb ?_))
  obtain rfl:=si H
  exact rt1 E ⟨_,rfl,_,rfl,S⟩
 refine wp_skip (hK26 _ _ (rr E fun a E=>(wp_ret ?_)))
 obtain rfl:=si H
 exact rt1 E ⟨_,rfl,_,rfl,S⟩
def qAs.f(x:qD)(y:Int):Option Int:=(qAW.f x.f0 y).bind fun t6=>(some t6)
def qAs.Post(W F:World)(r:Int)(v:Value)(w':World):Prop:=∃(F':World),v=iv r∧Sm W F w' F' []
theorem qAs.calls(x:qD)(y:Int)(A0_1:OA)(c0_1:Nat)(r:Int)(W F:World)(hown:Sub F W)(g0_1:Rd ki F A0_1 c0_1 x.f1)(H:qAs.f x y=some r):
    Cr 165 #[.agg #[iv x.f0,.slice A0_1 x.f1.length c0_1],iv y] W (qAs.Post W F r):=by
 have S:=St.start (Own.nil hown)
 unfold qAs.f at H
 refine ent 9 rfl rfl rfl (fun a E=>?_)
 refine sq fun K1 hK1=>pl0 (ple E (.bx (t:=97) S [iv x.f0,.slice A0_1 x.f1.length c0_1]) ?_)
 rintro _ u3 a ⟨b2,rfl,hb2,S,hg⟩ E
 refine plc E (.r 1 1 .nil) (fun a E=>pld (hK1 _ _ (sq fun K4 hK4=>pl0 (plc E (.r 0 1<|.b 1 0 hb2<|.r 2 1<|.nil) (fun a E=>?_)))))
 obtain ⟨t6,h7,H⟩:=bd H
 refine ple E (.cl en161 (qAW.calls x.f0 y _ _ _ S.own.sub h7)) ?_
 rintro _ u5 a ⟨_,rfl,hC⟩ E
 replace S:=S.lent hC
 refine plc E (.r 4 1 .nil) (fun a E=>pld (hK4 _ _ (wp_ret ?_)))
 replace S:=S.tail
 obtain rfl:=si H
 exact rt1 E ⟨_,rfl,_,rfl,S⟩
def qM.l7:Nat→List qD→Int→Int→Int→Option (Int × Bool)
 | 0,_,_,_,_=>none
 | k+1,x,y,x5,x6=>if x5<x6 then (if 0≤(w64 ((IntKind.u64.wrap (w64 (x5+x6))).fdiv 2))∧(w64 ((IntKind.u64.wrap (w64 (x5+x6))).fdiv 2))<(x.length:Int) then ((qAs.f (nth qD.z x (w64 ((IntKind.u64.wrap (w64 (x5+x6))).fdiv 2))) y).bind fun t25=>(if t25<0 then (qM.l7 k x y (w64 ((w64 ((IntKind.u64.wrap (w64 (x5+x6))).fdiv 2))+1)) x6) else (qM.l7 k x y x5 (w64 ((IntKind.u64.wrap (w64 (x5+x6))).fdiv 2))))) else (none)) else (if x5<(x.length:Int) then (if 0≤x5∧x5<(x.length:Int) then ((qAs.f (nth qD.z x x5) y).bind fun t39=>(some (x5,(t39 == 0)))) else (none)) else (some (x5,false)))
theorem qM.l7_s k x y x5 x6:type_of% (qM.l7.eq_2 x y x5 x6 k):=qM.l7.eq_2 x y x5 x6 k
def qM.f(k:Nat)(x:List qD)(y:Int):Option (Int × Bool):=qM.l7 k x y 0 (x.length:Int)
def qM.Post(W F:World)(r:Int × Bool)(v:Value)(w':World):Prop:=∃(F':World),v = .tuple #[iv r.1,.bool r.2]∧Sm W F w' F' []
theorem qM.calls(k:Nat)(x:List qD)(y:Int)(A0_0:OA)(c0_0:Nat)(r:Int × Bool)(W F:World)(hown:Sub F W)(g0_0:Rd qD.k F A0_0 c0_0 x)(H:qM.f k x y=some r):
    Cr 164 #[.slice A0_0 x.length c0_0,iv y,.func (.func 165) #[] #[]] W (qM.Post W F r):=by
 have S:=St.start (Own.nil hown)
 unfold qM.f at H
 refine ent 49 rfl rfl rfl (fun a E=>?_)
 refine rr E fun a E=>(rr E fun a E=>(rr E fun a E=>(sq fun K4 hK4=>wp_block ?_)))
 refine wp_loop_ghost (fun kq8 a w'=>∃(G:NV)(x5:Int)(x6:Int),kq8≤k∧Env 49 G a∧At G [(0,.slice A0_0 x.length c0_0),(1,iv y),(2,.func (.func 165) #[] #[]),(8,iv (x.length:Int)),(9,iv x5),(10,iv x6)]∧Sm W F w' F []∧qM.l7 kq8 x y x5 x6=some r) k ⟨_,0,(x.length:Int),Nat.le_refl _,E,.of,S,H⟩ ?_
 rintro kq8 a u10 ⟨G,x5,x6,hkq,E,A,S,H⟩
 obtain _ | k9:=kq8
 ·
  exact zz H
 rw [qM.l7_s]at H
 obtain ⟨J,E⟩:=E.at A
 refine sq fun K11 hK11=>rr E fun a E=>?_
 refine E.ik 17 H (fun c13 E H=>?_) fun c13 E H=>?_
 ·
  refine wp_skip (hK11 _ _ (wp_block (rr E fun a E=>(sq fun K15 hK15=>pl0 ?_))))
  obtain ⟨c16,H⟩:=gd H
  have hE_:=E
  obtain ⟨ad17,rfl⟩:=g0_0.addr c16.1 c16.2
  replace E:=hE_
  obtain ⟨cs19,⟨A21,c22,rfl,g23⟩,hc20⟩:=g0_0.el qD.z (w64 ((IntKind.u64.wrap (w64 (x5+x6))).fdiv 2)) c16.1 c16.2
  refine plc E (.r 0 3<|.x 3 c16<|.cs 4 (S.fcs hc20)<|.r 5 1<|.nil) (fun a E=>?_)
  obtain ⟨t25,h26,H⟩:=bd H
  refine ple E (.cl en165 (qAs.calls (nth qD.z x (w64 ((IntKind.u64.wrap (w64 (x5+x6))).fdiv 2))) y _ _ _ _ _ S.own.sub g23 h26)) ?_
  rintro _ u24 a ⟨_,rfl,hC⟩ E
  replace S:=S.lent hC
  refine plc E (.r 7 1 .nil) (fun a E=>pld (hK15 _ _ ?_))
  refine E.ik 31 H (fun c27 E H=>?_) fun c27 E H=>?_
  ·
   refine pl0 (plc E (.r 0 3 .nil) (fun a E=>pld ?_))
   refine qBd ?_
   exact qBf ⟨k9,by omega,_,(w64 ((w64 ((IntKind.u64.wrap (w64 (x5+x6))).fdiv 2))+1)),x6,by omega,E,.of,S,H⟩
  refine pl0 (plc E (.r 0 2 .nil) (fun a E=>pld ?_))
  refine qBd ?_
  exact qBf ⟨k9,by omega,_,x5,(w64 ((IntKind.u64.wrap (w64 (x5+x6))).fdiv 2)),by omega,E,.of,S,H⟩
 refine wp_exit ?_
 refine hK4 _ _ (sq fun K28 hK28=>pl0 (plc E (.r 0 5 .nil) (fun a E=>?_)))
 rcases sp H with ⟨c29,H⟩ | ⟨c29,H⟩
 ·
  replace E:=E.kt 39 c29
  obtain ⟨c30,H⟩:=gd H
  have hE_:=E
  obtain ⟨ad31,rfl⟩:=g0_0.addr c30.1 c30.2
  replace E:=hE_
  obtain ⟨cs33,⟨A35,c36,rfl,g37⟩,hc34⟩:=g0_0.el qD.z x5 c30.1 c30.2
  refine plc E (.r 5 3<|.x 8 c30<|.cs 9 (S.fcs hc34)<|.r 10 1<|.nil) (fun a E=>?_)
  obtain ⟨t39,h40,H⟩:=bd H
  refine ple E (.cl en165 (qAs.calls (nth qD.z x x5) y _ _ _ _ _ S.own.sub g37 h40)) ?_
  rintro _ u38 a ⟨_,rfl,hC⟩ E
  replace S:=S.lent hC
  refine plc E (.r 12 4 .nil) (fun a E=>pld (hK28 _ _ (wp_ret ?_)))
  obtain rfl:=si H
  exact rtN E ⟨_,rfl,_,rfl,S⟩
 replace E:=E.kf 39 c29
 refine plc E (.r 5 11 .nil) (fun a E=>pld (hK28 _ _ (wp_ret ?_)))
 obtain rfl:=si H
 exact rtN E ⟨_,rfl,_,rfl,S⟩
def qBI.f(k:Nat)(x:qF)(y:Int):Option (Int × Bool):=(qM.f k x.f5 y).bind fun t6=>(some (t6.1,t6.2))
def qBI.Post(W F:World)(r:Int × Bool)(v:Value)(w':World):Prop:=∃(F':World),v = .tuple #[iv r.1,.bool r.2]∧Sm W F w' F' []
theorem qBI.calls(k:Nat)(x:qF)(y:Int)(A0_4:OA)(c0_4:Nat)(A0_5:OA)(c0_5:Nat)(A0_6:OA)(c0_6:Nat)(r:Int × Bool)(W F:World)(hown:Sub F W)(g0_4:Rd qA.k F A0_4 c0_4 x.f4)(g0_5:Rd qD.k F A0_5 c0_5 x.f5)(g0_6:Rd qC.k F A0_6 c0_6 x.f6)(H:qBI.f k x y=some r):
    Cr 121 #[.agg #[iv x.f0,iv x.f1,iv x.f2,iv x.f3,.slice A0_4 x.f4.length c0_4,.slice A0_5 x.f5.length c0_5,.slice A0_6 x.f6.length c0_6],iv y] W (qBI.Post W F r):=by
 have S:=St.start (Own.nil hown)
 unfold qBI.f at H
 refine ent 12 rfl rfl rfl (fun a E=>?_)
 refine sq fun K1 hK1=>pl0 (ple E (.bx (t:=26) S [iv x.f0,iv x.f1,iv x.f2,iv x.f3,.slice A0_4 x.f4.length c0_4,.slice A0_5 x.f5.length c0_5,.slice A0_6 x.f6.length c0_6]) ?_)
 rintro _ u3 a ⟨b2,rfl,hb2,S,hg⟩ E
 refine plc E (.r 1 2 .nil) (fun a E=>pld (hK1 _ _ (sq fun K4 hK4=>pl0 (plc E (.r 0 1<|.b 1 5 hb2<|.r 2 1<|.nil) (fun a E=>?_)))))
 obtain ⟨t6,h7,H⟩:=bd H
 refine ple E (.cl en164 (qM.calls k x.f5 y _ _ _ _ _ S.own.sub g0_5 h7)) ?_
 rintro _ u5 a ⟨_,rfl,hC⟩ E
 replace S:=S.lent hC
 refine plc E (.r 4 4 .nil) (fun a E=>pld (hK4 _ _ (wp_ret ?_)))
 replace S:=S.tail
 obtain rfl:=si H
 exact rtN E ⟨_,rfl,_,rfl,S⟩
end Go.Proofs.YtpohepinmjmbkaaGreat.MM
