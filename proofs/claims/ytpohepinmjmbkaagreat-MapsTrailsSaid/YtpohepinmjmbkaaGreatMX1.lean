import Derived.Test.YtpohepinmjmbkaaGreatMX0
namespace Go.Proofs.YtpohepinmjmbkaaGreat.MX
open Go Go.RowKit Go.Proofs.YtpohepinmjmbkaaGreat.Sl
set_option linter.unusedVariables false
set_option linter.unusedSimpArgs false
set_option maxHeartbeats 4000000
set_option maxRecDepth 100000
def qAZ.f(x:Int)(y:Int)(z:Int):Option Bool:=if x≥y then (some (decide (x≤z))) else (some false)
def qAZ.Post(W F:World)(r:Bool)(v:Value)(w':World):Prop:=∃(F':World),v = .bool r∧Sm W F w' F' []
theorem qAZ.calls(x:Int)(y:Int)(z:Int)(r:Bool)(W F:World)(hown:Sub F W)(H:qAZ.f x y z=some r):
    Cr 70 #[iv x,iv y,iv z] W (qAZ.Post W F r):=by
 have S:=sT hown
 unfold qAZ.f at H
 refine ent 15 rfl rfl rfl (fun a E=>?_)
 refine rr E fun a E=>(sq fun K2 hK2=>pl0 (plc E (.r 0 4 .nil) (fun a E=>E.fk 10 H (fun c3 E H=>?_) fun c3 E H=>?_)))
 refine plc E (.r 4 5 .nil) (fun a E=>pld (hK2 _ _ (wp_ret ?_)))
 obtain rfl:=si H
 exact rt1 E ⟨_,rfl,_,rfl,S⟩
 refine plc E (.r 4 5 .nil) (fun a E=>pld (hK2 _ _ (wp_ret ?_)))
 obtain rfl:=si H
 exact rt1 E ⟨_,rfl,_,rfl,S⟩
def qBN.f(x:Int)(y:Int)(z:Int):Option Bool:=if x≥y then (some (decide (x≤z))) else (some false)
def qBN.Post(W F:World)(r:Bool)(v:Value)(w':World):Prop:=∃(F':World),v = .bool r∧Sm W F w' F' []
theorem qBN.calls(x:Int)(y:Int)(z:Int)(r:Bool)(W F:World)(hown:Sub F W)(H:qBN.f x y z=some r):
    Cr 141 #[iv x,iv y,iv z] W (qBN.Post W F r):=by
 have S:=sT hown
 unfold qBN.f at H
 refine ent 15 rfl rfl rfl (fun a E=>?_)
 refine rr E fun a E=>(sq fun K2 hK2=>pl0 (plc E (.r 0 4 .nil) (fun a E=>E.fk 10 H (fun c3 E H=>?_) fun c3 E H=>?_)))
 refine plc E (.r 4 5 .nil) (fun a E=>pld (hK2 _ _ (wp_ret ?_)))
 obtain rfl:=si H
 exact rt1 E ⟨_,rfl,_,rfl,S⟩
 refine plc E (.r 4 5 .nil) (fun a E=>pld (hK2 _ _ (wp_ret ?_)))
 obtain rfl:=si H
 exact rt1 E ⟨_,rfl,_,rfl,S⟩
mutual
def qz.l9:Nat→List qA→Int→Option Int
 | 0,_,_=>none
 | k+1,x,x8=>if x8<(x.length:Int) then (if 0≤x8∧x8<(x.length:Int) then ((qBN.f ((nth qA.z x x8).f0) 1 999).bind fun t28=>(if t28=true then ((qBN.f ((nth qA.z x x8).f1) 1 9).bind fun t32=>(if t32=true then ((qBN.f ((nth qA.z x x8).f2) 1 9).bind fun t36=>(if t36=true then ((qBN.f ((nth qA.z x x8).f3) 0 65536).bind fun t40=>(if t40=true then (if x8>0 then (if 0≤(w64 (x8 - 1))∧(w64 (x8 - 1))<(x.length:Int) then (qz.j49 k x x8 (decide ((nth qA.z x x8).f0≤(nth qA.z x (w64 (x8 - 1))).f0))) else (none)) else (qz.j49 k x x8 false)) else (qz.j49 k x x8 true))) else (qz.j49 k x x8 true))) else (qz.j49 k x x8 true))) else (qz.j49 k x x8 true))) else (none)) else (some 0)
def qz.j49:Nat→List qA→Int→Bool→Option Int
 | 0,_,_,_=>none
 | k+1,x,x8,y48=>if y48=true then (some 1) else (qz.l9 k x (w64 (x8+1)))
end
theorem qz.l9_s k x x8:type_of% (qz.l9.eq_2 x x8 k):=qz.l9.eq_2 x x8 k
theorem qz.j49_s k x x8 y48:type_of% (qz.j49.eq_2 x x8 y48 k):=qz.j49.eq_2 x x8 y48 k
def qz.f(k:Nat)(x:List qA):Option Int:=if (x.length:Int)>12 then (some 1) else (qz.l9 k x 0)
def qz.Post(W F:World)(r:Int)(v:Value)(w':World):Prop:=∃(F':World),v=iv r∧Sm W F w' F' []
theorem qz.calls(k:Nat)(x:List qA)(A0_0:OA)(c0_0:Nat)(r:Int)(W F:World)(hown:Sub F W)(g0_0:Rd qA.k F A0_0 c0_0 x)(H:qz.f k x=some r):
    Cr 80 #[.slice A0_0 x.length c0_0] W (qz.Post W F r):=by
 have S:=sT hown
 unfold qz.f at H
 refine ent 53 rfl rfl rfl (fun a E=>?_)
 refine rr E fun a E=>(sq fun K2 hK2=>rr E fun a E=>(E.ik 7 H (fun c4 E H=>?_) fun c4 E H=>?_))
 refine rr E fun a E=>(wp_ret (qBZ ?_))
 obtain rfl:=si H
 exact rt1 E ⟨_,rfl,_,rfl,S⟩
 refine wp_skip (hK2 _ _ (sq fun K6 hK6=>rr E fun a E=>(wp_block ?_)))
 refine wp_loop_ghost (fun kq10 a w'=>∃(G:NV)(x8:Int),kq10≤k∧Env 53 G a∧At G [(0,.slice A0_0 x.length c0_0),(8,.slice A0_0 x.length c0_0),(9,iv (x.length:Int)),(10,iv x8)]∧Sm W F w' F []∧qz.l9 kq10 x x8=some r) k ⟨_,0,Nat.le_refl _,E,.of,S,H⟩ ?_
 rintro kq10 a u12 ⟨G,x8,hkq,E,A,S,H⟩
 obtain _ | k11:=kq10
 exact zz H
 rw [qz.l9_s]at H
 obtain ⟨J,E⟩:=E.at A
 refine rr E fun a E=>(sq fun K14 hK14=>E.ik 11 H (fun c15 E H=>?_) fun c15 E H=>?_)
 refine wp_skip (hK14 _ _ (sq fun K16 hK16=>wp_block (sq fun K17 hK17=>pl0 ?_)))
 obtain ⟨c18,H⟩:=gd H
 have hE_:=E
 obtain ⟨ad19,rfl⟩:=g0_0.addr c18.1 c18.2
 replace E:=hE_
 obtain ⟨cs21,rfl,hc22⟩:=g0_0.el qA.z x8 c18.1 c18.2
 refine plc E (.r 0 1<|.x 1 c18<|.cs 2 (S.fcs hc22)<|.nil) (fun a E=>pla (t:=104) E S [iv 0,iv 0,iv 0,iv 0,.bool false,.bool false] fun b23 u24 hb23 S a E=>plc E (.r 4 1 .nil) (fun a E=>pls E S [iv ((nth qA.z x x8).f0),iv ((nth qA.z x x8).f1),iv ((nth qA.z x x8).f2),iv ((nth qA.z x x8).f3),.bool ((nth qA.z x x8).f4),.bool ((nth qA.z x x8).f5)] fun u25 hb23 S a E=>pld (hK17 _ _ (sq fun K26 hK26=>?_))))
 have J52:∀ kq50,kq50≤k11→∀(G:NV)(y48:Bool)(a:Act)(w':World),Env 53 G a→At G [(0,.slice (some ad19) x.length c0_0),(8,.slice (some ad19) x.length c0_0),(9,iv (x.length:Int)),(10,iv x8),(51,.bool y48)]→Sm W F w' F [box b23 #[iv ((nth qA.z x x8).f0),iv ((nth qA.z x x8).f1),iv ((nth qA.z x x8).f2),iv ((nth qA.z x x8).f3),.bool ((nth qA.z x x8).f4),.bool ((nth qA.z x x8).f5)] 104]→qz.j49 kq50 x x8 y48=some r→K26 a w':=by
  intro kq50 hkq G y48 a u53 E A S H
  obtain _ | k51:=kq50
  exact zz H
  rw [qz.j49_s]at H
  obtain ⟨J,E⟩:=E.at A
  refine hK26 _ _ (E.ib 51 H (fun c54 E H=>?_) fun c54 E H=>?_)
  refine rr E fun a E=>(wp_ret (qBa (qBZ (qBZ (qBa (qBZ ?_))))))
  replace S:=S.tail
  obtain rfl:=si H
  exact rt1 E ⟨_,rfl,_,rfl,S⟩
  refine wp_skip ?_
  refine qBb ?_
  refine hK16 _ _ (pl0 (plc E (.r 0 2 .nil) (fun a E=>pld ?_)))
  replace S:=S.tail
  exact qBc ⟨k51,by omega,_,(w64 (x8+1)),by omega,E,.of,S,H⟩
 refine drawn 37 ⟨[],[],fun q=>False⟩ mixed rfl (by kernel_rfl) (fun hst=>?_)
 replace S:=S.drew
 have hb23:=S.ba 0
 refine mny 35 hst E (.r 0 1<|.b 1 0 hb23<|.nil) (fun a E=>?_)
 obtain ⟨t28,h29,H⟩:=bd H
 refine on1 2 E (.cl en141 (qBN.calls ((nth qA.z x x8).f0) 1 999 _ _ _ S.own.sub h29)) ?_
 rintro _ u27 a ⟨_,rfl,hC⟩ E
 refine ⟨.of hC.agr,?_⟩
 replace S:=S.lent hC
 refine mny 32 hst E (.r 3 2 .nil) (fun a E=>?_)
 refine E.fbn 19 H (fun c30 E H=>?_) fun c30 E H=>?_
 have hb23:=S.ba 0
 refine mny 30 hst E (.r 5 1<|.b 6 1 hb23<|.nil) (fun a E=>?_)
 obtain ⟨t32,h33,H⟩:=bd H
 refine on1 7 E (.cl en141 (qBN.calls ((nth qA.z x x8).f1) 1 9 _ _ _ S.own.sub h33)) ?_
 rintro _ u31 a ⟨_,rfl,hC⟩ E
 refine ⟨.of hC.agr,?_⟩
 replace S:=S.lent hC
 refine mny 26 hst E (.r 8 3 .nil) (fun a E=>?_)
 refine E.fbn 25 H (fun c34 E H=>?_) fun c34 E H=>?_
 have hb23:=S.ba 0
 refine mny 24 hst E (.r 11 1<|.b 12 2 hb23<|.nil) (fun a E=>?_)
 obtain ⟨t36,h37,H⟩:=bd H
 refine on1 13 E (.cl en141 (qBN.calls ((nth qA.z x x8).f2) 1 9 _ _ _ S.own.sub h37)) ?_
 rintro _ u35 a ⟨_,rfl,hC⟩ E
 refine ⟨.of hC.agr,?_⟩
 replace S:=S.lent hC
 refine mny 20 hst E (.r 14 3 .nil) (fun a E=>?_)
 refine E.fbn 31 H (fun c38 E H=>?_) fun c38 E H=>?_
 have hb23:=S.ba 0
 refine mny 18 hst E (.r 17 1<|.b 18 3 hb23<|.nil) (fun a E=>?_)
 obtain ⟨t40,h41,H⟩:=bd H
 refine on1 19 E (.cl en141 (qBN.calls ((nth qA.z x x8).f3) 0 65536 _ _ _ S.own.sub h41)) ?_
 rintro _ u39 a ⟨_,rfl,hC⟩ E
 refine ⟨.of hC.agr,?_⟩
 replace S:=S.lent hC
 refine mny 14 hst E (.r 20 3 .nil) (fun a E=>?_)
 refine E.fbn 37 H (fun c42 E H=>?_) fun c42 E H=>?_
 refine mny 11 hst E (.r 23 3 .nil) (fun a E=>?_)
 refine E.fk 40 H (fun c43 E H=>?_) fun c43 E H=>?_
 have hb23:=S.ba 0
 obtain ⟨c44,H⟩:=gd H
 obtain ⟨cs46,rfl,hc47⟩:=g0_0.el qA.z (w64 (x8 - 1)) c44.1 c44.2
 refine mny 0 hst E (.r 26 1<|.b 27 0 hb23<|.r 28 3<|.x 31 c44<|.r 32 1<|.c 33 (S.fc hc47 0)<|.r 34 3<|.nil) (fun a E=>?_)
 refine dn ?_
 exact J52 _ (by omega) _ (decide ((nth qA.z x x8).f0≤(nth qA.z x (w64 (x8 - 1))).f0)) _ _ E .of S H
 refine mny 0 hst E (.r 26 11 .nil) (fun a E=>?_)
 refine dn ?_
 exact J52 _ (by omega) _ false _ _ E .of S H
 refine mny 0 hst E (.r 23 14 .nil) (fun a E=>?_)
 refine dn ?_
 exact J52 _ (by omega) _ true _ _ E .of S H
 refine mny 0 hst E (.r 17 20 .nil) (fun a E=>?_)
 refine dn ?_
 exact J52 _ (by omega) _ true _ _ E .of S H
 refine mny 0 hst E (.r 11 26 .nil) (fun a E=>?_)
 refine dn ?_
 exact J52 _ (by omega) _ true _ _ E .of S H
 refine mny 0 hst E (.r 5 32 .nil) (fun a E=>?_)
 refine dn ?_
 exact J52 _ (by omega) _ true _ _ E .of S H
 refine wp_exit ?_
 refine hK6 _ _ (rr E fun a E=>(wp_ret ?_))
 obtain rfl:=si H
 exact rt1 E ⟨_,rfl,_,rfl,S⟩
def qv.l5:Nat→List Int→Int→Int→Option Int
 | 0,_,_,_=>none
 | k+1,x,y,x4=>if x4<(x.length:Int) then (if 0≤x4∧x4<(x.length:Int) then (if y=(nth 0 x x4) then (some x4) else (qv.l5 k x y (w64 (x4+1)))) else (none)) else (some (-1))
theorem qv.l5_s k x y x4:type_of% (qv.l5.eq_2 x y x4 k):=qv.l5.eq_2 x y x4 k
def qv.f(k:Nat)(x:List Int)(y:Int):Option Int:=qv.l5 k x y 0
def qv.Post(W F:World)(r:Int)(v:Value)(w':World):Prop:=∃(F':World),v=iv r∧Sm W F w' F' []
theorem qv.calls(k:Nat)(x:List Int)(y:Int)(A0_0:OA)(c0_0:Nat)(r:Int)(W F:World)(hown:Sub F W)(g0_0:Rd ki F A0_0 c0_0 x)(H:qv.f k x y=some r):
    Cr 162 #[.slice A0_0 x.length c0_0,iv y] W (qv.Post W F r):=by
 have S:=sT hown
 unfold qv.f at H
 refine ent 19 rfl rfl rfl (fun a E=>?_)
 refine rr E fun a E=>(sq fun K2 hK2=>rr E fun a E=>(wp_block ?_))
 refine wp_loop_ghost (fun kq6 a w'=>∃(G:NV)(x4:Int),kq6≤k∧Env 19 G a∧At G [(0,.slice A0_0 x.length c0_0),(1,iv y),(7,iv (x.length:Int)),(8,iv x4)]∧Sm W F w' F []∧qv.l5 kq6 x y x4=some r) k ⟨_,0,Nat.le_refl _,E,.of,S,H⟩ ?_
 rintro kq6 a u8 ⟨G,x4,hkq,E,A,S,H⟩
 obtain _ | k7:=kq6
 exact zz H
 rw [qv.l5_s]at H
 obtain ⟨J,E⟩:=E.at A
 refine rr E fun a E=>(sq fun K10 hK10=>E.ik 9 H (fun c11 E H=>?_) fun c11 E H=>?_)
 refine wp_skip (hK10 _ _ (sq fun K12 hK12=>wp_block (rr E fun a E=>(sq fun K14 hK14=>pl0 ?_))))
 obtain ⟨c15,H⟩:=gd H
 have hE_:=E
 obtain ⟨ad16,rfl⟩:=g0_0.addr c15.1 c15.2
 replace E:=hE_
 obtain ⟨cs18,rfl,hc19⟩:=g0_0.el 0 x4 c15.1 c15.2
 refine plc E (.r 0 3<|.x 3 c15<|.c 4 (S.fc hc19 0)<|.r 5 1<|.nil) (fun a E=>pld (hK14 _ _ (E.ik 16 H (fun c20 E H=>?_) fun c20 E H=>?_)))
 refine rr E fun a E=>(wp_ret (qBa (qBZ (qBZ (qBa (qBZ ?_))))))
 obtain rfl:=si H
 exact rt1 E ⟨_,rfl,_,rfl,S⟩
 refine wp_skip ?_
 refine qBb ?_
 refine hK12 _ _ (pl0 (plc E (.r 0 2 .nil) (fun a E=>pld ?_)))
 exact qBc ⟨k7,by omega,_,(w64 (x4+1)),by omega,E,.of,S,H⟩
 refine wp_exit ?_
 refine hK2 _ _ (rr E fun a E=>(wp_ret ?_))
 obtain rfl:=si H
 exact rt1 E ⟨_,rfl,_,rfl,S⟩
def qAB.f(k:Nat)(x:List Int)(y:Int):Option Bool:=(qv.f k x y).bind fun t4=>(some (decide (t4≥0)))
def qAB.Post(W F:World)(r:Bool)(v:Value)(w':World):Prop:=∃(F':World),v = .bool r∧Sm W F w' F' []
theorem qAB.calls(k:Nat)(x:List Int)(y:Int)(A0_0:OA)(c0_0:Nat)(r:Bool)(W F:World)(hown:Sub F W)(g0_0:Rd ki F A0_0 c0_0 x)(H:qAB.f k x y=some r):
    Cr 118 #[.slice A0_0 x.length c0_0,iv y] W (qAB.Post W F r):=by
 have S:=sT hown
 unfold qAB.f at H
 refine ent 9 rfl rfl rfl (fun a E=>?_)
 refine rr E fun a E=>(sq fun K2 hK2=>pl0 (plc E (.r 0 2 .nil) (fun a E=>?_)))
 obtain ⟨t4,h5,H⟩:=bd H
 refine plq E S en162 (qv.calls k x y _ _ _ _ _ S.own.sub g0_0 h5) fun u3 S a E=>plc E (.r 3 2 .nil) (fun a E=>pld (hK2 _ _ (wp_ret ?_)))
 obtain rfl:=si H
 exact rt1 E ⟨_,rfl,_,rfl,S⟩
mutual
def qAC.l18:Nat→List qA→List Int→List Int→Int→Option Bool
 | 0,_,_,_,_=>none
 | k+1,x,y,l16,x17=>if x17<(y.length:Int) then (if 0≤x17∧x17<(y.length:Int) then (qAC.l35 k x y l16 x17 0) else (none)) else (some true)
def qAC.l35:Nat→List qA→List Int→List Int→Int→Int→Option Bool
 | 0,_,_,_,_,_=>none
 | k+1,x,y,l16,x17,x34=>if x34<(x.length:Int) then (if 0≤x34∧x34<(x.length:Int) then (if (nth qA.z x x34).f0=(nth 0 y x17) then ((qAB.f k l16 ((nth qA.z x x34).f1)).bind fun t55=>(qAC.j58 k x y l16 x17 x34 (!t55))) else (qAC.j58 k x y l16 x17 x34 false)) else (none)) else (some false)
def qAC.j58:Nat→List qA→List Int→List Int→Int→Int→Bool→Option Bool
 | 0,_,_,_,_,_,_=>none
 | k+1,x,y,l16,x17,x34,y57=>if y57=true then (if ((l16.length:Int)+((1:Nat):Int)) * 8≤140737488355328 then (qAC.l18 k x y (l16++[(nth qA.z x x34).f1]) (w64 (x17+1))) else (none)) else (qAC.l35 k x y l16 x17 (w64 (x34+1)))
end
theorem qAC.l18_s k x y l16 x17:type_of% (qAC.l18.eq_2 x y l16 x17 k):=qAC.l18.eq_2 x y l16 x17 k
theorem qAC.l35_s k x y l16 x17 x34:type_of% (qAC.l35.eq_2 x y l16 x17 x34 k):=qAC.l35.eq_2 x y l16 x17 x34 k
theorem qAC.j58_s k x y l16 x17 x34 y57:type_of% (qAC.j58.eq_2 x y l16 x17 x34 y57 k):=qAC.j58.eq_2 x y l16 x17 x34 y57 k
def qAC.f(k:Nat)(x:List qA)(y:List Int):Option Bool:=(qz.f k x).bind fun t5=>(if t5=0 then (qAC.l18 k x y [] 0) else (some false))
def qAC.Post(W F:World)(r:Bool)(v:Value)(w':World):Prop:=∃(F':World),v = .bool r∧Sm W F w' F' []
theorem qAC.calls(k:Nat)(x:List qA)(y:List Int)(A0_0:OA)(c0_0:Nat)(A1_0:OA)(c1_0:Nat)(r:Bool)(W F:World)(hown:Sub F W)(g0_0:Rd qA.k F A0_0 c0_0 x)(g1_0:Rd ki F A1_0 c1_0 y)(H:qAC.f k x y=some r):
    Cr 81 #[.slice A0_0 x.length c0_0,.slice A1_0 y.length c1_0] W (qAC.Post W F r):=by
 have S:=sT hown
 unfold qAC.f at H
 refine ent 43 rfl rfl rfl (fun a E=>?_)
 refine rr E fun a E=>?_
 refine wp_scope_straight ?_
 refine sq fun K2 hK2=>sq fun K3 hK3=>pl0 (plc E (.r 0 1 .nil) (fun a E=>?_))
 obtain ⟨t5,h6,H⟩:=bd H
 refine plq E S en80 (qz.calls k x _ _ _ _ _ S.own.sub g0_0 h6) fun u4 S a E=>plc E (.r 2 1 .nil) (fun a E=>pld (hK3 _ _ (E.ikn 12 H (fun c7 E H=>?_) fun c7 E H=>?_)))
 refine wp_skip (hK2 _ _ (rr E fun a E=>(sq fun K10 hK10=>?_)))
 refine wp_label ?_
 refine hK10 _ _ (sq fun K11 hK11=>rr E fun a E=>(wp_block ?_))
 replace S:=S.nilrow ki 3
 refine wp_loop_ghost (fun kq19 a w'=>∃(G:NV)(A14:OA)(c15:Nat)(l16:List Int)(x17:Int),kq19≤k∧Env 43 G a∧At G [(0,.slice A0_0 x.length c0_0),(5,.slice A14 l16.length c15),(13,.slice A1_0 y.length c1_0),(14,iv (y.length:Int)),(15,iv x17)]∧Sm W F w' F [row ki 3 (.slice A14 l16.length c15) l16]∧qAC.l18 kq19 x y l16 x17=some r) k ⟨_,none,0,[],0,Nat.le_refl _,E,.of,S,H⟩ ?_
 rintro kq19 a u21 ⟨G,A14,c15,l16,x17,hkq,E,A,S,H⟩
 obtain _ | k20:=kq19
 exact zz H
 rw [qAC.l18_s]at H
 obtain ⟨J,E⟩:=E.at A
 refine rr E fun a E=>(sq fun K23 hK23=>E.ik 16 H (fun c24 E H=>?_) fun c24 E H=>?_)
 refine wp_skip (hK23 _ _ (sq fun K25 hK25=>wp_block (sq fun K26 hK26=>pl0 ?_)))
 obtain ⟨c27,H⟩:=gd H
 have hE_:=E
 obtain ⟨ad28,rfl⟩:=g1_0.addr c27.1 c27.2
 replace E:=hE_
 obtain ⟨cs30,rfl,hc31⟩:=g1_0.el 0 x17 c27.1 c27.2
 refine plc E (.x 0 c27<|.c 1 (S.fc hc31 0)<|.r 2 1<|.nil) (fun a E=>pld (hK26 _ _ (sq fun K32 hK32=>rr E fun a E=>(wp_block ?_))))
 refine wp_loop_ghost (fun kq36 a w'=>∃(G:NV)(x34:Int),kq36≤k20∧Env 43 G a∧At G [(0,.slice A0_0 x.length c0_0),(5,.slice A14 l16.length c15),(7,iv (nth 0 y x17)),(13,.slice (some ad28) y.length c1_0),(14,iv (y.length:Int)),(15,iv x17),(19,.slice A0_0 x.length c0_0),(20,iv (x.length:Int)),(21,iv x34)]∧Sm W F w' F [row ki 3 (.slice A14 l16.length c15) l16]∧qAC.l35 kq36 x y l16 x17 x34=some r) k20 ⟨_,0,Nat.le_refl _,E,.of,S,H⟩ ?_
 rintro kq36 a u38 ⟨G,x34,hkq,E,A,S,H⟩
 obtain _ | k37:=kq36
 exact zz H
 rw [qAC.l35_s]at H
 obtain ⟨J,E⟩:=E.at A
 refine rr E fun a E=>(sq fun K40 hK40=>E.ik 22 H (fun c41 E H=>?_) fun c41 E H=>?_)
 refine wp_skip (hK40 _ _ (sq fun K42 hK42=>wp_block (sq fun K43 hK43=>pl0 ?_)))
 obtain ⟨c44,H⟩:=gd H
 have hE_:=E
 obtain ⟨ad45,rfl⟩:=g0_0.addr c44.1 c44.2
 replace E:=hE_
 obtain ⟨cs47,rfl,hc48⟩:=g0_0.el qA.z x34 c44.1 c44.2
 refine plc E (.x 0 c44<|.cs 1 (S.fcs hc48)<|.nil) (fun a E=>pla (t:=104) E S [iv 0,iv 0,iv 0,iv 0,.bool false,.bool false] fun b49 u50 hb49 S a E=>pls E S [iv ((nth qA.z x x34).f0),iv ((nth qA.z x x34).f1),iv ((nth qA.z x x34).f2),iv ((nth qA.z x x34).f3),.bool ((nth qA.z x x34).f4),.bool ((nth qA.z x x34).f5)] fun u51 hb49 S a E=>pld (hK43 _ _ (sq fun K52 hK52=>?_)))
 have J61:∀ kq59,kq59≤k37→∀(G:NV)(y57:Bool)(a:Act)(w':World),Env 43 G a→At G [(0,.slice (some ad45) x.length c0_0),(5,.slice A14 l16.length c15),(7,iv (nth 0 y x17)),(9,.pointer (pb b49)),(13,.slice (some ad28) y.length c1_0),(14,iv (y.length:Int)),(15,iv x17),(19,.slice (some ad45) x.length c0_0),(20,iv (x.length:Int)),(21,iv x34),(35,.bool y57)]→Sm W F w' F [box b49 #[iv ((nth qA.z x x34).f0),iv ((nth qA.z x x34).f1),iv ((nth qA.z x x34).f2),iv ((nth qA.z x x34).f3),.bool ((nth qA.z x x34).f4),.bool ((nth qA.z x x34).f5)] 104,row ki 3 (.slice A14 l16.length c15) l16]→qAC.j58 kq59 x y l16 x17 x34 y57=some r→K52 a w':=by
  intro kq59 hkq G y57 a u62 E A S H
  obtain _ | k60:=kq59
  exact zz H
  rw [qAC.j58_s]at H
  obtain ⟨J,E⟩:=E.at A
  refine hK52 _ _ (E.ib 35 H (fun c63 E H=>?_) fun c63 E H=>?_)
  refine sq fun K64 hK64=>pl0 (plc E (.r 0 2<|.b 2 1 (S.ba 0)<|.nil) (fun a E=>ple E (.lit (d:=ki) (e:=3) S [(nth qA.z x x34).f1] (.cons rfl .nil)) ?_))
  rintro _ u65 a ⟨A66,c67,rfl,S,hg⟩ E
  obtain ⟨c69,H⟩:=gd H
  replace S:=S.front 2 rfl
  refine ple E (.ap (d:=ki) 8 S (qBn (S.row_at (i:=1) rfl)) c69 c67) ?_
  rintro _ u72 a ⟨A70,c71,rfl,S,hz⟩ E
  refine plc E (.r 5 1 .nil) (fun a E=>pld (hK64 _ _ ?_))
  refine wp_exit ?_
  refine hK25 _ _ (pl0 (plc E (.r 0 2 .nil) (fun a E=>pld ?_)))
  replace S:=S.pm [0] 3
  exact qBc ⟨k60,by omega,_,A70,c71,(l16++[(nth qA.z x x34).f1]),(w64 (x17+1)),by omega,E,.of,S,H⟩
  refine wp_skip ?_
  refine qBb ?_
  refine hK42 _ _ (pl0 (plc E (.r 0 2 .nil) (fun a E=>pld ?_)))
  replace S:=S.tail
  exact qBc ⟨k60,by omega,_,(w64 (x34+1)),by omega,E,.of,S,H⟩
 refine pl0 (plc E (.r 0 1<|.b 1 0 hb49<|.r 2 3<|.nil) (fun a E=>E.fk 29 H (fun c53 E H=>?_) fun c53 E H=>?_))
 refine plc E (.r 5 2<|.b 7 1 hb49<|.nil) (fun a E=>?_)
 obtain ⟨t55,h56,H⟩:=bd H
 refine plq E S en118 (qAB.calls k37 l16 ((nth qA.z x x34).f1) _ _ _ _ _ (Sub.refl _) (S.rd_at (i:=1) rfl) h56) fun u54 S a E=>plc E (.r 9 2 .nil) (fun a E=>pld ?_)
 exact J61 _ (by omega) _ (!t55) _ _ E .of S H
 refine plc E (.r 5 6 .nil) (fun a E=>pld ?_)
 exact J61 _ (by omega) _ false _ _ E .of S H
 refine wp_exit ?_
 refine hK32 _ _ (rr E fun a E=>(wp_ret (qBa (qBZ (qBZ (qBa (qBZ (qCm ?_))))))))
 replace S:=S.tail
 obtain rfl:=si H
 exact rt1 E ⟨_,rfl,_,rfl,S⟩
 refine wp_exit ?_
 refine hK11 _ _ (rr E fun a E=>(wp_ret (qCm ?_)))
 replace S:=S.tail
 obtain rfl:=si H
 exact rt1 E ⟨_,rfl,_,rfl,S⟩
 refine rr E fun a E=>(wp_ret (qBZ (qCm ?_)))
 obtain rfl:=si H
 exact rt1 E ⟨_,rfl,_,rfl,S⟩
def ql.l9:Nat→List Int→List Int→Int→Option Bool
 | 0,_,_,_=>none
 | k+1,x,y,x8=>if x8<(x.length:Int) then (if 0≤x8∧x8<(x.length:Int) then (if 0≤x8∧x8<(y.length:Int) then (if (nth 0 x x8)=(nth 0 y x8) then (ql.l9 k x y (w64 (x8+1))) else (some false)) else (none)) else (none)) else (some true)
theorem ql.l9_s k x y x8:type_of% (ql.l9.eq_2 x y x8 k):=ql.l9.eq_2 x y x8 k
def ql.f(k:Nat)(x:List Int)(y:List Int):Option Bool:=if (x.length:Int)=(y.length:Int) then (ql.l9 k x y 0) else (some false)
def ql.Post(W F:World)(r:Bool)(v:Value)(w':World):Prop:=∃(F':World),v = .bool r∧Sm W F w' F' []
theorem ql.calls(k:Nat)(x:List Int)(y:List Int)(A0_0:OA)(c0_0:Nat)(A1_0:OA)(c1_0:Nat)(r:Bool)(W F:World)(hown:Sub F W)(g0_0:Rd ki F A0_0 c0_0 x)(g1_0:Rd ki F A1_0 c1_0 y)(H:ql.f k x y=some r):
    Cr 90 #[.slice A0_0 x.length c0_0,.slice A1_0 y.length c1_0] W (ql.Post W F r):=by
 have S:=sT hown
 unfold ql.f at H
 refine ent 26 rfl rfl rfl (fun a E=>?_)
 refine rr E fun a E=>(sq fun K2 hK2=>rr E fun a E=>(E.ikn 10 H (fun c4 E H=>?_) fun c4 E H=>?_))
 refine wp_skip (hK2 _ _ (sq fun K6 hK6=>rr E fun a E=>(wp_block ?_)))
 refine wp_loop_ghost (fun kq10 a w'=>∃(G:NV)(x8:Int),kq10≤k∧Env 26 G a∧At G [(0,.slice A0_0 x.length c0_0),(1,.slice A1_0 y.length c1_0),(12,iv (x.length:Int)),(13,iv x8)]∧Sm W F w' F []∧ql.l9 kq10 x y x8=some r) k ⟨_,0,Nat.le_refl _,E,.of,S,H⟩ ?_
 rintro kq10 a u12 ⟨G,x8,hkq,E,A,S,H⟩
 obtain _ | k11:=kq10
 exact zz H
 rw [ql.l9_s]at H
 obtain ⟨J,E⟩:=E.at A
 refine rr E fun a E=>(sq fun K14 hK14=>E.ik 14 H (fun c15 E H=>?_) fun c15 E H=>?_)
 refine wp_skip (hK14 _ _ (sq fun K16 hK16=>wp_block (rr E fun a E=>(sq fun K18 hK18=>?_))))
 refine drawn 9 ⟨[],[],fun q=>False⟩ mixed rfl (by kernel_rfl) (fun hst=>?_)
 replace S:=S.drew
 obtain ⟨c19,H⟩:=gd H
 have hE_:=E
 obtain ⟨ad20,rfl⟩:=g0_0.addr c19.1 c19.2
 replace E:=hE_
 obtain ⟨cs22,rfl,hc23⟩:=g0_0.el 0 x8 c19.1 c19.2
 obtain ⟨c24,H⟩:=gd H
 have hE_:=E
 obtain ⟨ad25,rfl⟩:=g1_0.addr c24.1 c24.2
 replace E:=hE_
 obtain ⟨cs27,rfl,hc28⟩:=g1_0.el 0 x8 c24.1 c24.2
 refine mny 0 hst E (.r 0 2<|.x 2 c19<|.c 3 (S.fc hc23 0)<|.r 4 2<|.x 6 c24<|.c 7 (S.fc hc28 0)<|.r 8 1<|.nil) (fun a E=>?_)
 refine dn ?_
 refine hK18 _ _ (E.ikn 24 H (fun c29 E H=>?_) fun c29 E H=>?_)
 refine wp_skip ?_
 refine qBb ?_
 refine hK16 _ _ (pl0 (plc E (.r 0 2 .nil) (fun a E=>pld ?_)))
 exact qBc ⟨k11,by omega,_,(w64 (x8+1)),by omega,E,.of,S,H⟩
 refine rr E fun a E=>(wp_ret (qBa (qBZ (qBZ (qBa (qBZ ?_))))))
 obtain rfl:=si H
 exact rt1 E ⟨_,rfl,_,rfl,S⟩
 refine wp_exit ?_
 refine hK6 _ _ (rr E fun a E=>(wp_ret ?_))
 obtain rfl:=si H
 exact rt1 E ⟨_,rfl,_,rfl,S⟩
 refine rr E fun a E=>(wp_ret (qBZ ?_))
 obtain rfl:=si H
 exact rt1 E ⟨_,rfl,_,rfl,S⟩
def qBD.f(k:Nat)(x:qF)(xf0_:qF):Option Bool:=(ql.f k x.f1 xf0_.f1).bind fun t6=>(some t6)
def qBD.Post(W F:World)(r:Bool)(v:Value)(w':World):Prop:=∃(F':World),v = .bool r∧Sm W F w' F' []
theorem qBD.calls(k:Nat)(x:qF)(xf0_:qF)(A0_1:OA)(c0_1:Nat)(pf0_:Nat)(Af0_1:OA)(cf0_1:Nat)(r:Bool)(W F:World)(hown:Sub F W)(g0_1:Rd ki F A0_1 c0_1 x.f1)(gf0_1:Rd ki F Af0_1 cf0_1 xf0_.f1)(hpf0_:F.heap[pf0_]? = some (.cells #[iv xf0_.f0,.slice Af0_1 xf0_.f1.length cf0_1] 51 (0,0)))(H:qBD.f k x xf0_=some r):
    Cr 187 #[.agg #[iv x.f0,.slice A0_1 x.f1.length c0_1],.pointer (pb pf0_)] W (qBD.Post W F r):=by
 have S:=sT hown
 unfold qBD.f at H
 refine ent 9 rfl rfl rfl (fun a E=>?_)
 refine sq fun K1 hK1=>pl0 (plx (t:=51) E S [iv x.f0,.slice A0_1 x.f1.length c0_1] fun b2 u3 hb2 S a E=>plc E (.r 1 1 .nil) (fun a E=>pld (hK1 _ _ (sq fun K4 hK4=>pl0 (plc E (.r 0 1<|.b 1 1 hb2<|.r 2 1<|.b 3 1 (S.own.sub _ _ _ _ hpf0_)<|.nil) (fun a E=>?_))))))
 obtain ⟨t6,h7,H⟩:=bd H
 refine plq E S en90 (ql.calls k x.f1 xf0_.f1 _ _ _ _ _ _ _ S.own.sub g0_1 gf0_1 h7) fun u5 S a E=>plc E (.r 5 1 .nil) (fun a E=>pld (hK4 _ _ (wp_ret ?_)))
 replace S:=S.tail
 obtain rfl:=si H
 exact rt1 E ⟨_,rfl,_,rfl,S⟩
def qT.l5:Nat→List qF→qF→Int→Option Int
 | 0,_,_,_=>none
 | k+1,x,x1c0_,x4=>if x4<(x.length:Int) then (if 0≤x4∧x4<(x.length:Int) then ((qBD.f k (nth qF.z x x4) x1c0_).bind fun t24=>(if t24=true then (some x4) else (qT.l5 k x x1c0_ (w64 (x4+1))))) else (none)) else (some (-1))
theorem qT.l5_s k x x1c0_ x4:type_of% (qT.l5.eq_2 x x1c0_ x4 k):=qT.l5.eq_2 x x1c0_ x4 k
def qT.f(k:Nat)(x:List qF)(x1c0_:qF):Option Int:=qT.l5 k x x1c0_ 0
def qT.Post(W F:World)(r:Int)(v:Value)(w':World):Prop:=∃(F':World),v=iv r∧Sm W F w' F' []
theorem qT.calls(k:Nat)(x:List qF)(x1c0_:qF)(A0_0:OA)(c0_0:Nat)(p1c0_:Nat)(A1c0_1:OA)(c1c0_1:Nat)(r:Int)(W F:World)(hown:Sub F W)(g0_0:Rd qF.k F A0_0 c0_0 x)(g1c0_1:Rd ki F A1c0_1 c1c0_1 x1c0_.f1)(hp1c0_:F.heap[p1c0_]? = some (.cells #[iv x1c0_.f0,.slice A1c0_1 x1c0_.f1.length c1c0_1] 51 (0,0)))(H:qT.f k x x1c0_=some r):
    Cr 163 #[.slice A0_0 x.length c0_0,.func (.func 187) #[] #[.pointer (pb p1c0_)]] W (qT.Post W F r):=by
 have S:=sT hown
 unfold qT.f at H
 refine ent 19 rfl rfl rfl (fun a E=>?_)
 refine rr E fun a E=>(sq fun K2 hK2=>rr E fun a E=>(wp_block ?_))
 refine wp_loop_ghost (fun kq6 a w'=>∃(G:NV)(x4:Int),kq6≤k∧Env 19 G a∧At G [(0,.slice A0_0 x.length c0_0),(1,.func (.func 187) #[] #[.pointer (pb p1c0_)]),(7,iv (x.length:Int)),(8,iv x4)]∧Sm W F w' F []∧qT.l5 kq6 x x1c0_ x4=some r) k ⟨_,0,Nat.le_refl _,E,.of,S,H⟩ ?_
 rintro kq6 a u8 ⟨G,x4,hkq,E,A,S,H⟩
 obtain _ | k7:=kq6
 exact zz H
 rw [qT.l5_s]at H
 obtain ⟨J,E⟩:=E.at A
 refine rr E fun a E=>(sq fun K10 hK10=>E.ik 9 H (fun c11 E H=>?_) fun c11 E H=>?_)
 refine wp_skip (hK10 _ _ (sq fun K12 hK12=>wp_block (rr E fun a E=>(sq fun K14 hK14=>pl0 ?_))))
 obtain ⟨c15,H⟩:=gd H
 have hE_:=E
 obtain ⟨ad16,rfl⟩:=g0_0.addr c15.1 c15.2
 replace E:=hE_
 obtain ⟨cs18,⟨A20,c21,rfl,g22⟩,hc19⟩:=g0_0.el qF.z x4 c15.1 c15.2
 refine plc E (.r 0 3<|.x 3 c15<|.cs 4 (S.fcs hc19)<|.nil) (fun a E=>?_)
 obtain ⟨t24,h25,H⟩:=bd H
 refine plq E S en187 (qBD.calls k7 (nth qF.z x x4) x1c0_ _ _ _ _ _ _ _ _ S.own.sub g22 g1c0_1 hp1c0_ h25) fun u23 S a E=>pld (hK14 _ _ (E.ib 16 H (fun c26 E H=>?_) fun c26 E H=>?_))
 refine rr E fun a E=>(wp_ret (qBa (qBZ (qBZ (qBa (qBZ ?_))))))
 obtain rfl:=si H
 exact rt1 E ⟨_,rfl,_,rfl,S⟩
 refine wp_skip ?_
 refine qBb ?_
 refine hK12 _ _ (pl0 (plc E (.r 0 2 .nil) (fun a E=>pld ?_)))
 exact qBc ⟨k7,by omega,_,(w64 (x4+1)),by omega,E,.of,S,H⟩
 refine wp_exit ?_
 refine hK2 _ _ (rr E fun a E=>(wp_ret ?_))
 obtain rfl:=si H
 exact rt1 E ⟨_,rfl,_,rfl,S⟩
def qj.f(k:Nat)(x:List qF)(x1c0_:qF):Option Bool:=(qT.f k x x1c0_).bind fun t4=>(some (decide (t4≥0)))
def qj.Post(W F:World)(r:Bool)(v:Value)(w':World):Prop:=∃(F':World),v = .bool r∧Sm W F w' F' []
theorem qj.calls(k:Nat)(x:List qF)(x1c0_:qF)(A0_0:OA)(c0_0:Nat)(p1c0_:Nat)(A1c0_1:OA)(c1c0_1:Nat)(r:Bool)(W F:World)(hown:Sub F W)(g0_0:Rd qF.k F A0_0 c0_0 x)(g1c0_1:Rd ki F A1c0_1 c1c0_1 x1c0_.f1)(hp1c0_:F.heap[p1c0_]? = some (.cells #[iv x1c0_.f0,.slice A1c0_1 x1c0_.f1.length c1c0_1] 51 (0,0)))(H:qj.f k x x1c0_=some r):
    Cr 119 #[.slice A0_0 x.length c0_0,.func (.func 187) #[] #[.pointer (pb p1c0_)]] W (qj.Post W F r):=by
 have S:=sT hown
 unfold qj.f at H
 refine ent 9 rfl rfl rfl (fun a E=>?_)
 refine rr E fun a E=>(sq fun K2 hK2=>pl0 (plc E (.r 0 2 .nil) (fun a E=>?_)))
 obtain ⟨t4,h5,H⟩:=bd H
 refine plq E S en163 (qT.calls k x x1c0_ _ _ _ _ _ _ _ _ S.own.sub g0_0 g1c0_1 hp1c0_ h5) fun u3 S a E=>plc E (.r 3 2 .nil) (fun a E=>pld (hK2 _ _ (wp_ret ?_)))
 obtain rfl:=si H
 exact rt1 E ⟨_,rfl,_,rfl,S⟩
mutual
def qAD.l9:Nat→qG→qD→Int→Option Bool
 | 0,_,_,_=>none
 | k+1,x,y,x8=>if x8<(y.f1.length:Int) then (if 0≤x8∧x8<(y.f1.length:Int) then ((qAZ.f ((nth qF.z y.f1 x8).f0) 0 (w64 (y.f0 - 1))).bind fun t32=>(if t32=true then (if x8>0 then (if 0≤(w64 (x8 - 1))∧(w64 (x8 - 1))<(y.f1.length:Int) then (if (nth qF.z y.f1 x8).f0≤(nth qF.z y.f1 (w64 (x8 - 1))).f0 then (qAD.j51 k x y x8 true) else ((qAZ.f (((nth qF.z y.f1 x8).f1).length:Int) x.f2 x.f1).bind fun t45=>(qAD.j51 k x y x8 (!t45)))) else (none)) else ((qAZ.f (((nth qF.z y.f1 x8).f1).length:Int) x.f2 x.f1).bind fun t48=>(qAD.j51 k x y x8 (!t48)))) else (qAD.j51 k x y x8 true))) else (none)) else (some true)
def qAD.j51:Nat→qG→qD→Int→Bool→Option Bool
 | 0,_,_,_,_=>none
 | k+1,x,y,x8,y50=>if y50=true then (some false) else (qAD.l61 k x y x8 0)
def qAD.l61:Nat→qG→qD→Int→Int→Option Bool
 | 0,_,_,_,_=>none
 | k+1,x,y,x8,x60=>if x60<(((nth qF.z y.f1 x8).f1).length:Int) then (if 0≤x60∧x60<(((nth qF.z y.f1 x8).f1).length:Int) then ((qAZ.f (nth 0 ((nth qF.z y.f1 x8).f1) x60) 1 999).bind fun t77=>(if t77=true then (if x60>0 then (if 0≤(w64 (x60 - 1))∧(w64 (x60 - 1))<(((nth qF.z y.f1 x8).f1).length:Int) then (qAD.j86 k x y x8 x60 (decide ((nth 0 ((nth qF.z y.f1 x8).f1) x60)≤(nth 0 ((nth qF.z y.f1 x8).f1) (w64 (x60 - 1)))))) else (none)) else (qAD.j86 k x y x8 x60 false)) else (qAD.j86 k x y x8 x60 true))) else (none)) else (if 0≤x8∧x8≤(y.f1.length:Int) then ((qj.f k (cutl y.f1 0 x8) (nth qF.z y.f1 x8)).bind fun t100=>(if t100=true then (some false) else (qAD.l9 k x y (w64 (x8+1))))) else (none))
def qAD.j86:Nat→qG→qD→Int→Int→Bool→Option Bool
 | 0,_,_,_,_,_=>none
 | k+1,x,y,x8,x60,y85=>if y85=true then (some false) else (qAD.l61 k x y x8 (w64 (x60+1)))
end
theorem qAD.l9_s k x y x8:type_of% (qAD.l9.eq_2 x y x8 k):=qAD.l9.eq_2 x y x8 k
theorem qAD.j51_s k x y x8 y50:type_of% (qAD.j51.eq_2 x y x8 y50 k):=qAD.j51.eq_2 x y x8 y50 k
theorem qAD.l61_s k x y x8 x60:type_of% (qAD.l61.eq_2 x y x8 x60 k):=qAD.l61.eq_2 x y x8 x60 k
theorem qAD.j86_s k x y x8 x60 y85:type_of% (qAD.j86.eq_2 x y x8 x60 y85 k):=qAD.j86.eq_2 x y x8 x60 y85 k
def qAD.f(k:Nat)(x:qG)(y:qD):Option Bool:=qAD.l9 k x y 0
def qAD.Post(W F:World)(r:Bool)(v:Value)(w':World):Prop:=∃(F':World),v = .bool r∧Sm W F w' F' []
theorem qAD.calls(k:Nat)(x:qG)(y:qD)(A0_4:OA)(c0_4:Nat)(A0_5:OA)(c0_5:Nat)(A0_6:OA)(c0_6:Nat)(A1_1:OA)(c1_1:Nat)(r:Bool)(W F:World)(hown:Sub F W)(g0_4:Rd qA.k F A0_4 c0_4 x.f4)(g0_5:Rd qE.k F A0_5 c0_5 x.f5)(g0_6:Rd qD.k F A0_6 c0_6 x.f6)(g1_1:Rd qF.k F A1_1 c1_1 y.f1)(H:qAD.f k x y=some r):
    Cr 142 #[.agg #[iv x.f0,iv x.f1,iv x.f2,iv x.f3,.slice A0_4 x.f4.length c0_4,.slice A0_5 x.f5.length c0_5,.slice A0_6 x.f6.length c0_6],.agg #[iv y.f0,.slice A1_1 y.f1.length c1_1]] W (qAD.Post W F r):=by
 have S:=sT hown
 unfold qAD.f at H
 refine ent 84 rfl rfl rfl (fun a E=>?_)
 refine sq fun K1 hK1=>pl0 (plx (t:=26) E S [iv x.f0,iv x.f1,iv x.f2,iv x.f3,.slice A0_4 x.f4.length c0_4,.slice A0_5 x.f5.length c0_5,.slice A0_6 x.f6.length c0_6] fun b2 u3 hb2 S a E=>plx (t:=49) E S [iv y.f0,.slice A1_1 y.f1.length c1_1] fun b4 u5 hb4 S a E=>plc E (.r 2 1 .nil) (fun a E=>pld (hK1 _ _ (sq fun K6 hK6=>rg E (.r 0 1<|.b 1 1 hb4<|.r 2 2<|.nil) fun a E=>(wp_block ?_)))))
 refine wp_loop_ghost (fun kq10 a w'=>∃(G:NV)(x8:Int),kq10≤k∧Env 84 G a∧At G [(2,.pointer (pb b2)),(3,.pointer (pb b4)),(10,.slice A1_1 y.f1.length c1_1),(11,iv (y.f1.length:Int)),(12,iv x8)]∧Sm W F w' F [box b4 #[iv y.f0,.slice A1_1 y.f1.length c1_1] 49,box b2 #[iv x.f0,iv x.f1,iv x.f2,iv x.f3,.slice A0_4 x.f4.length c0_4,.slice A0_5 x.f5.length c0_5,.slice A0_6 x.f6.length c0_6] 26]∧qAD.l9 kq10 x y x8=some r) k ⟨_,0,Nat.le_refl _,E,.of,S,H⟩ ?_
 rintro kq10 a u12 ⟨G,x8,hkq,E,A,S,H⟩
 obtain _ | k11:=kq10
 exact zz H
 rw [qAD.l9_s]at H
 obtain ⟨J,E⟩:=E.at A
 refine rr E fun a E=>(sq fun K14 hK14=>E.ik 13 H (fun c15 E H=>?_) fun c15 E H=>?_)
 refine wp_skip (hK14 _ _ (sq fun K16 hK16=>wp_block (sq fun K17 hK17=>pl0 ?_)))
 obtain ⟨c18,H⟩:=gd H
 have hE_:=E
 obtain ⟨ad19,rfl⟩:=g1_1.addr c18.1 c18.2
 replace E:=hE_
 obtain ⟨cs21,⟨A23,c24,rfl,g25⟩,hc22⟩:=g1_1.el qF.z x8 c18.1 c18.2
 refine plc E (.r 0 1<|.x 1 c18<|.cs 2 (S.fcs hc22)<|.nil) (fun a E=>pla (t:=51) E S [iv 0,.slice none 0 0] fun b26 u27 hb26 S a E=>plc E (.r 4 1 .nil) (fun a E=>pls E S [iv ((nth qF.z y.f1 x8).f0),.slice A23 (((nth qF.z y.f1 x8).f1).length) c24] fun u28 hb26 S a E=>pld (hK17 _ _ (sq fun K29 hK29=>sq fun K30 hK30=>?_))))
 have J54:∀ kq52,kq52≤k11→∀(G:NV)(y50:Bool)(a:Act)(w':World),Env 84 G a→At G [(2,.pointer (pb b2)),(3,.pointer (pb b4)),(5,iv x8),(6,.pointer (pb b26)),(10,.slice (some ad19) y.f1.length c1_1),(11,iv (y.f1.length:Int)),(12,iv x8),(50,.bool y50)]→Sm W F w' F [box b26 #[iv ((nth qF.z y.f1 x8).f0),.slice A23 (((nth qF.z y.f1 x8).f1).length) c24] 51,box b4 #[iv y.f0,.slice (some ad19) y.f1.length c1_1] 49,box b2 #[iv x.f0,iv x.f1,iv x.f2,iv x.f3,.slice A0_4 x.f4.length c0_4,.slice A0_5 x.f5.length c0_5,.slice A0_6 x.f6.length c0_6] 26]→qAD.j51 kq52 x y x8 y50=some r→K30 a w':=by
  intro kq52 hkq G y50 a u55 E A S H
  obtain _ | k53:=kq52
  exact zz H
  rw [qAD.j51_s]at H
  obtain ⟨J,E⟩:=E.at A
  refine hK30 _ _ (E.ib 50 H (fun c56 E H=>?_) fun c56 E H=>?_)
  refine rr E fun a E=>(wp_ret (qBZ (qBa (qBZ (qBZ (qBa (qBZ ?_)))))))
  replace S:=S.pm [] 3
  obtain rfl:=si H
  exact rt1 E ⟨_,rfl,_,rfl,S⟩
  refine wp_skip (hK29 _ _ (sq fun K58 hK58=>sq fun K59 hK59=>pl0 ?_))
  have hb26:=S.ba 0
  refine plc E (.r 0 1<|.b 1 1 hb26<|.r 2 2<|.nil) (fun a E=>pld (hK59 _ _ (wp_block ?_)))
  refine wp_loop_ghost (fun kq62 a w'=>∃(G:NV)(x60:Int),kq62≤k53∧Env 84 G a∧At G [(2,.pointer (pb b2)),(3,.pointer (pb b4)),(5,iv x8),(6,.pointer (pb b26)),(10,.slice (some ad19) y.f1.length c1_1),(11,iv (y.f1.length:Int)),(12,iv x8),(52,.slice A23 (((nth qF.z y.f1 x8).f1).length) c24),(53,iv (((nth qF.z y.f1 x8).f1).length:Int)),(54,iv x60)]∧Sm W F w' F [box b26 #[iv ((nth qF.z y.f1 x8).f0),.slice A23 (((nth qF.z y.f1 x8).f1).length) c24] 51,box b4 #[iv y.f0,.slice (some ad19) y.f1.length c1_1] 49,box b2 #[iv x.f0,iv x.f1,iv x.f2,iv x.f3,.slice A0_4 x.f4.length c0_4,.slice A0_5 x.f5.length c0_5,.slice A0_6 x.f6.length c0_6] 26]∧qAD.l61 kq62 x y x8 x60=some r) k53 ⟨_,0,Nat.le_refl _,E,.of,S,H⟩ ?_
  rintro kq62 a u64 ⟨G,x60,hkq,E,A,S,H⟩
  obtain _ | k63:=kq62
  exact zz H
  rw [qAD.l61_s]at H
  obtain ⟨J,E⟩:=E.at A
  refine rr E fun a E=>(sq fun K66 hK66=>E.ik 55 H (fun c67 E H=>?_) fun c67 E H=>?_)
  refine wp_skip (hK66 _ _ (sq fun K68 hK68=>wp_block (sq fun K69 hK69=>pl0 ?_)))
  obtain ⟨c70,H⟩:=gd H
  have hE_:=E
  obtain ⟨ad71,rfl⟩:=g25.addr c70.1 c70.2
  replace E:=hE_
  obtain ⟨cs73,rfl,hc74⟩:=g25.el 0 x60 c70.1 c70.2
  refine plc E (.r 0 1<|.x 1 c70<|.c 2 (S.fc hc74 0)<|.r 3 2<|.nil) (fun a E=>pld (hK69 _ _ (sq fun K75 hK75=>?_)))
  have J89:∀ kq87,kq87≤k63→∀(G:NV)(y85:Bool)(a:Act)(w':World),Env 84 G a→At G [(2,.pointer (pb b2)),(3,.pointer (pb b4)),(5,iv x8),(6,.pointer (pb b26)),(10,.slice (some ad19) y.f1.length c1_1),(11,iv (y.f1.length:Int)),(12,iv x8),(52,.slice (some ad71) (((nth qF.z y.f1 x8).f1).length) c24),(53,iv (((nth qF.z y.f1 x8).f1).length:Int)),(54,iv x60),(75,.bool y85)]→Sm W F w' F [box b26 #[iv ((nth qF.z y.f1 x8).f0),.slice (some ad71) (((nth qF.z y.f1 x8).f1).length) c24] 51,box b4 #[iv y.f0,.slice (some ad19) y.f1.length c1_1] 49,box b2 #[iv x.f0,iv x.f1,iv x.f2,iv x.f3,.slice A0_4 x.f4.length c0_4,.slice A0_5 x.f5.length c0_5,.slice A0_6 x.f6.length c0_6] 26]→qAD.j86 kq87 x y x8 x60 y85=some r→K75 a w':=by
   intro kq87 hkq G y85 a u90 E A S H
   obtain _ | k88:=kq87
   exact zz H
   rw [qAD.j86_s]at H
   obtain ⟨J,E⟩:=E.at A
   refine hK75 _ _ (E.ib 75 H (fun c91 E H=>?_) fun c91 E H=>?_)
   refine rr E fun a E=>(wp_ret (qBa (qBZ (qBZ (qBa (qBZ (qBa (qBZ (qBZ (qBa (qBZ ?_)))))))))))
   replace S:=S.pm [] 3
   obtain rfl:=si H
   exact rt1 E ⟨_,rfl,_,rfl,S⟩
   refine wp_skip ?_
   refine qBb ?_
   refine hK68 _ _ (pl0 (plc E (.r 0 2 .nil) (fun a E=>pld ?_)))
   exact qBc ⟨k88,by omega,_,(w64 (x60+1)),by omega,E,.of,S,H⟩
  refine pl0 (plc E (.r 0 1 .nil) (fun a E=>?_))
  obtain ⟨t77,h78,H⟩:=bd H
  refine plq E S en70 (qAZ.calls (nth 0 ((nth qF.z y.f1 x8).f1) x60) 1 999 _ _ _ S.own.sub h78) fun u76 S a E=>plc E (.r 2 2 .nil) (fun a E=>E.fbn 62 H (fun c79 E H=>?_) fun c79 E H=>?_)
  refine plc E (.r 4 3 .nil) (fun a E=>E.fk 65 H (fun c80 E H=>?_) fun c80 E H=>?_)
  have hb26:=S.ba 0
  obtain ⟨c81,H⟩:=gd H
  obtain ⟨cs83,rfl,hc84⟩:=g25.el 0 (w64 (x60 - 1)) c81.1 c81.2
  refine plc E (.r 7 2<|.b 9 1 hb26<|.r 10 2<|.x 12 c81<|.c 13 (S.fc hc84 0)<|.r 14 3<|.nil) (fun a E=>pld ?_)
  exact J89 _ (by omega) _ (decide ((nth 0 ((nth qF.z y.f1 x8).f1) x60)≤(nth 0 ((nth qF.z y.f1 x8).f1) (w64 (x60 - 1))))) _ _ E .of S H
  refine plc E (.r 7 10 .nil) (fun a E=>pld ?_)
  exact J89 _ (by omega) _ false _ _ E .of S H
  refine plc E (.r 4 13 .nil) (fun a E=>pld ?_)
  exact J89 _ (by omega) _ true _ _ E .of S H
  refine wp_exit ?_
  refine hK58 _ _ (sq fun K93 hK93=>pl0 ?_)
  have hb4:=S.ba 1
  obtain ⟨c94,H⟩:=gd H
  obtain ⟨A95,c96,g97,hv98⟩:=qFO (P:=Tryz.prog) g1_1 ⟨Int.le_refl _,c94.1,c94.2⟩ sz51
  refine plc E (.r 0 1<|.b 1 1 hb4<|.r 2 1<|.y 3 (hv98 (by kernel_rfl))<|.r 4 1<|.nil) (fun a E=>?_)
  obtain ⟨t100,h101,H⟩:=bd H
  refine plq E S en119 (qj.calls k63 (cutl y.f1 0 x8) (nth qF.z y.f1 x8) _ _ _ _ _ _ _ _ (Sub.refl _) (g97.mono S.own.sub) (g25.mono S.own.sub) (S.ba 0) h101) fun u99 S a E=>pld (hK93 _ _ (E.ib 82 H (fun c102 E H=>?_) fun c102 E H=>?_))
  refine rr E fun a E=>(wp_ret (qBa (qBZ (qBZ (qBa (qBZ ?_))))))
  replace S:=S.pm [] 3
  obtain rfl:=si H
  exact rt1 E ⟨_,rfl,_,rfl,S⟩
  refine wp_skip ?_
  refine qBb ?_
  refine hK16 _ _ (pl0 (plc E (.r 0 2 .nil) (fun a E=>pld ?_)))
  replace S:=S.tail
  exact qBc ⟨k63,by omega,_,(w64 (x8+1)),by omega,E,.of,S,H⟩
 refine drawn 34 ⟨[],[],fun q=>False⟩ mixed rfl (by kernel_rfl) (fun hst=>?_)
 replace S:=S.drew
 have hb26:=S.ba 0
 have hb4:=S.ba 1
 refine mny 29 hst E (.r 0 1<|.b 1 0 hb26<|.r 2 1<|.b 3 0 hb4<|.r 4 1<|.nil) (fun a E=>?_)
 obtain ⟨t32,h33,H⟩:=bd H
 refine on1 5 E (.cl en70 (qAZ.calls ((nth qF.z y.f1 x8).f0) 0 (w64 (y.f0 - 1)) _ _ _ S.own.sub h33)) ?_
 rintro _ u31 a ⟨_,rfl,hC⟩ E
 refine ⟨.of hC.agr,?_⟩
 replace S:=S.lent hC
 refine mny 26 hst E (.r 6 2 .nil) (fun a E=>?_)
 refine E.fbn 24 H (fun c34 E H=>?_) fun c34 E H=>?_
 refine mny 23 hst E (.r 8 3 .nil) (fun a E=>?_)
 refine E.fk 27 H (fun c35 E H=>?_) fun c35 E H=>?_
 have hb26:=S.ba 0
 have hb4:=S.ba 1
 obtain ⟨c36,H⟩:=gd H
 obtain ⟨cs38,⟨A40,c41,rfl,g42⟩,hc39⟩:=g1_1.el qF.z (w64 (x8 - 1)) c36.1 c36.2
 refine mny 10 hst E (.r 11 1<|.b 12 0 hb26<|.r 13 1<|.b 14 1 hb4<|.r 15 2<|.x 17 c36<|.r 18 1<|.c 19 (S.fc hc39 0)<|.r 20 4<|.nil) (fun a E=>?_)
 refine E.fk 40 H (fun c43 E H=>?_) fun c43 E H=>?_
 refine mny 0 hst E (.r 24 10 .nil) (fun a E=>?_)
 refine dn ?_
 exact J54 _ (by omega) _ true _ _ E .of S H
 have hb2:=S.ba 2
 refine mny 3 hst E (.r 24 1<|.b 25 1 hb26<|.r 26 2<|.b 28 2 hb2<|.r 29 1<|.b 30 1 hb2<|.nil) (fun a E=>?_)
 obtain ⟨t45,h46,H⟩:=bd H
 refine on1 31 E (.cl en70 (qAZ.calls (((nth qF.z y.f1 x8).f1).length:Int) x.f2 x.f1 _ _ _ S.own.sub h46)) ?_
 rintro _ u44 a ⟨_,rfl,hC⟩ E
 refine ⟨.of hC.agr,?_⟩
 replace S:=S.lent hC
 refine mny 0 hst E (.r 32 2 .nil) (fun a E=>?_)
 refine dn ?_
 exact J54 _ (by omega) _ (!t45) _ _ E .of S H
 have hb26:=S.ba 0
 have hb2:=S.ba 2
 refine mny 3 hst E (.r 11 14<|.b 25 1 hb26<|.r 26 2<|.b 28 2 hb2<|.r 29 1<|.b 30 1 hb2<|.nil) (fun a E=>?_)
 obtain ⟨t48,h49,H⟩:=bd H
 refine on1 31 E (.cl en70 (qAZ.calls (((nth qF.z y.f1 x8).f1).length:Int) x.f2 x.f1 _ _ _ S.own.sub h49)) ?_
 rintro _ u47 a ⟨_,rfl,hC⟩ E
 refine ⟨.of hC.agr,?_⟩
 replace S:=S.lent hC
 refine mny 0 hst E (.r 32 2 .nil) (fun a E=>?_)
 refine dn ?_
 exact J54 _ (by omega) _ (!t48) _ _ E .of S H
 refine mny 0 hst E (.r 8 26 .nil) (fun a E=>?_)
 refine dn ?_
 exact J54 _ (by omega) _ true _ _ E .of S H
 refine wp_exit ?_
 refine hK6 _ _ (rr E fun a E=>(wp_ret ?_))
 replace S:=S.pm [] 2
 obtain rfl:=si H
 exact rt1 E ⟨_,rfl,_,rfl,S⟩
mutual
def qAR.l11:Nat→qG→Int→Option Int
 | 0,_,_=>none
 | k+1,x,x10=>if x10<(x.f6.length:Int) then (if 0≤x10∧x10<(x.f6.length:Int) then ((qAZ.f ((nth qD.z x.f6 x10).f0) 0 x.f0).bind fun t33=>(if t33=true then ((qAD.f k x (nth qD.z x.f6 x10)).bind fun t37=>(qAR.j40 k x x10 (!t37))) else (qAR.j40 k x x10 true))) else (none)) else (some 0)
def qAR.j40:Nat→qG→Int→Bool→Option Int
 | 0,_,_,_=>none
 | k+1,x,x10,y39=>if y39=true then (some 1) else (qAR.l11 k x (w64 (x10+1)))
end
theorem qAR.l11_s k x x10:type_of% (qAR.l11.eq_2 x x10 k):=qAR.l11.eq_2 x x10 k
theorem qAR.j40_s k x x10 y39:type_of% (qAR.j40.eq_2 x x10 y39 k):=qAR.j40.eq_2 x x10 y39 k
def qAR.f(k:Nat)(x:qG):Option Int:=if (x.f6.length:Int)=x.f3 then (qAR.l11 k x 0) else (some 1)
def qAR.Post(W F:World)(r:Int)(v:Value)(w':World):Prop:=∃(F':World),v=iv r∧Sm W F w' F' []
theorem qAR.calls(k:Nat)(x:qG)(A0_4:OA)(c0_4:Nat)(A0_5:OA)(c0_5:Nat)(A0_6:OA)(c0_6:Nat)(r:Int)(W F:World)(hown:Sub F W)(g0_4:Rd qA.k F A0_4 c0_4 x.f4)(g0_5:Rd qE.k F A0_5 c0_5 x.f5)(g0_6:Rd qD.k F A0_6 c0_6 x.f6)(H:qAR.f k x=some r):
    Cr 82 #[.agg #[iv x.f0,iv x.f1,iv x.f2,iv x.f3,.slice A0_4 x.f4.length c0_4,.slice A0_5 x.f5.length c0_5,.slice A0_6 x.f6.length c0_6]] W (qAR.Post W F r):=by
 have S:=sT hown
 unfold qAR.f at H
 refine ent 31 rfl rfl rfl (fun a E=>?_)
 refine sq fun K1 hK1=>pl0 (plx (t:=26) E S [iv x.f0,iv x.f1,iv x.f2,iv x.f3,.slice A0_4 x.f4.length c0_4,.slice A0_5 x.f5.length c0_5,.slice A0_6 x.f6.length c0_6] fun b2 u3 hb2 S a E=>plc E (.r 1 1 .nil) (fun a E=>pld (hK1 _ _ (sq fun K4 hK4=>rg E (.r 0 1<|.b 1 6 hb2<|.r 2 2<|.b 4 3 hb2<|.r 5 1<|.nil) fun a E=>(E.ikn 10 H (fun c6 E H=>?_) fun c6 E H=>?_)))))
 refine wp_skip (hK4 _ _ (sq fun K8 hK8=>rg E (.r 0 1<|.b 1 6 hb2<|.r 2 2<|.nil) fun a E=>(wp_block ?_)))
 refine wp_loop_ghost (fun kq12 a w'=>∃(G:NV)(x10:Int),kq12≤k∧Env 31 G a∧At G [(1,.pointer (pb b2)),(12,.slice A0_6 x.f6.length c0_6),(13,iv (x.f6.length:Int)),(14,iv x10)]∧Sm W F w' F [box b2 #[iv x.f0,iv x.f1,iv x.f2,iv x.f3,.slice A0_4 x.f4.length c0_4,.slice A0_5 x.f5.length c0_5,.slice A0_6 x.f6.length c0_6] 26]∧qAR.l11 kq12 x x10=some r) k ⟨_,0,Nat.le_refl _,E,.of,S,H⟩ ?_
 rintro kq12 a u14 ⟨G,x10,hkq,E,A,S,H⟩
 obtain _ | k13:=kq12
 exact zz H
 rw [qAR.l11_s]at H
 obtain ⟨J,E⟩:=E.at A
 refine rr E fun a E=>(sq fun K16 hK16=>E.ik 15 H (fun c17 E H=>?_) fun c17 E H=>?_)
 refine wp_skip (hK16 _ _ (sq fun K18 hK18=>wp_block (sq fun K19 hK19=>pl0 ?_)))
 obtain ⟨c20,H⟩:=gd H
 have hE_:=E
 obtain ⟨ad21,rfl⟩:=g0_6.addr c20.1 c20.2
 replace E:=hE_
 obtain ⟨cs23,⟨A25,c26,rfl,g27⟩,hc24⟩:=g0_6.el qD.z x10 c20.1 c20.2
 refine plc E (.x 0 c20<|.cs 1 (S.fcs hc24)<|.nil) (fun a E=>pla (t:=49) E S [iv 0,.slice none 0 0] fun b28 u29 hb28 S a E=>pls E S [iv ((nth qD.z x.f6 x10).f0),.slice A25 (((nth qD.z x.f6 x10).f1).length) c26] fun u30 hb28 S a E=>pld (hK19 _ _ (sq fun K31 hK31=>?_)))
 have J43:∀ kq41,kq41≤k13→∀(G:NV)(y39:Bool)(a:Act)(w':World),Env 31 G a→At G [(1,.pointer (pb b2)),(12,.slice (some ad21) x.f6.length c0_6),(13,iv (x.f6.length:Int)),(14,iv x10),(29,.bool y39)]→Sm W F w' F [box b28 #[iv ((nth qD.z x.f6 x10).f0),.slice A25 (((nth qD.z x.f6 x10).f1).length) c26] 49,box b2 #[iv x.f0,iv x.f1,iv x.f2,iv x.f3,.slice A0_4 x.f4.length c0_4,.slice A0_5 x.f5.length c0_5,.slice (some ad21) x.f6.length c0_6] 26]→qAR.j40 kq41 x x10 y39=some r→K31 a w':=by
  intro kq41 hkq G y39 a u44 E A S H
  obtain _ | k42:=kq41
  exact zz H
  rw [qAR.j40_s]at H
  obtain ⟨J,E⟩:=E.at A
  refine hK31 _ _ (E.ib 29 H (fun c45 E H=>?_) fun c45 E H=>?_)
  refine rr E fun a E=>(wp_ret (qBa (qBZ (qBZ (qBa (qBZ ?_))))))
  replace S:=S.pm [] 2
  obtain rfl:=si H
  exact rt1 E ⟨_,rfl,_,rfl,S⟩
  refine wp_skip ?_
  refine qBb ?_
  refine hK18 _ _ (pl0 (plc E (.r 0 2 .nil) (fun a E=>pld ?_)))
  replace S:=S.tail
  exact qBc ⟨k42,by omega,_,(w64 (x10+1)),by omega,E,.of,S,H⟩
 refine pl0 ?_
 have hb2:=S.ba 1
 refine plc E (.r 0 1<|.b 1 0 hb28<|.r 2 1<|.b 3 0 hb2<|.nil) (fun a E=>?_)
 obtain ⟨t33,h34,H⟩:=bd H
 refine plq E S en70 (qAZ.calls ((nth qD.z x.f6 x10).f0) 0 x.f0 _ _ _ S.own.sub h34) fun u32 S a E=>plc E (.r 5 2 .nil) (fun a E=>E.fbn 24 H (fun c35 E H=>?_) fun c35 E H=>?_)
 refine plc E (.bn 7 0 7 (S.ba 1)<|.bn 8 0 2 (S.ba 0)<|.nil) (fun a E=>?_)
 obtain ⟨t37,h38,H⟩:=bd H
 refine plq E S en142 (qAD.calls k13 x (nth qD.z x.f6 x10) _ _ _ _ _ _ _ _ _ _ _ S.own.sub g0_4 g0_5 g0_6 g27 h38) fun u36 S a E=>plc E (.r 10 2 .nil) (fun a E=>pld ?_)
 exact J43 _ (by omega) _ (!t37) _ _ E .of S H
 refine plc E (.r 7 5 .nil) (fun a E=>pld ?_)
 exact J43 _ (by omega) _ true _ _ E .of S H
 refine wp_exit ?_
 refine hK8 _ _ (rr E fun a E=>(wp_ret ?_))
 replace S:=S.tail
 obtain rfl:=si H
 exact rt1 E ⟨_,rfl,_,rfl,S⟩
 refine rr E fun a E=>(wp_ret (qBZ ?_))
 replace S:=S.tail
 obtain rfl:=si H
 exact rt1 E ⟨_,rfl,_,rfl,S⟩
mutual
def qt.j26:Nat→qG→Bool→Option Int
 | 0,_,_=>none
 | k+1,x,y25=>if y25=true then (some 1) else (qt.l36 k x 0)
def qt.l36:Nat→qG→Int→Option Int
 | 0,_,_=>none
 | k+1,x,x35=>if x35<(x.f5.length:Int) then (if 0≤x35∧x35<(x.f5.length:Int) then ((qAZ.f ((nth qE.z x.f5 x35).f0) 0 (w64 (x.f3 - 1))).bind fun t58=>(if t58=true then (if x35>0 then (if 0≤(w64 (x35 - 1))∧(w64 (x35 - 1))<(x.f5.length:Int) then (if (nth qE.z x.f5 x35).f0≤(nth qE.z x.f5 (w64 (x35 - 1))).f0 then (qt.j85 k x x35 true) else ((qAZ.f (((nth qE.z x.f5 x35).f1).length:Int) 1 x.f1).bind fun t71=>(if t71=true then ((qAC.f k x.f4 ((nth qE.z x.f5 x35).f1)).bind fun t75=>(qt.j85 k x x35 (!t75))) else (qt.j85 k x x35 true)))) else (none)) else ((qAZ.f (((nth qE.z x.f5 x35).f1).length:Int) 1 x.f1).bind fun t78=>(if t78=true then ((qAC.f k x.f4 ((nth qE.z x.f5 x35).f1)).bind fun t82=>(qt.j85 k x x35 (!t82))) else (qt.j85 k x x35 true)))) else (qt.j85 k x x35 true))) else (none)) else ((qAR.f k x).bind fun t94=>(some t94))
def qt.j85:Nat→qG→Int→Bool→Option Int
 | 0,_,_,_=>none
 | k+1,x,x35,y84=>if y84=true then (some 1) else (qt.l36 k x (w64 (x35+1)))
end
theorem qt.j26_s k x y25:type_of% (qt.j26.eq_2 x y25 k):=qt.j26.eq_2 x y25 k
theorem qt.l36_s k x x35:type_of% (qt.l36.eq_2 x x35 k):=qt.l36.eq_2 x x35 k
theorem qt.j85_s k x x35 y84:type_of% (qt.j85.eq_2 x x35 y84 k):=qt.j85.eq_2 x x35 y84 k
def qt.f(k:Nat)(x:qG):Option Int:=(qAZ.f x.f0 0 2147483647).bind fun t7=>(if t7=true then ((qAZ.f x.f1 1 3).bind fun t11=>(if t11=true then ((qAZ.f x.f2 1 x.f1).bind fun t15=>(if t15=true then ((qAZ.f x.f3 1 8).bind fun t19=>(if t19=true then ((qz.f k x.f4).bind fun t23=>(qt.j26 k x (!(t23 == 0)))) else (qt.j26 k x true))) else (qt.j26 k x true))) else (qt.j26 k x true))) else (qt.j26 k x true))
def qt.Post(W F:World)(r:Int)(v:Value)(w':World):Prop:=∃(F':World),v=iv r∧Sm W F w' F' []
theorem qt.calls(k:Nat)(x:qG)(A0_4:OA)(c0_4:Nat)(A0_5:OA)(c0_5:Nat)(A0_6:OA)(c0_6:Nat)(r:Int)(W F:World)(hown:Sub F W)(g0_4:Rd qA.k F A0_4 c0_4 x.f4)(g0_5:Rd qE.k F A0_5 c0_5 x.f5)(g0_6:Rd qD.k F A0_6 c0_6 x.f6)(H:qt.f k x=some r):
    Cr 32 #[.agg #[iv x.f0,iv x.f1,iv x.f2,iv x.f3,.slice A0_4 x.f4.length c0_4,.slice A0_5 x.f5.length c0_5,.slice A0_6 x.f6.length c0_6]] W (qt.Post W F r):=by
 have S:=sT hown
 unfold qt.f at H
 refine ent 86 rfl rfl rfl (fun a E=>?_)
 refine sq fun K1 hK1=>pl0 (plx (t:=26) E S [iv x.f0,iv x.f1,iv x.f2,iv x.f3,.slice A0_4 x.f4.length c0_4,.slice A0_5 x.f5.length c0_5,.slice A0_6 x.f6.length c0_6] fun b2 u3 hb2 S a E=>plc E (.r 1 1 .nil) (fun a E=>pld (hK1 _ _ (sq fun K4 hK4=>sq fun K5 hK5=>?_))))
 have J29:∀ kq27,kq27≤k→∀(G:NV)(y25:Bool)(a:Act)(w':World),Env 86 G a→At G [(1,.pointer (pb b2)),(34,.bool y25)]→Sm W F w' F [box b2 #[iv x.f0,iv x.f1,iv x.f2,iv x.f3,.slice A0_4 x.f4.length c0_4,.slice A0_5 x.f5.length c0_5,.slice A0_6 x.f6.length c0_6] 26]→qt.j26 kq27 x y25=some r→K5 a w':=by
  intro kq27 hkq G y25 a u30 E A S H
  obtain _ | k28:=kq27
  exact zz H
  rw [qt.j26_s]at H
  obtain ⟨J,E⟩:=E.at A
  refine hK5 _ _ (E.ib 34 H (fun c31 E H=>?_) fun c31 E H=>?_)
  refine rr E fun a E=>(wp_ret (qBZ ?_))
  replace S:=S.tail
  obtain rfl:=si H
  exact rt1 E ⟨_,rfl,_,rfl,S⟩
  refine wp_skip (hK4 _ _ (sq fun K33 hK33=>sq fun K34 hK34=>pl0 ?_))
  have hb2:=S.ba 0
  refine plc E (.r 0 1<|.b 1 5 hb2<|.r 2 2<|.nil) (fun a E=>pld (hK34 _ _ (wp_block ?_)))
  refine wp_loop_ghost (fun kq37 a w'=>∃(G:NV)(x35:Int),kq37≤k28∧Env 86 G a∧At G [(1,.pointer (pb b2)),(36,.slice A0_5 x.f5.length c0_5),(37,iv (x.f5.length:Int)),(38,iv x35)]∧Sm W F w' F [box b2 #[iv x.f0,iv x.f1,iv x.f2,iv x.f3,.slice A0_4 x.f4.length c0_4,.slice A0_5 x.f5.length c0_5,.slice A0_6 x.f6.length c0_6] 26]∧qt.l36 kq37 x x35=some r) k28 ⟨_,0,Nat.le_refl _,E,.of,S,H⟩ ?_
  rintro kq37 a u39 ⟨G,x35,hkq,E,A,S,H⟩
  obtain _ | k38:=kq37
  exact zz H
  rw [qt.l36_s]at H
  obtain ⟨J,E⟩:=E.at A
  refine rr E fun a E=>(sq fun K41 hK41=>E.ik 39 H (fun c42 E H=>?_) fun c42 E H=>?_)
  refine wp_skip (hK41 _ _ (sq fun K43 hK43=>wp_block (sq fun K44 hK44=>pl0 ?_)))
  obtain ⟨c45,H⟩:=gd H
  have hE_:=E
  obtain ⟨ad46,rfl⟩:=g0_5.addr c45.1 c45.2
  replace E:=hE_
  obtain ⟨cs48,⟨A50,c51,rfl,g52⟩,hc49⟩:=g0_5.el qE.z x35 c45.1 c45.2
  refine plc E (.r 0 1<|.x 1 c45<|.cs 2 (S.fcs hc49)<|.nil) (fun a E=>pla (t:=97) E S [iv 0,.slice none 0 0] fun b53 u54 hb53 S a E=>plc E (.r 4 1 .nil) (fun a E=>pls E S [iv ((nth qE.z x.f5 x35).f0),.slice A50 (((nth qE.z x.f5 x35).f1).length) c51] fun u55 hb53 S a E=>pld (hK44 _ _ (sq fun K56 hK56=>?_))))
  have J88:∀ kq86,kq86≤k38→∀(G:NV)(y84:Bool)(a:Act)(w':World),Env 86 G a→At G [(1,.pointer (pb b2)),(36,.slice (some ad46) x.f5.length c0_5),(37,iv (x.f5.length:Int)),(38,iv x35),(82,.bool y84)]→Sm W F w' F [box b53 #[iv ((nth qE.z x.f5 x35).f0),.slice A50 (((nth qE.z x.f5 x35).f1).length) c51] 97,box b2 #[iv x.f0,iv x.f1,iv x.f2,iv x.f3,.slice A0_4 x.f4.length c0_4,.slice (some ad46) x.f5.length c0_5,.slice A0_6 x.f6.length c0_6] 26]→qt.j85 kq86 x x35 y84=some r→K56 a w':=by
   intro kq86 hkq G y84 a u89 E A S H
   obtain _ | k87:=kq86
   exact zz H
   rw [qt.j85_s]at H
   obtain ⟨J,E⟩:=E.at A
   refine hK56 _ _ (E.ib 82 H (fun c90 E H=>?_) fun c90 E H=>?_)
   refine rr E fun a E=>(wp_ret (qBa (qBZ (qBZ (qBa (qBZ ?_))))))
   replace S:=S.pm [] 2
   obtain rfl:=si H
   exact rt1 E ⟨_,rfl,_,rfl,S⟩
   refine wp_skip ?_
   refine qBb ?_
   refine hK43 _ _ (pl0 (plc E (.r 0 2 .nil) (fun a E=>pld ?_)))
   replace S:=S.tail
   exact qBc ⟨k87,by omega,_,(w64 (x35+1)),by omega,E,.of,S,H⟩
  refine drawn 40 ⟨[],[],fun q=>False⟩ mixed rfl (by kernel_rfl) (fun hst=>?_)
  replace S:=S.drew
  have hb53:=S.ba 0
  have hb2:=S.ba 1
  refine mny 35 hst E (.r 0 1<|.b 1 0 hb53<|.r 2 1<|.b 3 3 hb2<|.r 4 1<|.nil) (fun a E=>?_)
  obtain ⟨t58,h59,H⟩:=bd H
  refine on1 5 E (.cl en70 (qAZ.calls ((nth qE.z x.f5 x35).f0) 0 (w64 (x.f3 - 1)) _ _ _ S.own.sub h59)) ?_
  rintro _ u57 a ⟨_,rfl,hC⟩ E
  refine ⟨.of hC.agr,?_⟩
  replace S:=S.lent hC
  refine mny 32 hst E (.r 6 2 .nil) (fun a E=>?_)
  refine E.fbn 50 H (fun c60 E H=>?_) fun c60 E H=>?_
  refine mny 29 hst E (.r 8 3 .nil) (fun a E=>?_)
  refine E.fk 53 H (fun c61 E H=>?_) fun c61 E H=>?_
  have hb53:=S.ba 0
  have hb2:=S.ba 1
  obtain ⟨c62,H⟩:=gd H
  obtain ⟨cs64,⟨A66,c67,rfl,g68⟩,hc65⟩:=g0_5.el qE.z (w64 (x35 - 1)) c62.1 c62.2
  refine mny 16 hst E (.r 11 1<|.b 12 0 hb53<|.r 13 1<|.b 14 5 hb2<|.r 15 2<|.x 17 c62<|.r 18 1<|.c 19 (S.fc hc65 0)<|.r 20 4<|.nil) (fun a E=>?_)
  refine E.fk 66 H (fun c69 E H=>?_) fun c69 E H=>?_
  refine mny 0 hst E (.r 24 16 .nil) (fun a E=>?_)
  refine dn ?_
  exact J88 _ (by omega) _ true _ _ E .of S H
  refine mny 11 hst E (.r 24 1<|.b 25 1 hb53<|.r 26 2<|.b 28 1 hb2<|.nil) (fun a E=>?_)
  obtain ⟨t71,h72,H⟩:=bd H
  refine on1 29 E (.cl en70 (qAZ.calls (((nth qE.z x.f5 x35).f1).length:Int) 1 x.f1 _ _ _ S.own.sub h72)) ?_
  rintro _ u70 a ⟨_,rfl,hC⟩ E
  refine ⟨.of hC.agr,?_⟩
  replace S:=S.lent hC
  refine mny 7 hst E (.r 30 3 .nil) (fun a E=>?_)
  refine E.fbn 75 H (fun c73 E H=>?_) fun c73 E H=>?_
  have hb2:=S.ba 1
  have hb53:=S.ba 0
  refine mny 3 hst E (.r 33 1<|.b 34 4 hb2<|.r 35 1<|.b 36 1 hb53<|.nil) (fun a E=>?_)
  obtain ⟨t75,h76,H⟩:=bd H
  refine on1 37 E (.cl en81 (qAC.calls k38 x.f4 ((nth qE.z x.f5 x35).f1) _ _ _ _ _ _ _ S.own.sub g0_4 g52 h76)) ?_
  rintro _ u74 a ⟨_,rfl,hC⟩ E
  refine ⟨.of hC.agr,?_⟩
  replace S:=S.lent hC
  refine mny 0 hst E (.r 38 2 .nil) (fun a E=>?_)
  refine dn ?_
  exact J88 _ (by omega) _ (!t75) _ _ E .of S H
  refine mny 0 hst E (.r 33 7 .nil) (fun a E=>?_)
  refine dn ?_
  exact J88 _ (by omega) _ true _ _ E .of S H
  have hb53:=S.ba 0
  have hb2:=S.ba 1
  refine mny 11 hst E (.r 11 14<|.b 25 1 hb53<|.r 26 2<|.b 28 1 hb2<|.nil) (fun a E=>?_)
  obtain ⟨t78,h79,H⟩:=bd H
  refine on1 29 E (.cl en70 (qAZ.calls (((nth qE.z x.f5 x35).f1).length:Int) 1 x.f1 _ _ _ S.own.sub h79)) ?_
  rintro _ u77 a ⟨_,rfl,hC⟩ E
  refine ⟨.of hC.agr,?_⟩
  replace S:=S.lent hC
  refine mny 7 hst E (.r 30 3 .nil) (fun a E=>?_)
  refine E.fbn 75 H (fun c80 E H=>?_) fun c80 E H=>?_
  have hb2:=S.ba 1
  have hb53:=S.ba 0
  refine mny 3 hst E (.r 33 1<|.b 34 4 hb2<|.r 35 1<|.b 36 1 hb53<|.nil) (fun a E=>?_)
  obtain ⟨t82,h83,H⟩:=bd H
  refine on1 37 E (.cl en81 (qAC.calls k38 x.f4 ((nth qE.z x.f5 x35).f1) _ _ _ _ _ _ _ S.own.sub g0_4 g52 h83)) ?_
  rintro _ u81 a ⟨_,rfl,hC⟩ E
  refine ⟨.of hC.agr,?_⟩
  replace S:=S.lent hC
  refine mny 0 hst E (.r 38 2 .nil) (fun a E=>?_)
  refine dn ?_
  exact J88 _ (by omega) _ (!t82) _ _ E .of S H
  refine mny 0 hst E (.r 33 7 .nil) (fun a E=>?_)
  refine dn ?_
  exact J88 _ (by omega) _ true _ _ E .of S H
  refine mny 0 hst E (.r 8 32 .nil) (fun a E=>?_)
  refine dn ?_
  exact J88 _ (by omega) _ true _ _ E .of S H
  refine wp_exit ?_
  refine hK33 _ _ (sq fun K92 hK92=>pl0 (plc E (.bn 0 0 7 (S.ba 0) .nil) (fun a E=>?_)))
  obtain ⟨t94,h95,H⟩:=bd H
  refine plq E S en82 (qAR.calls k38 x _ _ _ _ _ _ _ _ _ S.own.sub g0_4 g0_5 g0_6 h95) fun u93 S a E=>plc E (.r 2 1 .nil) (fun a E=>pld (hK92 _ _ (wp_ret ?_)))
  replace S:=S.tail
  obtain rfl:=si H
  exact rt1 E ⟨_,rfl,_,rfl,S⟩
 refine pl0 (plc E (.r 0 1<|.b 1 0 hb2<|.nil) (fun a E=>?_))
 obtain ⟨t7,h8,H⟩:=bd H
 refine plq E S en70 (qAZ.calls x.f0 0 2147483647 _ _ _ S.own.sub h8) fun u6 S a E=>plc E (.r 3 2 .nil) (fun a E=>E.fbn 9 H (fun c9 E H=>?_) fun c9 E H=>?_)
 have hb2:=S.ba 0
 refine plc E (.r 5 1<|.b 6 1 hb2<|.nil) (fun a E=>?_)
 obtain ⟨t11,h12,H⟩:=bd H
 refine plq E S en70 (qAZ.calls x.f1 1 3 _ _ _ S.own.sub h12) fun u10 S a E=>plc E (.r 8 3 .nil) (fun a E=>E.fbn 15 H (fun c13 E H=>?_) fun c13 E H=>?_)
 have hb2:=S.ba 0
 refine plc E (.r 11 1<|.b 12 2 hb2<|.r 13 1<|.b 14 1 hb2<|.nil) (fun a E=>?_)
 obtain ⟨t15,h16,H⟩:=bd H
 refine plq E S en70 (qAZ.calls x.f2 1 x.f1 _ _ _ S.own.sub h16) fun u14 S a E=>plc E (.r 16 3 .nil) (fun a E=>E.fbn 23 H (fun c17 E H=>?_) fun c17 E H=>?_)
 have hb2:=S.ba 0
 refine plc E (.r 19 1<|.b 20 3 hb2<|.nil) (fun a E=>?_)
 obtain ⟨t19,h20,H⟩:=bd H
 refine plq E S en70 (qAZ.calls x.f3 1 8 _ _ _ S.own.sub h20) fun u18 S a E=>plc E (.r 22 3 .nil) (fun a E=>E.fbn 29 H (fun c21 E H=>?_) fun c21 E H=>?_)
 refine plc E (.r 25 1<|.b 26 4 (S.ba 0)<|.nil) (fun a E=>?_)
 obtain ⟨t23,h24,H⟩:=bd H
 refine plq E S en80 (qz.calls k x.f4 _ _ _ _ _ S.own.sub g0_4 h24) fun u22 S a E=>plc E (.r 28 2 .nil) (fun a E=>pld ?_)
 exact J29 _ (by omega) _ (!(t23 == 0)) _ _ E .of S H
 refine plc E (.r 25 5 .nil) (fun a E=>pld ?_)
 exact J29 _ (by omega) _ true _ _ E .of S H
 refine plc E (.r 19 11 .nil) (fun a E=>pld ?_)
 exact J29 _ (by omega) _ true _ _ E .of S H
 refine plc E (.r 11 19 .nil) (fun a E=>pld ?_)
 exact J29 _ (by omega) _ true _ _ E .of S H
 refine plc E (.r 5 25 .nil) (fun a E=>pld ?_)
 exact J29 _ (by omega) _ true _ _ E .of S H
def qBU.f(k:Nat)(x:Int)(y:Int)(z:Int):Option (qG × Int):=if 0≤(if (if 8<z then 8 else z)>0 then (if 8<z then 8 else z) else 0)∧(if (if 8<z then 8 else z)>0 then (if 8<z then 8 else z) else 0) * 32≤140737488355328 then ((qt.f k (⟨0,x,y,z,[],[],(List.replicate ((if (if 8<z then 8 else z)>0 then (if 8<z then 8 else z) else 0)).toNat (qD.z:qD))⟩:qG)).bind fun t16=>(if t16=0 then (some ((⟨0,x,y,z,[],[],(List.replicate ((if (if 8<z then 8 else z)>0 then (if 8<z then 8 else z) else 0)).toNat (qD.z:qD))⟩:qG),0)) else (some ((⟨0,0,0,0,[],[],[]⟩:qG),t16)))) else (none)
def qBU.Post(W F:World)(r:qG × Int)(v:Value)(w':World):Prop:=∃(F':World)(RA0_4:OA)(rc0_4:Nat)(RA0_5:OA)(rc0_5:Nat)(RA0_6:OA)(rc0_6:Nat),v = .tuple #[.agg #[iv r.1.f0,iv r.1.f1,iv r.1.f2,iv r.1.f3,.slice RA0_4 r.1.f4.length rc0_4,.slice RA0_5 r.1.f5.length rc0_5,.slice RA0_6 r.1.f6.length rc0_6],iv r.2]∧Sm W F w' F' [row qD.k 49 (.slice RA0_6 r.1.f6.length rc0_6) r.1.f6]∧Rd qA.k F' RA0_4 rc0_4 r.1.f4∧Rd qE.k F' RA0_5 rc0_5 r.1.f5
theorem qBU.calls(k:Nat)(x:Int)(y:Int)(z:Int)(r:qG × Int)(W F:World)(hown:Sub F W)(H:qBU.f k x y z=some r):
    Cr 15 #[iv x,iv y,iv z] W (qBU.Post W F r):=by
 have S:=sT hown
 unfold qBU.f at H
 refine ent 25 rfl rfl rfl (fun a E=>?_)
 refine sq fun K1 hK1=>pl0 (pla (t:=26) E S [iv 0,iv 0,iv 0,iv 0,.slice none 0 0,.slice none 0 0,.slice none 0 0] fun b2 u3 hb2 S a E=>plc E (.r 1 1 .nil) (fun a E=>pld (hK1 _ _ (sq fun K4 hK4=>pl0 (plc E (.r 0 6 .nil) (fun a E=>?_))))))
 obtain ⟨c5,H⟩:=gd H
 refine ple E (.mk (d:=qD.k) (e:=49) 32 qD.z S c5 (by rw [zr49]; exact ⟨none,0,rfl,Rd.nil _ _⟩)) ?_
 rintro _ u8 a ⟨A6,c7,rfl,S,hg⟩ E
 refine plc E (.r 7 1 .nil) (fun a E=>pla (t:=26) E S [iv 0,iv 0,iv 0,iv 0,.slice none 0 0,.slice none 0 0,.slice none 0 0] fun b10 u11 hb10 S a E=>pls E S [iv 0,iv x,iv y,iv z,.slice none 0 0,.slice none 0 0,.slice A6 ((List.replicate ((if (if 8<z then 8 else z)>0 then (if 8<z then 8 else z) else 0)).toNat (qD.z:qD)).length) c7] fun u12 hb10 S a E=>pld (hK4 _ _ (sq fun K13 hK13=>sq fun K14 hK14=>pl0 (plc E (.bn 0 0 7 hb10 .nil) (fun a E=>?_)))))
 obtain ⟨t16,h17,H⟩:=bd H
 refine plq E S en32 (qt.calls k (⟨0,x,y,z,[],[],(List.replicate ((if (if 8<z then 8 else z)>0 then (if 8<z then 8 else z) else 0)).toNat (qD.z:qD))⟩:qG) _ _ _ _ _ _ _ _ _ (Sub.refl _) (Rd.nil _ _) (Rd.nil _ _) (S.rd_at (i:=1) rfl) h17) fun u15 S a E=>plc E (.r 2 1 .nil) (fun a E=>pld (hK14 _ _ (rr E fun a E=>(E.ikn 21 H (fun c19 E H=>?_) fun c19 E H=>?_))))
 refine wp_skip (hK13 _ _ (sq fun K23 hK23=>pl0 (plc E (.bn 0 0 7 (S.ba 0) .nil) (fun a E=>?_))))
 replace S:=S.front 2 rfl
 refine pls E S [iv 0,iv x,iv y,iv z,.slice none 0 0,.slice none 0 0,.slice A6 ((List.replicate ((if (if 8<z then 8 else z)>0 then (if 8<z then 8 else z) else 0)).toNat (qD.z:qD)).length) c7] fun u24 hb2 S a E=>plc E (.r 2 1 .nil) (fun a E=>pld (hK23 _ _ (wp_ret ?_)))
 replace S:=S.pm [] 2
 obtain rfl:=si H
 exact rtm E (.b hb2 ag26 sz26 (.t .nil)) ⟨_,rfl,_,_,_,_,_,_,_,rfl,S,(Rd.nil _ _),(Rd.nil _ _)⟩
 refine sq fun K20 hK20=>pl0 (plc E (.r 0 2 .nil) (fun a E=>?_))
 replace S:=S.front 2 rfl
 refine pls E S [iv 0,iv 0,iv 0,iv 0,.slice none 0 0,.slice none 0 0,.slice none 0 0] fun u21 hb2 S a E=>plc E (.r 3 1 .nil) (fun a E=>pld (hK20 _ _ (wp_ret (qBZ ?_))))
 replace S:=S.nilrow qD.k 49
 replace S:=S.pm [0] 4
 obtain rfl:=si H
 exact rtm E (.b hb2 ag26 sz26 (.t .nil)) ⟨_,rfl,_,_,_,_,_,_,_,rfl,S,(Rd.nil _ _),(Rd.nil _ _)⟩
def qw.l9:Nat→List Int→List Int→Int→Option Bool
 | 0,_,_,_=>none
 | k+1,x,y,x8=>if x8<(x.length:Int) then (if 0≤x8∧x8<(x.length:Int) then (if 0≤x8∧x8<(y.length:Int) then (if (nth 0 x x8)=(nth 0 y x8) then (qw.l9 k x y (w64 (x8+1))) else (some false)) else (none)) else (none)) else (some true)
theorem qw.l9_s k x y x8:type_of% (qw.l9.eq_2 x y x8 k):=qw.l9.eq_2 x y x8 k
def qw.f(k:Nat)(x:List Int)(y:List Int):Option Bool:=if (x.length:Int)=(y.length:Int) then (qw.l9 k x y 0) else (some false)
def qw.Post(W F:World)(r:Bool)(v:Value)(w':World):Prop:=∃(F':World),v = .bool r∧Sm W F w' F' []
theorem qw.calls(k:Nat)(x:List Int)(y:List Int)(A0_0:OA)(c0_0:Nat)(A1_0:OA)(c1_0:Nat)(r:Bool)(W F:World)(hown:Sub F W)(g0_0:Rd ki F A0_0 c0_0 x)(g1_0:Rd ki F A1_0 c1_0 y)(H:qw.f k x y=some r):
    Cr 21 #[.slice A0_0 x.length c0_0,.slice A1_0 y.length c1_0] W (qw.Post W F r):=by
 have S:=sT hown
 unfold qw.f at H
 refine ent 26 rfl rfl rfl (fun a E=>?_)
 refine rr E fun a E=>(sq fun K2 hK2=>rr E fun a E=>(E.ikn 10 H (fun c4 E H=>?_) fun c4 E H=>?_))
 refine wp_skip (hK2 _ _ (sq fun K6 hK6=>rr E fun a E=>(wp_block ?_)))
 refine wp_loop_ghost (fun kq10 a w'=>∃(G:NV)(x8:Int),kq10≤k∧Env 26 G a∧At G [(0,.slice A0_0 x.length c0_0),(1,.slice A1_0 y.length c1_0),(5,iv x8)]∧Sm W F w' F []∧qw.l9 kq10 x y x8=some r) k ⟨_,0,Nat.le_refl _,E,.of,S,H⟩ ?_
 rintro kq10 a u12 ⟨G,x8,hkq,E,A,S,H⟩
 obtain _ | k11:=kq10
 exact zz H
 rw [qw.l9_s]at H
 obtain ⟨J,E⟩:=E.at A
 refine sq fun K13 hK13=>rr E fun a E=>(E.ik 14 H (fun c15 E H=>?_) fun c15 E H=>?_)
 refine wp_skip (hK13 _ _ (sq fun K16 hK16=>wp_block (sq fun K17 hK17=>?_)))
 refine drawn 9 ⟨[],[],fun q=>False⟩ mixed rfl (by kernel_rfl) (fun hst=>?_)
 replace S:=S.drew
 obtain ⟨c18,H⟩:=gd H
 have hE_:=E
 obtain ⟨ad19,rfl⟩:=g0_0.addr c18.1 c18.2
 replace E:=hE_
 obtain ⟨cs21,rfl,hc22⟩:=g0_0.el 0 x8 c18.1 c18.2
 obtain ⟨c23,H⟩:=gd H
 have hE_:=E
 obtain ⟨ad24,rfl⟩:=g1_0.addr c23.1 c23.2
 replace E:=hE_
 obtain ⟨cs26,rfl,hc27⟩:=g1_0.el 0 x8 c23.1 c23.2
 refine mny 0 hst E (.r 0 2<|.x 2 c18<|.c 3 (S.fc hc22 0)<|.r 4 2<|.x 6 c23<|.c 7 (S.fc hc27 0)<|.r 8 1<|.nil) (fun a E=>?_)
 refine dn ?_
 refine hK17 _ _ (E.ikn 25 H (fun c28 E H=>?_) fun c28 E H=>?_)
 refine wp_skip ?_
 refine qBb ?_
 refine hK16 _ _ (pl0 (plc E (.r 0 3 .nil) (fun a E=>pld ?_)))
 exact qBc ⟨k11,by omega,_,(w64 (x8+1)),by omega,E,.of,S,H⟩
 refine rr E fun a E=>(wp_ret (qBa (qBZ (qBZ (qBa (qBZ ?_))))))
 obtain rfl:=si H
 exact rt1 E ⟨_,rfl,_,rfl,S⟩
 refine wp_exit ?_
 refine hK6 _ _ (rr E fun a E=>(wp_ret ?_))
 obtain rfl:=si H
 exact rt1 E ⟨_,rfl,_,rfl,S⟩
 refine rr E fun a E=>(wp_ret (qBZ ?_))
 obtain rfl:=si H
 exact rt1 E ⟨_,rfl,_,rfl,S⟩
def qAE.f(x:List Int):Option (List Int):=if ((([]:List Int).length:Int)+(x.length:Int)) * 8≤140737488355328 then (some (([]:List Int)++x)) else (none)
def qAE.Post(W F:World)(r:List Int)(v:Value)(w':World):Prop:=∃(F':World)(RA0_0:OA)(rc0_0:Nat),v = .slice RA0_0 r.length rc0_0∧Sm W F w' F' [row ki 3 (.slice RA0_0 r.length rc0_0) r]
theorem qAE.calls(x:List Int)(A0_0:OA)(c0_0:Nat)(r:List Int)(W F:World)(hown:Sub F W)(g0_0:Rd ki F A0_0 c0_0 x)(H:qAE.f x=some r):
    Cr 112 #[.slice A0_0 x.length c0_0] W (qAE.Post W F r):=by
 have S:=sT hown
 unfold qAE.f at H
 refine ent 8 rfl rfl rfl (fun a E=>?_)
 rcases A0_0 with _ | ad1
 have hnil:=g0_0.none_nil
 replace H:(some [])=some r:=by simpa [hnil] using H
 refine rr E fun a E=>(sq fun K3 hK3=>rr E fun a E=>(ct E (rr E fun a E=>(wp_ret (qBZ ?_)))))
 replace S:=S.nilrow ki 3
 obtain rfl:=si H
 exact rt1 E ⟨_,rfl,_,_,_,rfl,S⟩
 refine rr E fun a E=>(sq fun K8 hK8=>rr E fun a E=>(cf E (wp_skip (hK8 _ _ (sq fun K10 hK10=>pl0 (ple E (.lit (d:=ki) (e:=3) S ([]:List Int) (.nil)) ?_))))))
 rintro _ u11 a ⟨A12,c13,rfl,S,hg⟩ E
 refine plc E (.r 1 1 .nil) (fun a E=>?_)
 obtain ⟨c15,H⟩:=gd H
 refine ple E (.ap (d:=ki) 8 S (g0_0.src S.own.sub) c15 c0_0) ?_
 rintro _ u18 a ⟨A16,c17,rfl,S,hz⟩ E
 refine plc E (.r 3 1 .nil) (fun a E=>pld (hK10 _ _ (wp_ret ?_)))
 obtain rfl:=si H
 exact rt1 E ⟨_,rfl,_,_,_,rfl,S⟩
def qAf.f(x:Int):Option Bool:=some (!(x == x))
def qAf.Post(W F:World)(r:Bool)(v:Value)(w':World):Prop:=∃(F':World),v = .bool r∧Sm W F w' F' []
theorem qAf.calls(x:Int)(r:Bool)(W F:World)(hown:Sub F W)(H:qAf.f x=some r):
    Cr 202 #[iv x] W (qAf.Post W F r):=by
 have S:=sT hown
 unfold qAf.f at H
 refine ent 6 rfl rfl rfl (fun a E=>?_)
 refine rr E fun a E=>(rr E fun a E=>(wp_ret ?_))
 obtain rfl:=si H
 exact rt1 E ⟨_,rfl,_,rfl,S⟩
def qAU.f(x:Int)(y:Int):Option Int:=(qAf.f x).bind fun t4=>((qAf.f y).bind fun t8=>(if t4=true then (if t8=true then (some 0) else (some (-1))) else (if t8=true then (some 1) else (if x<y then (some (-1)) else (if x>y then (some 1) else (some 0))))))
def qAU.Post(W F:World)(r:Int)(v:Value)(w':World):Prop:=∃(F':World),v=iv r∧Sm W F w' F' []
theorem qAU.calls(x:Int)(y:Int)(r:Int)(W F:World)(hown:Sub F W)(H:qAU.f x y=some r):
    Cr 161 #[iv x,iv y] W (qAU.Post W F r):=by
 have S:=sT hown
 unfold qAU.f at H
 refine ent 20 rfl rfl rfl (fun a E=>?_)
 refine rr E fun a E=>(sq fun K2 hK2=>pl0 (plc E (.r 0 1 .nil) (fun a E=>?_)))
 obtain ⟨t4,h5,H⟩:=bd H
 refine plq E S en202 (qAf.calls x _ _ _ S.own.sub h5) fun u3 S a E=>plc E (.r 2 1 .nil) (fun a E=>pld (hK2 _ _ (sq fun K6 hK6=>pl0 (plc E (.r 0 1 .nil) (fun a E=>?_)))))
 obtain ⟨t8,h9,H⟩:=bd H
 refine plq E S en202 (qAf.calls y _ _ _ S.own.sub h9) fun u7 S a E=>plc E (.r 2 1 .nil) (fun a E=>pld (hK6 _ _ (sq fun K10 hK10=>rr E fun a E=>(E.ib 11 H (fun c12 E H=>?_) fun c12 E H=>?_))))
 refine sq fun K13 hK13=>rr E fun a E=>(E.ib 12 H (fun c15 E H=>?_) fun c15 E H=>?_)
 refine rr E fun a E=>(wp_ret (qBZ (qBZ ?_)))
 obtain rfl:=si H
 exact rt1 E ⟨_,rfl,_,rfl,S⟩
 refine wp_skip (hK13 _ _ (rr E fun a E=>(wp_ret (qBZ ?_))))
 obtain rfl:=si H
 exact rt1 E ⟨_,rfl,_,rfl,S⟩
 refine wp_skip (hK10 _ _ (sq fun K18 hK18=>rr E fun a E=>(E.ib 13 H (fun c20 E H=>?_) fun c20 E H=>?_)))
 refine rr E fun a E=>(wp_ret (qBZ ?_))
 obtain rfl:=si H
 exact rt1 E ⟨_,rfl,_,rfl,S⟩
 refine wp_skip (hK18 _ _ (sq fun K22 hK22=>rr E fun a E=>(E.ik 16 H (fun c24 E H=>?_) fun c24 E H=>?_)))
 refine rr E fun a E=>(wp_ret (qBZ ?_))
 obtain rfl:=si H
 exact rt1 E ⟨_,rfl,_,rfl,S⟩
 refine wp_skip (hK22 _ _ (sq fun K26 hK26=>rr E fun a E=>(E.ik 19 H (fun c28 E H=>?_) fun c28 E H=>?_)))
 refine rr E fun a E=>(wp_ret (qBZ ?_))
 obtain rfl:=si H
 exact rt1 E ⟨_,rfl,_,rfl,S⟩
 refine wp_skip (hK26 _ _ (rr E fun a E=>(wp_ret ?_)))
 obtain rfl:=si H
 exact rt1 E ⟨_,rfl,_,rfl,S⟩
def qAr.f(x:qE)(y:Int):Option Int:=(qAU.f x.f0 y).bind fun t6=>(some t6)
def qAr.Post(W F:World)(r:Int)(v:Value)(w':World):Prop:=∃(F':World),v=iv r∧Sm W F w' F' []
theorem qAr.calls(x:qE)(y:Int)(A0_1:OA)(c0_1:Nat)(r:Int)(W F:World)(hown:Sub F W)(g0_1:Rd ki F A0_1 c0_1 x.f1)(H:qAr.f x y=some r):
    Cr 165 #[.agg #[iv x.f0,.slice A0_1 x.f1.length c0_1],iv y] W (qAr.Post W F r):=by
 have S:=sT hown
 unfold qAr.f at H
 refine ent 9 rfl rfl rfl (fun a E=>?_)
 refine sq fun K1 hK1=>pl0 (plx (t:=97) E S [iv x.f0,.slice A0_1 x.f1.length c0_1] fun b2 u3 hb2 S a E=>plc E (.r 1 1 .nil) (fun a E=>pld (hK1 _ _ (sq fun K4 hK4=>pl0 (plc E (.r 0 1<|.b 1 0 hb2<|.r 2 1<|.nil) (fun a E=>?_))))))
 obtain ⟨t6,h7,H⟩:=bd H
 refine plq E S en161 (qAU.calls x.f0 y _ _ _ S.own.sub h7) fun u5 S a E=>plc E (.r 4 1 .nil) (fun a E=>pld (hK4 _ _ (wp_ret ?_)))
 replace S:=S.tail
 obtain rfl:=si H
 exact rt1 E ⟨_,rfl,_,rfl,S⟩
def qM.l7:Nat→List qE→Int→Int→Int→Option (Int × Bool)
 | 0,_,_,_,_=>none
 | k+1,x,y,x5,x6=>if x5<x6 then (if 0≤(w64 ((IntKind.u64.wrap (w64 (x5+x6))).fdiv 2))∧(w64 ((IntKind.u64.wrap (w64 (x5+x6))).fdiv 2))<(x.length:Int) then ((qAr.f (nth qE.z x (w64 ((IntKind.u64.wrap (w64 (x5+x6))).fdiv 2))) y).bind fun t25=>(if t25<0 then (qM.l7 k x y (w64 ((w64 ((IntKind.u64.wrap (w64 (x5+x6))).fdiv 2))+1)) x6) else (qM.l7 k x y x5 (w64 ((IntKind.u64.wrap (w64 (x5+x6))).fdiv 2))))) else (none)) else (if x5<(x.length:Int) then (if 0≤x5∧x5<(x.length:Int) then ((qAr.f (nth qE.z x x5) y).bind fun t39=>(some (x5,(t39 == 0)))) else (none)) else (some (x5,false)))
theorem qM.l7_s k x y x5 x6:type_of% (qM.l7.eq_2 x y x5 x6 k):=qM.l7.eq_2 x y x5 x6 k
def qM.f(k:Nat)(x:List qE)(y:Int):Option (Int × Bool):=qM.l7 k x y 0 (x.length:Int)
def qM.Post(W F:World)(r:Int × Bool)(v:Value)(w':World):Prop:=∃(F':World),v = .tuple #[iv r.1,.bool r.2]∧Sm W F w' F' []
theorem qM.calls(k:Nat)(x:List qE)(y:Int)(A0_0:OA)(c0_0:Nat)(r:Int × Bool)(W F:World)(hown:Sub F W)(g0_0:Rd qE.k F A0_0 c0_0 x)(H:qM.f k x y=some r):
    Cr 164 #[.slice A0_0 x.length c0_0,iv y,.func (.func 165) #[] #[]] W (qM.Post W F r):=by
 have S:=sT hown
 unfold qM.f at H
 refine ent 49 rfl rfl rfl (fun a E=>?_)
 refine rr E fun a E=>(rr E fun a E=>(rr E fun a E=>(sq fun K4 hK4=>wp_block ?_)))
 refine wp_loop_ghost (fun kq8 a w'=>∃(G:NV)(x5:Int)(x6:Int),kq8≤k∧Env 49 G a∧At G [(0,.slice A0_0 x.length c0_0),(1,iv y),(2,.func (.func 165) #[] #[]),(8,iv (x.length:Int)),(9,iv x5),(10,iv x6)]∧Sm W F w' F []∧qM.l7 kq8 x y x5 x6=some r) k ⟨_,0,(x.length:Int),Nat.le_refl _,E,.of,S,H⟩ ?_
 rintro kq8 a u10 ⟨G,x5,x6,hkq,E,A,S,H⟩
 obtain _ | k9:=kq8
 exact zz H
 rw [qM.l7_s]at H
 obtain ⟨J,E⟩:=E.at A
 refine sq fun K11 hK11=>rr E fun a E=>(E.ik 17 H (fun c13 E H=>?_) fun c13 E H=>?_)
 refine wp_skip (hK11 _ _ (wp_block (rr E fun a E=>(sq fun K15 hK15=>pl0 ?_))))
 obtain ⟨c16,H⟩:=gd H
 have hE_:=E
 obtain ⟨ad17,rfl⟩:=g0_0.addr c16.1 c16.2
 replace E:=hE_
 obtain ⟨cs19,⟨A21,c22,rfl,g23⟩,hc20⟩:=g0_0.el qE.z (w64 ((IntKind.u64.wrap (w64 (x5+x6))).fdiv 2)) c16.1 c16.2
 refine plc E (.r 0 3<|.x 3 c16<|.cs 4 (S.fcs hc20)<|.r 5 1<|.nil) (fun a E=>?_)
 obtain ⟨t25,h26,H⟩:=bd H
 refine plq E S en165 (qAr.calls (nth qE.z x (w64 ((IntKind.u64.wrap (w64 (x5+x6))).fdiv 2))) y _ _ _ _ _ S.own.sub g23 h26) fun u24 S a E=>plc E (.r 7 1 .nil) (fun a E=>pld (hK15 _ _ (E.ik 31 H (fun c27 E H=>?_) fun c27 E H=>?_)))
 refine pl0 (plc E (.r 0 3 .nil) (fun a E=>pld ?_))
 refine qBb ?_
 exact qBc ⟨k9,by omega,_,(w64 ((w64 ((IntKind.u64.wrap (w64 (x5+x6))).fdiv 2))+1)),x6,by omega,E,.of,S,H⟩
 refine pl0 (plc E (.r 0 2 .nil) (fun a E=>pld ?_))
 refine qBb ?_
 exact qBc ⟨k9,by omega,_,x5,(w64 ((IntKind.u64.wrap (w64 (x5+x6))).fdiv 2)),by omega,E,.of,S,H⟩
 refine wp_exit ?_
 refine hK4 _ _ (sq fun K28 hK28=>pl0 (plc E (.r 0 5 .nil) (fun a E=>E.fk 39 H (fun c29 E H=>?_) fun c29 E H=>?_)))
 obtain ⟨c30,H⟩:=gd H
 have hE_:=E
 obtain ⟨ad31,rfl⟩:=g0_0.addr c30.1 c30.2
 replace E:=hE_
 obtain ⟨cs33,⟨A35,c36,rfl,g37⟩,hc34⟩:=g0_0.el qE.z x5 c30.1 c30.2
 refine plc E (.r 5 3<|.x 8 c30<|.cs 9 (S.fcs hc34)<|.r 10 1<|.nil) (fun a E=>?_)
 obtain ⟨t39,h40,H⟩:=bd H
 refine plq E S en165 (qAr.calls (nth qE.z x x5) y _ _ _ _ _ S.own.sub g37 h40) fun u38 S a E=>plc E (.r 12 4 .nil) (fun a E=>pld (hK28 _ _ (wp_ret ?_)))
 obtain rfl:=si H
 exact rtN E ⟨_,rfl,_,rfl,S⟩
 refine plc E (.r 5 11 .nil) (fun a E=>pld (hK28 _ _ (wp_ret ?_)))
 obtain rfl:=si H
 exact rtN E ⟨_,rfl,_,rfl,S⟩
def qBG.f(k:Nat)(x:qG)(y:Int):Option (Int × Bool):=(qM.f k x.f5 y).bind fun t6=>(some (t6.1,t6.2))
def qBG.Post(W F:World)(r:Int × Bool)(v:Value)(w':World):Prop:=∃(F':World),v = .tuple #[iv r.1,.bool r.2]∧Sm W F w' F' []
theorem qBG.calls(k:Nat)(x:qG)(y:Int)(A0_4:OA)(c0_4:Nat)(A0_5:OA)(c0_5:Nat)(A0_6:OA)(c0_6:Nat)(r:Int × Bool)(W F:World)(hown:Sub F W)(g0_4:Rd qA.k F A0_4 c0_4 x.f4)(g0_5:Rd qE.k F A0_5 c0_5 x.f5)(g0_6:Rd qD.k F A0_6 c0_6 x.f6)(H:qBG.f k x y=some r):
    Cr 121 #[.agg #[iv x.f0,iv x.f1,iv x.f2,iv x.f3,.slice A0_4 x.f4.length c0_4,.slice A0_5 x.f5.length c0_5,.slice A0_6 x.f6.length c0_6],iv y] W (qBG.Post W F r):=by
 have S:=sT hown
 unfold qBG.f at H
 refine ent 12 rfl rfl rfl (fun a E=>?_)
 refine sq fun K1 hK1=>pl0 (plx (t:=26) E S [iv x.f0,iv x.f1,iv x.f2,iv x.f3,.slice A0_4 x.f4.length c0_4,.slice A0_5 x.f5.length c0_5,.slice A0_6 x.f6.length c0_6] fun b2 u3 hb2 S a E=>plc E (.r 1 2 .nil) (fun a E=>pld (hK1 _ _ (sq fun K4 hK4=>pl0 (plc E (.r 0 1<|.b 1 5 hb2<|.r 2 1<|.nil) (fun a E=>?_))))))
 obtain ⟨t6,h7,H⟩:=bd H
 refine plq E S en164 (qM.calls k x.f5 y _ _ _ _ _ S.own.sub g0_5 h7) fun u5 S a E=>plc E (.r 4 4 .nil) (fun a E=>pld (hK4 _ _ (wp_ret ?_)))
 replace S:=S.tail
 obtain rfl:=si H
 exact rtN E ⟨_,rfl,_,rfl,S⟩
def qAa.j23:Nat→Int→qf→Bool→Option (Int × Bool)
 | 0,_,_,_=>none
 | k+1,x,y,y22=>if x=(-1) then (some (y.f1,false)) else (if y22=true then (if y.f2≥1 then (some (y.f1,(decide (y.f2≤12)))) else (some (y.f1,false))) else (some (y.f1,false)))
theorem qAa.j23_s k x y y22:type_of% (qAa.j23.eq_2 x y y22 k):=qAa.j23.eq_2 x y y22 k
def qAa.f(k:Nat)(x:Int)(y:qf):Option (Int × Bool):=if y.f0=1 then (if x=(-1) then (if y.f1=0 then (some (0,(y.f2 == 0))) else (some (0,false))) else (some (0,false))) else (if y.f0=3 then (if x=3 then (if y.f1=0 then (some ((-1),(y.f2 == 0))) else (some ((-1),false))) else (some ((-1),false))) else (if y.f0=2 then (if y.f1>x then (if y.f1≤3 then (if y.f1=2 then (qAa.j23 k x y (x == 1)) else (qAa.j23 k x y true)) else (qAa.j23 k x y false)) else (qAa.j23 k x y false)) else (some ((-1),false))))
def qAa.Post(W F:World)(r:Int × Bool)(v:Value)(w':World):Prop:=∃(F':World),v = .tuple #[iv r.1,.bool r.2]∧Sm W F w' F' []
theorem qAa.calls(k:Nat)(x:Int)(y:qf)(r:Int × Bool)(W F:World)(hown:Sub F W)(H:qAa.f k x y=some r):
    Cr 224 #[iv x,.agg #[iv y.f0,iv y.f1,iv y.f2]] W (qAa.Post W F r):=by
 have S:=sT hown
 unfold qAa.f at H
 refine ent 74 rfl rfl rfl (fun a E=>?_)
 refine sq fun K1 hK1=>pl0 (plx (t:=175) E S [iv y.f0,iv y.f1,iv y.f2] fun b2 u3 hb2 S a E=>plc E (.r 1 2 .nil) (fun a E=>pld (hK1 _ _ (sq fun K4 hK4=>rg E (.r 0 1<|.b 1 0 hb2<|.nil) fun a E=>(wp_block (rr E fun a E=>(E.ik 9 H (fun c7 E H=>?_) fun c7 E H=>?_)))))))
 refine sq fun K8 hK8=>?_
 refine drawn 14 ⟨[],[],fun q=>False⟩ mixed rfl (by kernel_rfl) (fun hst=>?_)
 replace S:=S.drew
 refine mny 11 hst E (.r 0 3 .nil) (fun a E=>?_)
 refine E.fk 13 H (fun c9 E H=>?_) fun c9 E H=>?_
 have hb2:=S.ba 0
 refine mny 5 hst E (.r 3 1<|.b 4 1 hb2<|.r 5 3<|.r 12 1<|.nil) (fun a E=>?_)
 refine E.fk 18 H (fun c10 E H=>?_) fun c10 E H=>?_
 refine mny 0 hst E (.r 8 1<|.b 9 2 hb2<|.r 10 2<|.r 13 1<|.nil) (fun a E=>?_)
 refine dn ?_
 refine hK8 _ _ (wp_ret (qBa (qBZ ?_)))
 replace S:=S.tail
 obtain rfl:=si H
 exact rtN E ⟨_,rfl,_,rfl,S⟩
 refine mny 0 hst E (.r 8 4<|.r 13 1<|.nil) (fun a E=>?_)
 refine dn ?_
 refine hK8 _ _ (wp_ret (qBa (qBZ ?_)))
 replace S:=S.tail
 obtain rfl:=si H
 exact rtN E ⟨_,rfl,_,rfl,S⟩
 refine mny 0 hst E (.r 3 11 .nil) (fun a E=>?_)
 refine dn ?_
 refine hK8 _ _ (wp_ret (qBa (qBZ ?_)))
 replace S:=S.tail
 obtain rfl:=si H
 exact rtN E ⟨_,rfl,_,rfl,S⟩
 refine rr E fun a E=>(E.ik 23 H (fun c12 E H=>?_) fun c12 E H=>?_)
 refine sq fun K13 hK13=>?_
 refine drawn 14 ⟨[],[],fun q=>False⟩ mixed rfl (by kernel_rfl) (fun hst=>?_)
 replace S:=S.drew
 refine mny 11 hst E (.r 0 3 .nil) (fun a E=>?_)
 refine E.fk 27 H (fun c14 E H=>?_) fun c14 E H=>?_
 have hb2:=S.ba 0
 refine mny 5 hst E (.r 3 1<|.b 4 1 hb2<|.r 5 3<|.r 12 1<|.nil) (fun a E=>?_)
 refine E.fk 32 H (fun c15 E H=>?_) fun c15 E H=>?_
 refine mny 0 hst E (.r 8 1<|.b 9 2 hb2<|.r 10 2<|.r 13 1<|.nil) (fun a E=>?_)
 refine dn ?_
 refine hK13 _ _ (wp_ret (qBa (qBZ ?_)))
 replace S:=S.tail
 obtain rfl:=si H
 exact rtN E ⟨_,rfl,_,rfl,S⟩
 refine mny 0 hst E (.r 8 4<|.r 13 1<|.nil) (fun a E=>?_)
 refine dn ?_
 refine hK13 _ _ (wp_ret (qBa (qBZ ?_)))
 replace S:=S.tail
 obtain rfl:=si H
 exact rtN E ⟨_,rfl,_,rfl,S⟩
 refine mny 0 hst E (.r 3 11 .nil) (fun a E=>?_)
 refine dn ?_
 refine hK13 _ _ (wp_ret (qBa (qBZ ?_)))
 replace S:=S.tail
 obtain rfl:=si H
 exact rtN E ⟨_,rfl,_,rfl,S⟩
 refine rr E fun a E=>(E.ik 37 H (fun c17 E H=>?_) fun c17 E H=>?_)
 refine sq fun K18 hK18=>?_
 have J26:∀ kq24,kq24≤k→∀(G:NV)(y22:Bool)(a:Act)(w':World),Env 74 G a→At G [(0,iv x),(3,.pointer (pb b2)),(6,.bool y22)]→Sm W F w' F [box b2 #[iv y.f0,iv y.f1,iv y.f2] 175]→qAa.j23 kq24 x y y22=some r→K18 a w':=by
  intro kq24 hkq G y22 a u27 E A S H
  obtain _ | k25:=kq24
  exact zz H
  rw [qAa.j23_s]at H
  obtain ⟨J,E⟩:=E.at A
  refine hK18 _ _ (sq fun K28 hK28=>?_)
  refine drawn 19 ⟨[],[],fun q=>False⟩ mixed rfl (by kernel_rfl) (fun hst=>?_)
  replace S:=S.drew
  have hb2:=S.ba 0
  refine mny 14 hst E (.r 0 1<|.b 1 1 hb2<|.r 2 3<|.nil) (fun a E=>?_)
  refine E.fkn 61 H (fun c29 E H=>?_) fun c29 E H=>?_
  refine mny 0 hst E (.r 5 14 .nil) (fun a E=>?_)
  refine dn ?_
  refine hK28 _ _ (wp_ret (qBa (qBZ ?_)))
  replace S:=S.tail
  obtain rfl:=si H
  exact rtN E ⟨_,rfl,_,rfl,S⟩
  refine mny 11 hst E (.r 5 3 .nil) (fun a E=>?_)
  refine E.fb 64 H (fun c30 E H=>?_) fun c30 E H=>?_
  refine mny 5 hst E (.r 8 1<|.b 9 2 hb2<|.r 10 3<|.r 17 1<|.nil) (fun a E=>?_)
  refine E.fk 69 H (fun c31 E H=>?_) fun c31 E H=>?_
  refine mny 0 hst E (.r 13 1<|.b 14 2 hb2<|.r 15 2<|.r 18 1<|.nil) (fun a E=>?_)
  refine dn ?_
  refine hK28 _ _ (wp_ret (qBa (qBZ ?_)))
  replace S:=S.tail
  obtain rfl:=si H
  exact rtN E ⟨_,rfl,_,rfl,S⟩
  refine mny 0 hst E (.r 13 4<|.r 18 1<|.nil) (fun a E=>?_)
  refine dn ?_
  refine hK28 _ _ (wp_ret (qBa (qBZ ?_)))
  replace S:=S.tail
  obtain rfl:=si H
  exact rtN E ⟨_,rfl,_,rfl,S⟩
  refine mny 0 hst E (.r 8 11 .nil) (fun a E=>?_)
  refine dn ?_
  refine hK28 _ _ (wp_ret (qBa (qBZ ?_)))
  replace S:=S.tail
  obtain rfl:=si H
  exact rtN E ⟨_,rfl,_,rfl,S⟩
 refine pl0 (plc E (.r 0 1<|.b 1 1 hb2<|.r 2 3<|.nil) (fun a E=>E.fk 43 H (fun c19 E H=>?_) fun c19 E H=>?_))
 refine plc E (.r 5 1<|.b 6 1 hb2<|.r 7 3<|.nil) (fun a E=>E.fk 48 H (fun c20 E H=>?_) fun c20 E H=>?_)
 refine plc E (.r 10 1<|.b 11 1 hb2<|.r 12 2<|.nil) (fun a E=>E.fkn 52 H (fun c21 E H=>?_) fun c21 E H=>?_)
 refine plc E (.r 14 5 .nil) (fun a E=>pld ?_)
 exact J26 _ (by omega) _ (x == 1) _ _ E .of S H
 refine plc E (.r 14 5 .nil) (fun a E=>pld ?_)
 exact J26 _ (by omega) _ true _ _ E .of S H
 refine plc E (.r 10 9 .nil) (fun a E=>pld ?_)
 exact J26 _ (by omega) _ false _ _ E .of S H
 refine plc E (.r 5 14 .nil) (fun a E=>pld ?_)
 exact J26 _ (by omega) _ false _ _ E .of S H
 refine wp_skip ?_
 refine qBb ?_
 refine hK4 _ _ (rr E fun a E=>(wp_ret ?_))
 replace S:=S.tail
 obtain rfl:=si H
 exact rtN E ⟨_,rfl,_,rfl,S⟩
mutual
def qAP.j6:Nat→List qf→Bool→Option Int
 | 0,_,_=>none
 | k+1,x,y5=>if y5=true then (some 1) else (qAP.l18 k x (-1) 0)
def qAP.l18:Nat→List qf→Int→Int→Option Int
 | 0,_,_,_=>none
 | k+1,x,x16,x17=>if x17<(x.length:Int) then (if 0≤x17∧x17<(x.length:Int) then ((qAa.f k x16 (nth qf.z x x17)).bind fun t37=>(if t37.2=true then (qAP.l18 k x t37.1 (w64 (x17+1))) else (some 1))) else (none)) else (some 0)
end
theorem qAP.j6_s k x y5:type_of% (qAP.j6.eq_2 x y5 k):=qAP.j6.eq_2 x y5 k
theorem qAP.l18_s k x x16 x17:type_of% (qAP.l18.eq_2 x x16 x17 k):=qAP.l18.eq_2 x x16 x17 k
def qAP.f(k:Nat)(x:List qf):Option Int:=if (x.length:Int)=0 then (qAP.j6 k x true) else (qAP.j6 k x (decide ((x.length:Int)>8)))
def qAP.Post(W F:World)(r:Int)(v:Value)(w':World):Prop:=∃(F':World),v=iv r∧Sm W F w' F' []
theorem qAP.calls(k:Nat)(x:List qf)(A0_0:OA)(c0_0:Nat)(r:Int)(W F:World)(hown:Sub F W)(g0_0:Rd qf.k F A0_0 c0_0 x)(H:qAP.f k x=some r):
    Cr 203 #[.slice A0_0 x.length c0_0] W (qAP.Post W F r):=by
 have S:=sT hown
 unfold qAP.f at H
 refine ent 32 rfl rfl rfl (fun a E=>?_)
 refine rr E fun a E=>(sq fun K2 hK2=>sq fun K3 hK3=>?_)
 have J9:∀ kq7,kq7≤k→∀(G:NV)(y5:Bool)(a:Act)(w':World),Env 32 G a→At G [(0,.slice A0_0 x.length c0_0),(15,.bool y5)]→Sm W F w' F []→qAP.j6 kq7 x y5=some r→K3 a w':=by
  intro kq7 hkq G y5 a u10 E A S H
  obtain _ | k8:=kq7
  exact zz H
  rw [qAP.j6_s]at H
  obtain ⟨J,E⟩:=E.at A
  refine hK3 _ _ (E.ib 15 H (fun c11 E H=>?_) fun c11 E H=>?_)
  refine rr E fun a E=>(wp_ret (qBZ ?_))
  obtain rfl:=si H
  exact rt1 E ⟨_,rfl,_,rfl,S⟩
  refine wp_skip (hK2 _ _ (rr E fun a E=>(sq fun K14 hK14=>rr E fun a E=>(wp_block ?_))))
  refine wp_loop_ghost (fun kq19 a w'=>∃(G:NV)(x16:Int)(x17:Int),kq19≤k8∧Env 32 G a∧At G [(3,iv x16),(16,.slice A0_0 x.length c0_0),(17,iv (x.length:Int)),(18,iv x17)]∧Sm W F w' F []∧qAP.l18 kq19 x x16 x17=some r) k8 ⟨_,(-1),0,Nat.le_refl _,E,.of,S,H⟩ ?_
  rintro kq19 a u21 ⟨G,x16,x17,hkq,E,A,S,H⟩
  obtain _ | k20:=kq19
  exact zz H
  rw [qAP.l18_s]at H
  obtain ⟨J,E⟩:=E.at A
  refine rr E fun a E=>(sq fun K23 hK23=>E.ik 19 H (fun c24 E H=>?_) fun c24 E H=>?_)
  refine wp_skip (hK23 _ _ (sq fun K25 hK25=>wp_block (sq fun K26 hK26=>pl0 ?_)))
  obtain ⟨c27,H⟩:=gd H
  have hE_:=E
  obtain ⟨ad28,rfl⟩:=g0_0.addr c27.1 c27.2
  replace E:=hE_
  obtain ⟨cs30,rfl,hc31⟩:=g0_0.el qf.z x17 c27.1 c27.2
  refine plc E (.x 0 c27<|.cs 1 (S.fcs hc31)<|.nil) (fun a E=>pla (t:=175) E S [iv 0,iv 0,iv 0] fun b32 u33 hb32 S a E=>pls E S [iv ((nth qf.z x x17).f0),iv ((nth qf.z x x17).f1),iv ((nth qf.z x x17).f2)] fun u34 hb32 S a E=>pld (hK26 _ _ (sq fun K35 hK35=>pl0 (plc E (.r 0 1<|.bn 1 0 3 hb32<|.nil) (fun a E=>?_)))))
  obtain ⟨t37,h38,H⟩:=bd H
  refine plq E S en224 (qAa.calls k20 x16 (nth qf.z x x17) _ _ _ S.own.sub h38) fun u36 S a E=>plc E (.r 3 5 .nil) (fun a E=>pld (hK35 _ _ (sq fun K39 hK39=>rr E fun a E=>(E.ibn 29 H (fun c41 E H=>?_) fun c41 E H=>?_))))
  refine wp_skip (hK39 _ _ (pl0 (plc E (.r 0 2 .nil) (fun a E=>pld ?_))))
  refine qBb ?_
  refine hK25 _ _ (pl0 (plc E (.r 0 2 .nil) (fun a E=>pld ?_)))
  replace S:=S.tail
  exact qBc ⟨k20,by omega,_,t37.1,(w64 (x17+1)),by omega,E,.of,S,H⟩
  refine rr E fun a E=>(wp_ret (qBZ (qBa (qBZ (qBZ (qBa (qBZ ?_)))))))
  replace S:=S.tail
  obtain rfl:=si H
  exact rt1 E ⟨_,rfl,_,rfl,S⟩
  refine wp_exit ?_
  refine hK14 _ _ (rr E fun a E=>(wp_ret ?_))
  obtain rfl:=si H
  exact rt1 E ⟨_,rfl,_,rfl,S⟩
 refine pl0 (plc E (.r 0 4 .nil) (fun a E=>E.fk 11 H (fun c4 E H=>?_) fun c4 E H=>?_))
 refine plc E (.r 4 4 .nil) (fun a E=>pld ?_)
 exact J9 _ (by omega) _ true _ _ E .of S H
 refine plc E (.r 4 4 .nil) (fun a E=>pld ?_)
 exact J9 _ (by omega) _ (decide ((x.length:Int)>8)) _ _ E .of S H
def qAn.f(x:qB)(y:Int):Option Int:=(qAU.f x.f0 y).bind fun t6=>(some t6)
def qAn.Post(W F:World)(r:Int)(v:Value)(w':World):Prop:=∃(F':World),v=iv r∧Sm W F w' F' []
theorem qAn.calls(x:qB)(y:Int)(r:Int)(W F:World)(hown:Sub F W)(H:qAn.f x y=some r):
    Cr 255 #[.agg #[iv x.f0,iv x.f1],iv y] W (qAn.Post W F r):=by
 have S:=sT hown
 unfold qAn.f at H
 refine ent 9 rfl rfl rfl (fun a E=>?_)
 refine sq fun K1 hK1=>pl0 (plx (t:=216) E S [iv x.f0,iv x.f1] fun b2 u3 hb2 S a E=>plc E (.r 1 1 .nil) (fun a E=>pld (hK1 _ _ (sq fun K4 hK4=>pl0 (plc E (.r 0 1<|.b 1 0 hb2<|.r 2 1<|.nil) (fun a E=>?_))))))
 obtain ⟨t6,h7,H⟩:=bd H
 refine plq E S en161 (qAU.calls x.f0 y _ _ _ S.own.sub h7) fun u5 S a E=>plc E (.r 4 1 .nil) (fun a E=>pld (hK4 _ _ (wp_ret ?_)))
 replace S:=S.tail
 obtain rfl:=si H
 exact rt1 E ⟨_,rfl,_,rfl,S⟩
def qBA.f(x:qA):Option Bool:=some true
def qBA.Post(W F:World)(r:Bool)(v:Value)(w':World):Prop:=∃(F':World),v = .bool r∧Sm W F w' F' []
theorem qBA.calls(x:qA)(r:Bool)(W F:World)(hown:Sub F W)(H:qBA.f x=some r):
    Cr 237 #[.agg #[iv x.f0,iv x.f1,iv x.f2,iv x.f3,.bool x.f4,.bool x.f5]] W (qBA.Post W F r):=by
 have S:=sT hown
 unfold qBA.f at H
 refine ent 3 rfl rfl rfl (fun a E=>?_)
 refine sq fun K1 hK1=>pl0 (plx (t:=104) E S [iv x.f0,iv x.f1,iv x.f2,iv x.f3,.bool x.f4,.bool x.f5] fun b2 u3 hb2 S a E=>plc E (.r 1 1 .nil) (fun a E=>pld (hK1 _ _ (rr E fun a E=>(wp_ret ?_)))))
 replace S:=S.tail
 obtain rfl:=si H
 exact rt1 E ⟨_,rfl,_,rfl,S⟩
def qAo.f(x:qA):Option Int:=some x.f1
def qAo.Post(W F:World)(r:Int)(v:Value)(w':World):Prop:=∃(F':World),v=iv r∧Sm W F w' F' []
theorem qAo.calls(x:qA)(r:Int)(W F:World)(hown:Sub F W)(H:qAo.f x=some r):
    Cr 238 #[.agg #[iv x.f0,iv x.f1,iv x.f2,iv x.f3,.bool x.f4,.bool x.f5]] W (qAo.Post W F r):=by
 have S:=sT hown
 unfold qAo.f at H
 refine ent 5 rfl rfl rfl (fun a E=>?_)
 refine sq fun K1 hK1=>pl0 (plx (t:=104) E S [iv x.f0,iv x.f1,iv x.f2,iv x.f3,.bool x.f4,.bool x.f5] fun b2 u3 hb2 S a E=>plc E (.r 1 1 .nil) (fun a E=>pld (hK1 _ _ (rg E (.r 0 1<|.b 1 1 hb2<|.r 2 1<|.nil) fun a E=>(wp_ret ?_)))))
 replace S:=S.tail
 obtain rfl:=si H
 exact rt1 E ⟨_,rfl,_,rfl,S⟩
def qH.l7:Nat→List qB→Int→Int→Int→Option (Int × Bool)
 | 0,_,_,_,_=>none
 | k+1,x,y,x5,x6=>if x5<x6 then (if 0≤(w64 ((IntKind.u64.wrap (w64 (x5+x6))).fdiv 2))∧(w64 ((IntKind.u64.wrap (w64 (x5+x6))).fdiv 2))<(x.length:Int) then ((qAn.f (nth qB.z x (w64 ((IntKind.u64.wrap (w64 (x5+x6))).fdiv 2))) y).bind fun t22=>(if t22<0 then (qH.l7 k x y (w64 ((w64 ((IntKind.u64.wrap (w64 (x5+x6))).fdiv 2))+1)) x6) else (qH.l7 k x y x5 (w64 ((IntKind.u64.wrap (w64 (x5+x6))).fdiv 2))))) else (none)) else (if x5<(x.length:Int) then (if 0≤x5∧x5<(x.length:Int) then ((qAn.f (nth qB.z x x5) y).bind fun t33=>(some (x5,(t33 == 0)))) else (none)) else (some (x5,false)))
theorem qH.l7_s k x y x5 x6:type_of% (qH.l7.eq_2 x y x5 x6 k):=qH.l7.eq_2 x y x5 x6 k
def qH.f(k:Nat)(x:List qB)(y:Int):Option (Int × Bool):=qH.l7 k x y 0 (x.length:Int)
def qH.Post(W F:World)(r:Int × Bool)(v:Value)(w':World):Prop:=∃(F':World),v = .tuple #[iv r.1,.bool r.2]∧Sm W F w' F' []
theorem qH.calls(k:Nat)(x:List qB)(y:Int)(A0_0:OA)(c0_0:Nat)(r:Int × Bool)(W F:World)(hown:Sub F W)(g0_0:Rd qB.k F A0_0 c0_0 x)(H:qH.f k x y=some r):
    Cr 254 #[.slice A0_0 x.length c0_0,iv y,.func (.func 255) #[] #[]] W (qH.Post W F r):=by
 have S:=sT hown
 unfold qH.f at H
 refine ent 49 rfl rfl rfl (fun a E=>?_)
 refine rr E fun a E=>(rr E fun a E=>(rr E fun a E=>(sq fun K4 hK4=>wp_block ?_)))
 refine wp_loop_ghost (fun kq8 a w'=>∃(G:NV)(x5:Int)(x6:Int),kq8≤k∧Env 49 G a∧At G [(0,.slice A0_0 x.length c0_0),(1,iv y),(2,.func (.func 255) #[] #[]),(8,iv (x.length:Int)),(9,iv x5),(10,iv x6)]∧Sm W F w' F []∧qH.l7 kq8 x y x5 x6=some r) k ⟨_,0,(x.length:Int),Nat.le_refl _,E,.of,S,H⟩ ?_
 rintro kq8 a u10 ⟨G,x5,x6,hkq,E,A,S,H⟩
 obtain _ | k9:=kq8
 exact zz H
 rw [qH.l7_s]at H
 obtain ⟨J,E⟩:=E.at A
 refine sq fun K11 hK11=>rr E fun a E=>(E.ik 17 H (fun c13 E H=>?_) fun c13 E H=>?_)
 refine wp_skip (hK11 _ _ (wp_block (rr E fun a E=>(sq fun K15 hK15=>pl0 ?_))))
 obtain ⟨c16,H⟩:=gd H
 have hE_:=E
 obtain ⟨ad17,rfl⟩:=g0_0.addr c16.1 c16.2
 replace E:=hE_
 obtain ⟨cs19,rfl,hc20⟩:=g0_0.el qB.z (w64 ((IntKind.u64.wrap (w64 (x5+x6))).fdiv 2)) c16.1 c16.2
 refine plc E (.r 0 3<|.x 3 c16<|.cs 4 (S.fcs hc20)<|.r 5 1<|.nil) (fun a E=>?_)
 obtain ⟨t22,h23,H⟩:=bd H
 refine plq E S en255 (qAn.calls (nth qB.z x (w64 ((IntKind.u64.wrap (w64 (x5+x6))).fdiv 2))) y _ _ _ S.own.sub h23) fun u21 S a E=>plc E (.r 7 1 .nil) (fun a E=>pld (hK15 _ _ (E.ik 31 H (fun c24 E H=>?_) fun c24 E H=>?_)))
 refine pl0 (plc E (.r 0 3 .nil) (fun a E=>pld ?_))
 refine qBb ?_
 exact qBc ⟨k9,by omega,_,(w64 ((w64 ((IntKind.u64.wrap (w64 (x5+x6))).fdiv 2))+1)),x6,by omega,E,.of,S,H⟩
 refine pl0 (plc E (.r 0 2 .nil) (fun a E=>pld ?_))
 refine qBb ?_
 exact qBc ⟨k9,by omega,_,x5,(w64 ((IntKind.u64.wrap (w64 (x5+x6))).fdiv 2)),by omega,E,.of,S,H⟩
 refine wp_exit ?_
 refine hK4 _ _ (sq fun K25 hK25=>pl0 (plc E (.r 0 5 .nil) (fun a E=>E.fk 39 H (fun c26 E H=>?_) fun c26 E H=>?_)))
 obtain ⟨c27,H⟩:=gd H
 have hE_:=E
 obtain ⟨ad28,rfl⟩:=g0_0.addr c27.1 c27.2
 replace E:=hE_
 obtain ⟨cs30,rfl,hc31⟩:=g0_0.el qB.z x5 c27.1 c27.2
 refine plc E (.r 5 3<|.x 8 c27<|.cs 9 (S.fcs hc31)<|.r 10 1<|.nil) (fun a E=>?_)
 obtain ⟨t33,h34,H⟩:=bd H
 refine plq E S en255 (qAn.calls (nth qB.z x x5) y _ _ _ S.own.sub h34) fun u32 S a E=>plc E (.r 12 4 .nil) (fun a E=>pld (hK25 _ _ (wp_ret ?_)))
 obtain rfl:=si H
 exact rtN E ⟨_,rfl,_,rfl,S⟩
 refine plc E (.r 5 11 .nil) (fun a E=>pld (hK25 _ _ (wp_ret ?_)))
 obtain rfl:=si H
 exact rtN E ⟨_,rfl,_,rfl,S⟩
end Go.Proofs.YtpohepinmjmbkaaGreat.MX
