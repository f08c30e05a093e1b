import Derived.Test.YthgfhlbjkmjlpaaGreatPG0
namespace Go.Proofs.YthgfhlbjkmjlpaaGreat.PG
open Go Go.RowKit Go.Proofs.YthgfhlbjkmjlpaaGreat.Sl
set_option linter.unusedVariables false
set_option linter.unusedSimpArgs false
set_option maxHeartbeats 4000000
set_option maxRecDepth 100000
mutual
def qW.l7:Nat→qD→Int→Option Bool
 | 0,_,_=>none
 | k+1,x,x6=>if x6<(x.f5.length:Int) then (qW.j15 k x x6 (decide (x6<20))) else (qW.j15 k x x6 false)
def qW.j15:Nat→qD→Int→Bool→Option Bool
 | 0,_,_,_=>none
 | k+1,x,x6,y14=>if y14=true then (if 0≤x6∧x6<(x.f5.length:Int) then (if (((nth qE.z x.f5 x6).f1).length:Int)>20 then (some false) else (qW.l7 k x (w64 (x6+1)))) else (none)) else (qW.l36 k x 0)
def qW.l36:Nat→qD→Int→Option Bool
 | 0,_,_=>none
 | k+1,x,x35=>if x35<(x.f6.length:Int) then (qW.j44 k x x35 (decide (x35<20))) else (qW.j44 k x x35 false)
def qW.j44:Nat→qD→Int→Bool→Option Bool
 | 0,_,_,_=>none
 | k+1,x,x35,y43=>if y43=true then (if 0≤x35∧x35<(x.f6.length:Int) then (if (((nth qC.z x.f6 x35).f1).length:Int)>20 then (some false) else (qW.l65 k x x35 0)) else (none)) else (if (x.f4.length:Int)≤30 then (if (x.f5.length:Int)≤20 then (some (decide ((x.f6.length:Int)≤20))) else (some false)) else (some false))
def qW.l65:Nat→qD→Int→Int→Option Bool
 | 0,_,_,_=>none
 | k+1,x,x35,x64=>if x64<(((nth qC.z x.f6 x35).f1).length:Int) then (if 0≤x64∧x64<(((nth qC.z x.f6 x35).f1).length:Int) then (if (((nth qG.z ((nth qC.z x.f6 x35).f1) x64).f1).length:Int)>20 then (some false) else (qW.l65 k x x35 (w64 (x64+1)))) else (none)) else (qW.l36 k x (w64 (x35+1)))
end
theorem qW.l7_s k x x6:type_of% (qW.l7.eq_2 x x6 k):=qW.l7.eq_2 x x6 k
theorem qW.j15_s k x x6 y14:type_of% (qW.j15.eq_2 x x6 y14 k):=qW.j15.eq_2 x x6 y14 k
theorem qW.l36_s k x x35:type_of% (qW.l36.eq_2 x x35 k):=qW.l36.eq_2 x x35 k
theorem qW.j44_s k x x35 y43:type_of% (qW.j44.eq_2 x x35 y43 k):=qW.j44.eq_2 x x35 y43 k
theorem qW.l65_s k x x35 x64:type_of% (qW.l65.eq_2 x x35 x64 k):=qW.l65.eq_2 x x35 x64 k
def qW.f(k:Nat)(x:qD):Option Bool:=qW.l7 k x 0
def qW.Post(W F:World)(r:Bool)(v:Value)(w':World):Prop:=∃(F':World),v = .bool r∧Sm W F w' F' []
theorem qW.calls(k:Nat)(x:qD)(A0_4:OA)(c0_4:Nat)(A0_5:OA)(c0_5:Nat)(A0_6:OA)(c0_6:Nat)(r:Bool)(W F:World)(hown:Sub F W)(g0_4:Rd qA.k F A0_4 c0_4 x.f4)(g0_5:Rd qE.k F A0_5 c0_5 x.f5)(g0_6:Rd qC.k F A0_6 c0_6 x.f6)(H:qW.f k x=some r):
    Cr 10 #[.agg #[iv x.f0,iv x.f1,iv x.f2,iv x.f3,.slice A0_4 x.f4.length c0_4,.slice A0_5 x.f5.length c0_5,.slice A0_6 x.f6.length c0_6]] W (qW.Post W F r):=by
 have S:=sT hown
 unfold qW.f at H
 refine ent 83 rfl rfl rfl (fun a E=>?_)
 refine sq fun K1 hK1=>pl0 (plx (t:=26) E S [iv x.f0,iv x.f1,iv x.f2,iv x.f3,.slice A0_4 x.f4.length c0_4,.slice A0_5 x.f5.length c0_5,.slice A0_6 x.f6.length c0_6] fun b2 u3 hb2 S a E=>plc E (.r 1 1 .nil) (fun a E=>pld (hK1 _ _ (sq fun K4 hK4=>rr E fun a E=>(wp_block ?_)))))
 refine wp_loop_ghost (fun kq8 a w'=>∃(G:NV)(x6:Int),kq8≤k∧Env 83 G a∧At G [(1,.pointer (pb b2)),(3,iv x6)]∧Sm W F w' F [box b2 #[iv x.f0,iv x.f1,iv x.f2,iv x.f3,.slice A0_4 x.f4.length c0_4,.slice A0_5 x.f5.length c0_5,.slice A0_6 x.f6.length c0_6] 26]∧qW.l7 kq8 x x6=some r) k ⟨_,0,Nat.le_refl _,E,.of,S,H⟩ ?_
 rintro kq8 a u10 ⟨G,x6,hkq,E,A,S,H⟩
 obtain _ | k9:=kq8
 exact zz H
 rw [qW.l7_s]at H
 obtain ⟨J,E⟩:=E.at A
 refine sq fun K11 hK11=>sq fun K12 hK12=>?_
 have J18:∀ kq16,kq16≤k9→∀(G:NV)(y14:Bool)(a:Act)(w':World),Env 83 G a→At G [(1,.pointer (pb b2)),(3,iv x6),(14,.bool y14)]→Sm W F w' F [box b2 #[iv x.f0,iv x.f1,iv x.f2,iv x.f3,.slice A0_4 x.f4.length c0_4,.slice A0_5 x.f5.length c0_5,.slice A0_6 x.f6.length c0_6] 26]→qW.j15 kq16 x x6 y14=some r→K12 a w':=by
  intro kq16 hkq G y14 a u19 E A S H
  obtain _ | k17:=kq16
  exact zz H
  rw [qW.j15_s]at H
  obtain ⟨J,E⟩:=E.at A
  refine hK12 _ _ (E.ib 14 H (fun c20 E H=>?_) fun c20 E H=>?_)
  refine wp_skip (hK11 _ _ (sq fun K21 hK21=>wp_block (sq fun K22 hK22=>pl0 ?_)))
  have hb2:=S.ba 0
  obtain ⟨c23,H⟩:=gd H
  have hE_:=E
  obtain ⟨ad24,rfl⟩:=g0_5.addr c23.1 c23.2
  replace E:=hE_
  obtain ⟨cs26,⟨A28,c29,rfl,g30⟩,hc27⟩:=g0_5.el qE.z x6 c23.1 c23.2
  refine plc E (.r 0 1<|.b 1 5 hb2<|.r 2 1<|.x 3 c23<|.r 4 1<|.c 5 (S.fc hc27 1)<|.r 6 2<|.nil) (fun a E=>pld (hK22 _ _ (E.ik 24 H (fun c31 E H=>?_) fun c31 E H=>?_)))
  refine rr E fun a E=>(wp_ret (qCR (qCQ (qCQ (qCR (qCQ ?_))))))
  replace S:=S.tail
  obtain rfl:=si H
  exact rt1 E ⟨_,rfl,_,rfl,S⟩
  refine wp_skip ?_
  refine qCS ?_
  refine hK21 _ _ (pl0 (plc E (.r 0 3 .nil) (fun a E=>pld ?_)))
  exact qCT ⟨k17,by omega,_,(w64 (x6+1)),by omega,E,.of,S,H⟩
  refine wp_exit ?_
  refine hK4 _ _ (sq fun K33 hK33=>rr E fun a E=>(wp_block ?_))
  refine wp_loop_ghost (fun kq37 a w'=>∃(G:NV)(x35:Int),kq37≤k17∧Env 83 G a∧At G [(1,.pointer (pb b2)),(4,iv x35)]∧Sm W F w' F [box b2 #[iv x.f0,iv x.f1,iv x.f2,iv x.f3,.slice A0_4 x.f4.length c0_4,.slice A0_5 x.f5.length c0_5,.slice A0_6 x.f6.length c0_6] 26]∧qW.l36 kq37 x x35=some r) k17 ⟨_,0,Nat.le_refl _,E,.of,S,H⟩ ?_
  rintro kq37 a u39 ⟨G,x35,hkq,E,A,S,H⟩
  obtain _ | k38:=kq37
  exact zz H
  rw [qW.l36_s]at H
  obtain ⟨J,E⟩:=E.at A
  refine sq fun K40 hK40=>sq fun K41 hK41=>?_
  have J47:∀ kq45,kq45≤k38→∀(G:NV)(y43:Bool)(a:Act)(w':World),Env 83 G a→At G [(1,.pointer (pb b2)),(4,iv x35),(33,.bool y43)]→Sm W F w' F [box b2 #[iv x.f0,iv x.f1,iv x.f2,iv x.f3,.slice A0_4 x.f4.length c0_4,.slice A0_5 x.f5.length c0_5,.slice A0_6 x.f6.length c0_6] 26]→qW.j44 kq45 x x35 y43=some r→K41 a w':=by
   intro kq45 hkq G y43 a u48 E A S H
   obtain _ | k46:=kq45
   exact zz H
   rw [qW.j44_s]at H
   obtain ⟨J,E⟩:=E.at A
   refine hK41 _ _ (E.ib 33 H (fun c49 E H=>?_) fun c49 E H=>?_)
   refine wp_skip (hK40 _ _ (sq fun K50 hK50=>wp_block (sq fun K51 hK51=>sq fun K52 hK52=>pl0 ?_)))
   have hb2:=S.ba 0
   obtain ⟨c53,H⟩:=gd H
   have hE_:=E
   obtain ⟨ad54,rfl⟩:=g0_6.addr c53.1 c53.2
   replace E:=hE_
   obtain ⟨cs56,⟨A58,c59,rfl,g60⟩,hc57⟩:=g0_6.el qC.z x35 c53.1 c53.2
   refine plc E (.r 0 1<|.b 1 6 hb2<|.r 2 1<|.x 3 c53<|.r 4 1<|.c 5 (S.fc hc57 1)<|.r 6 2<|.nil) (fun a E=>pld (hK52 _ _ (E.ik 43 H (fun c61 E H=>?_) fun c61 E H=>?_)))
   refine rr E fun a E=>(wp_ret (qCQ (qCR (qCQ (qCQ (qCR (qCQ ?_)))))))
   replace S:=S.tail
   obtain rfl:=si H
   exact rt1 E ⟨_,rfl,_,rfl,S⟩
   refine wp_skip (hK51 _ _ (rr E fun a E=>(wp_block ?_)))
   refine wp_loop_ghost (fun kq66 a w'=>∃(G:NV)(x64:Int),kq66≤k46∧Env 83 G a∧At G [(1,.pointer (pb b2)),(4,iv x35),(5,iv x64)]∧Sm W F w' F [box b2 #[iv x.f0,iv x.f1,iv x.f2,iv x.f3,.slice A0_4 x.f4.length c0_4,.slice A0_5 x.f5.length c0_5,.slice (some ad54) x.f6.length c0_6] 26]∧qW.l65 kq66 x x35 x64=some r) k46 ⟨_,0,Nat.le_refl _,E,.of,S,H⟩ ?_
   rintro kq66 a u68 ⟨G,x64,hkq,E,A,S,H⟩
   obtain _ | k67:=kq66
   exact zz H
   rw [qW.l65_s]at H
   obtain ⟨J,E⟩:=E.at A
   refine sq fun K69 hK69=>sq fun K70 hK70=>pl0 ?_
   have hb2:=S.ba 0
   obtain ⟨cs72,⟨A74,c75,rfl,g76⟩,hc73⟩:=g0_6.el qC.z x35 c53.1 c53.2
   refine plc E (.r 0 2<|.b 2 6 hb2<|.r 3 1<|.x 4 c53<|.r 5 1<|.c 6 (S.fc hc73 1)<|.r 7 2<|.nil) (fun a E=>pld (hK70 _ _ (E.ik 52 H (fun c77 E H=>?_) fun c77 E H=>?_)))
   refine wp_skip (hK69 _ _ (sq fun K78 hK78=>wp_block (sq fun K79 hK79=>pl0 ?_)))
   obtain ⟨c83,H⟩:=gd H
   have hE_:=E
   obtain ⟨ad84,rfl⟩:=g76.addr c83.1 c83.2
   replace E:=hE_
   obtain ⟨cs86,⟨A88,c89,rfl,g90⟩,hc87⟩:=g76.el qG.z x64 c83.1 c83.2
   refine plc E (.r 0 1<|.b 1 6 hb2<|.r 2 1<|.x 3 c53<|.r 4 1<|.c 5 (S.fc hc73 1)<|.r 6 1<|.x 7 c83<|.r 8 1<|.c 9 (S.fc hc87 1)<|.r 10 2<|.nil) (fun a E=>pld (hK79 _ _ (E.ik 66 H (fun c91 E H=>?_) fun c91 E H=>?_)))
   refine rr E fun a E=>(wp_ret (qCR (qCQ (qCQ (qCR (qCR (qCQ (qCQ (qCR (qCQ ?_))))))))))
   replace S:=S.tail
   obtain rfl:=si H
   exact rt1 E ⟨_,rfl,_,rfl,S⟩
   refine wp_skip ?_
   refine qCS ?_
   refine hK78 _ _ (pl0 (plc E (.r 0 3 .nil) (fun a E=>pld ?_)))
   exact qCT ⟨k67,by omega,_,(w64 (x64+1)),by omega,E,.of,S,H⟩
   refine wp_exit ?_
   refine hK50 _ _ (pl0 (plc E (.r 0 3 .nil) (fun a E=>pld ?_)))
   exact qCT ⟨k67,by omega,_,(w64 (x35+1)),by omega,E,.of,S,H⟩
   refine wp_exit ?_
   refine hK33 _ _ (sq fun K93 hK93=>pl0 ?_)
   have hb2:=S.ba 0
   refine plc E (.r 0 1<|.b 1 4 hb2<|.r 2 3<|.nil) (fun a E=>E.fk 71 H (fun c94 E H=>?_) fun c94 E H=>?_)
   refine plc E (.r 5 1<|.b 6 5 hb2<|.r 7 4<|.nil) (fun a E=>E.fk 77 H (fun c95 E H=>?_) fun c95 E H=>?_)
   refine plc E (.r 11 1<|.b 12 6 hb2<|.r 13 4<|.nil) (fun a E=>pld (hK93 _ _ (wp_ret ?_)))
   replace S:=S.tail
   obtain rfl:=si H
   exact rt1 E ⟨_,rfl,_,rfl,S⟩
   refine plc E (.r 11 6 .nil) (fun a E=>pld (hK93 _ _ (wp_ret ?_)))
   replace S:=S.tail
   obtain rfl:=si H
   exact rt1 E ⟨_,rfl,_,rfl,S⟩
   refine plc E (.r 5 12 .nil) (fun a E=>pld (hK93 _ _ (wp_ret ?_)))
   replace S:=S.tail
   obtain rfl:=si H
   exact rt1 E ⟨_,rfl,_,rfl,S⟩
  refine pl0 (plc E (.r 0 2<|.b 2 6 (S.ba 0)<|.r 3 3<|.nil) (fun a E=>E.fk 30 H (fun c42 E H=>?_) fun c42 E H=>?_))
  refine plc E (.r 6 3 .nil) (fun a E=>pld ?_)
  exact J47 _ (by omega) _ (decide (x35<20)) _ _ E .of S H
  refine plc E (.r 6 3 .nil) (fun a E=>pld ?_)
  exact J47 _ (by omega) _ false _ _ E .of S H
 refine pl0 (plc E (.r 0 2<|.b 2 5 (S.ba 0)<|.r 3 3<|.nil) (fun a E=>E.fk 11 H (fun c13 E H=>?_) fun c13 E H=>?_))
 refine plc E (.r 6 3 .nil) (fun a E=>pld ?_)
 exact J18 _ (by omega) _ (decide (x6<20)) _ _ E .of S H
 refine plc E (.r 6 3 .nil) (fun a E=>pld ?_)
 exact J18 _ (by omega) _ false _ _ E .of S H
def qAF.l7:Nat→List qA→Int→Int→Option (qA × Bool)
 | 0,_,_,_=>none
 | k+1,x,y,x6=>if x6<(x.length:Int) then (if 0≤x6∧x6<(x.length:Int) then (if (nth qA.z x x6).f0=y then (some ((nth qA.z x x6),true)) else (qAF.l7 k x y (w64 (x6+1)))) else (none)) else (some ((⟨0,0,0,0,false,false⟩:qA),false))
theorem qAF.l7_s k x y x6:type_of% (qAF.l7.eq_2 x y x6 k):=qAF.l7.eq_2 x y x6 k
def qAF.f(k:Nat)(x:List qA)(y:Int):Option (qA × Bool):=qAF.l7 k x y 0
def qAF.Post(W F:World)(r:qA × Bool)(v:Value)(w':World):Prop:=∃(F':World),v = .tuple #[.agg #[iv r.1.f0,iv r.1.f1,iv r.1.f2,iv r.1.f3,.bool r.1.f4,.bool r.1.f5],.bool r.2]∧Sm W F w' F' []
theorem qAF.calls(k:Nat)(x:List qA)(y:Int)(A0_0:OA)(c0_0:Nat)(r:qA × Bool)(W F:World)(hown:Sub F W)(g0_0:Rd qA.k F A0_0 c0_0 x)(H:qAF.f k x y=some r):
    Cr 49 #[.slice A0_0 x.length c0_0,iv y] W (qAF.Post W F r):=by
 have S:=sT hown
 unfold qAF.f at H
 refine ent 25 rfl rfl rfl (fun a E=>?_)
 refine sq fun K1 hK1=>pl0 (pla (t:=68) E S [iv 0,iv 0,iv 0,iv 0,.bool false,.bool false] fun b2 u3 hb2 S a E=>plc E (.r 1 1 .nil) (fun a E=>pld (hK1 _ _ (sq fun K4 hK4=>rr E fun a E=>(wp_block ?_)))))
 refine wp_loop_ghost (fun kq8 a w'=>∃(G:NV)(x6:Int),kq8≤k∧Env 25 G a∧At G [(0,.slice A0_0 x.length c0_0),(1,iv y),(4,.pointer (pb b2)),(6,iv x6)]∧Sm W F w' F [box b2 #[iv 0,iv 0,iv 0,iv 0,.bool false,.bool false] 68]∧qAF.l7 kq8 x y x6=some r) k ⟨_,0,Nat.le_refl _,E,.of,S,H⟩ ?_
 rintro kq8 a u10 ⟨G,x6,hkq,E,A,S,H⟩
 obtain _ | k9:=kq8
 exact zz H
 rw [qAF.l7_s]at H
 obtain ⟨J,E⟩:=E.at A
 refine sq fun K11 hK11=>rr E fun a E=>(E.ik 10 H (fun c13 E H=>?_) fun c13 E H=>?_)
 refine wp_skip (hK11 _ _ (sq fun K14 hK14=>wp_block (sq fun K15 hK15=>pl0 ?_)))
 obtain ⟨c16,H⟩:=gd H
 have hE_:=E
 obtain ⟨ad17,rfl⟩:=g0_0.addr c16.1 c16.2
 replace E:=hE_
 obtain ⟨cs19,rfl,hc20⟩:=g0_0.el qA.z x6 c16.1 c16.2
 refine plc E (.r 0 2<|.x 2 c16<|.r 3 1<|.c 4 (S.fc hc20 0)<|.r 5 2<|.nil) (fun a E=>pld (hK15 _ _ (E.ik 19 H (fun c21 E H=>?_) fun c21 E H=>?_)))
 refine sq fun K22 hK22=>pl0 (plc E (.r 0 2<|.x 2 c16<|.cs 3 (S.fcs hc20)<|.nil) (fun a E=>pls E S [iv ((nth qA.z x x6).f0),iv ((nth qA.z x x6).f1),iv ((nth qA.z x x6).f2),iv ((nth qA.z x x6).f3),.bool ((nth qA.z x x6).f4),.bool ((nth qA.z x x6).f5)] fun u26 hb2 S a E=>plc E (.r 5 1 .nil) (fun a E=>pld (hK22 _ _ (wp_ret (qCR (qCQ (qCQ (qCR (qCQ ?_))))))))))
 replace S:=S.tail
 obtain rfl:=si H
 exact rtm E (.b hb2 ag68 sz68 (.t .nil)) ⟨_,rfl,_,rfl,S⟩
 refine wp_skip ?_
 refine qCS ?_
 refine hK14 _ _ (pl0 (plc E (.r 0 3 .nil) (fun a E=>pld ?_)))
 exact qCT ⟨k9,by omega,_,(w64 (x6+1)),by omega,E,.of,S,H⟩
 refine wp_exit ?_
 refine hK4 _ _ (sq fun K27 hK27=>pl0 (plc E (.r 0 1 .nil) (fun a E=>pls E S [iv 0,iv 0,iv 0,iv 0,.bool false,.bool false] fun u28 hb2 S a E=>plc E (.r 2 1 .nil) (fun a E=>pld (hK27 _ _ (wp_ret ?_))))))
 replace S:=S.tail
 obtain rfl:=si H
 exact rtm E (.b hb2 ag68 sz68 (.t .nil)) ⟨_,rfl,_,rfl,S⟩
mutual
def qo.l5:Nat→List qA→List Int→Int→Option Bool
 | 0,_,_,_=>none
 | k+1,x,y,x4=>if x4<(y.length:Int) then (if 0≤x4∧x4<(y.length:Int) then ((qAF.f k x (nth 0 y x4)).bind fun t20=>(if t20.2=true then (qo.l31 k x y x4 t20 0) else (some false))) else (none)) else (some true)
def qo.l31:Nat→List qA→List Int→Int→qA × Bool→Int→Option Bool
 | 0,_,_,_,_,_=>none
 | k+1,x,y,x4,t20,x30=>if x30<x4 then (if 0≤x30∧x30<(y.length:Int) then ((qAF.f k x (nth 0 y x30)).bind fun t45=>(if t20.1.f1=t45.1.f1 then (some false) else (qo.l31 k x y x4 t20 (w64 (x30+1))))) else (none)) else (qo.l5 k x y (w64 (x4+1)))
end
theorem qo.l5_s k x y x4:type_of% (qo.l5.eq_2 x y x4 k):=qo.l5.eq_2 x y x4 k
theorem qo.l31_s k x y x4 t20 x30:type_of% (qo.l31.eq_2 x y x4 t20 x30 k):=qo.l31.eq_2 x y x4 t20 x30 k
def qo.f(k:Nat)(x:List qA)(y:List Int):Option Bool:=qo.l5 k x y 0
def qo.Post(W F:World)(r:Bool)(v:Value)(w':World):Prop:=∃(F':World),v = .bool r∧Sm W F w' F' []
theorem qo.calls(k:Nat)(x:List qA)(y:List Int)(A0_0:OA)(c0_0:Nat)(A1_0:OA)(c1_0:Nat)(r:Bool)(W F:World)(hown:Sub F W)(g0_0:Rd qA.k F A0_0 c0_0 x)(g1_0:Rd ki F A1_0 c1_0 y)(H:qo.f k x y=some r):
    Cr 17 #[.slice A0_0 x.length c0_0,.slice A1_0 y.length c1_0] W (qo.Post W F r):=by
 have S:=sT hown
 unfold qo.f at H
 refine ent 47 rfl rfl rfl (fun a E=>?_)
 refine rr E fun a E=>(sq fun K2 hK2=>rr E fun a E=>(wp_block ?_))
 refine wp_loop_ghost (fun kq6 a w'=>∃(G:NV)(x4:Int),kq6≤k∧Env 47 G a∧At G [(0,.slice A0_0 x.length c0_0),(1,.slice A1_0 y.length c1_0),(5,iv x4)]∧Sm W F w' F []∧qo.l5 kq6 x y x4=some r) k ⟨_,0,Nat.le_refl _,E,.of,S,H⟩ ?_
 rintro kq6 a u8 ⟨G,x4,hkq,E,A,S,H⟩
 obtain _ | k7:=kq6
 exact zz H
 rw [qo.l5_s]at H
 obtain ⟨J,E⟩:=E.at A
 refine sq fun K9 hK9=>rr E fun a E=>(E.ik 14 H (fun c11 E H=>?_) fun c11 E H=>?_)
 refine wp_skip (hK9 _ _ (sq fun K12 hK12=>wp_block (sq fun K13 hK13=>pl0 ?_)))
 obtain ⟨c14,H⟩:=gd H
 have hE_:=E
 obtain ⟨ad15,rfl⟩:=g1_0.addr c14.1 c14.2
 replace E:=hE_
 obtain ⟨cs17,rfl,hc18⟩:=g1_0.el 0 x4 c14.1 c14.2
 refine plc E (.r 0 3<|.x 3 c14<|.c 4 (S.fc hc18 0)<|.nil) (fun a E=>?_)
 obtain ⟨t20,h21,H⟩:=bd H
 refine plq E S en49 (qAF.calls k7 x (nth 0 y x4) _ _ _ _ _ S.own.sub g0_0 h21) fun u19 S a E=>plc E (.r 6 3 .nil) (fun a E=>pla (t:=68) E S [iv 0,iv 0,iv 0,iv 0,.bool false,.bool false] fun b22 u23 hb22 S a E=>pls E S [iv t20.1.f0,iv t20.1.f1,iv t20.1.f2,iv t20.1.f3,.bool t20.1.f4,.bool t20.1.f5] fun u24 hb22 S a E=>plc E (.r 11 1 .nil) (fun a E=>pld (hK13 _ _ (sq fun K25 hK25=>rr E fun a E=>(E.ibn 27 H (fun c27 E H=>?_) fun c27 E H=>?_)))))
 refine wp_skip (hK25 _ _ (rr E fun a E=>(wp_block ?_)))
 refine wp_loop_ghost (fun kq32 a w'=>∃(G:NV)(x30:Int),kq32≤k7∧Env 47 G a∧At G [(0,.slice A0_0 x.length c0_0),(1,.slice (some ad15) y.length c1_0),(5,iv x4),(6,.pointer (pb b22)),(8,iv x30)]∧Sm W F w' F [box b22 #[iv t20.1.f0,iv t20.1.f1,iv t20.1.f2,iv t20.1.f3,.bool t20.1.f4,.bool t20.1.f5] 68]∧qo.l31 kq32 x y x4 t20 x30=some r) k7 ⟨_,0,Nat.le_refl _,E,.of,S,H⟩ ?_
 rintro kq32 a u34 ⟨G,x30,hkq,E,A,S,H⟩
 obtain _ | k33:=kq32
 exact zz H
 rw [qo.l31_s]at H
 obtain ⟨J,E⟩:=E.at A
 refine sq fun K35 hK35=>rr E fun a E=>(E.ik 30 H (fun c37 E H=>?_) fun c37 E H=>?_)
 refine wp_skip (hK35 _ _ (sq fun K38 hK38=>wp_block (sq fun K39 hK39=>pl0 ?_)))
 obtain ⟨c40,H⟩:=gd H
 obtain ⟨cs42,rfl,hc43⟩:=g1_0.el 0 x30 c40.1 c40.2
 refine plc E (.r 0 3<|.x 3 c40<|.c 4 (S.fc hc43 0)<|.nil) (fun a E=>?_)
 obtain ⟨t45,h46,H⟩:=bd H
 refine plq E S en49 (qAF.calls k33 x (nth 0 y x30) _ _ _ _ _ S.own.sub g0_0 h46) fun u44 S a E=>plc E (.r 6 3 .nil) (fun a E=>pla (t:=68) E S [iv 0,iv 0,iv 0,iv 0,.bool false,.bool false] fun b47 u48 hb47 S a E=>pls E S [iv t45.1.f0,iv t45.1.f1,iv t45.1.f2,iv t45.1.f3,.bool t45.1.f4,.bool t45.1.f5] fun u49 hb47 S a E=>plc E (.r 11 1 .nil) (fun a E=>pld (hK39 _ _ (rg E (.r 0 1<|.b 1 1 (S.ba 1)<|.r 2 1<|.b 3 1 hb47<|.r 4 1<|.nil) fun a E=>(E.ik 46 H (fun c51 E H=>?_) fun c51 E H=>?_)))))
 refine rr E fun a E=>(wp_ret (qCR (qCQ (qCQ (qCR (qCR (qCQ (qCQ (qCR (qCQ ?_))))))))))
 replace S:=S.pm [] 2
 obtain rfl:=si H
 exact rt1 E ⟨_,rfl,_,rfl,S⟩
 refine wp_skip ?_
 refine qCS ?_
 refine hK38 _ _ (pl0 (plc E (.r 0 3 .nil) (fun a E=>pld ?_)))
 replace S:=S.tail
 exact qCT ⟨k33,by omega,_,(w64 (x30+1)),by omega,E,.of,S,H⟩
 refine wp_exit ?_
 refine hK12 _ _ (pl0 (plc E (.r 0 3 .nil) (fun a E=>pld ?_)))
 replace S:=S.tail
 exact qCT ⟨k33,by omega,_,(w64 (x4+1)),by omega,E,.of,S,H⟩
 refine rr E fun a E=>(wp_ret (qCQ (qCR (qCQ (qCQ (qCR (qCQ ?_)))))))
 replace S:=S.tail
 obtain rfl:=si H
 exact rt1 E ⟨_,rfl,_,rfl,S⟩
 refine wp_exit ?_
 refine hK2 _ _ (rr E fun a E=>(wp_ret ?_))
 obtain rfl:=si H
 exact rt1 E ⟨_,rfl,_,rfl,S⟩
mutual
def qm.l5:Nat→List qA→Int→Option Bool
 | 0,_,_=>none
 | k+1,x,x4=>if x4<(x.length:Int) then (if 0≤x4∧x4<(x.length:Int) then (if (nth qA.z x x4).f0<1 then (qm.j37 k x x4 true) else (if (nth qA.z x x4).f0>999 then (qm.j37 k x x4 true) else (if (nth qA.z x x4).f1<1 then (qm.j37 k x x4 true) else (if (nth qA.z x x4).f1>9 then (qm.j37 k x x4 true) else (if (nth qA.z x x4).f2<1 then (qm.j37 k x x4 true) else (if (nth qA.z x x4).f2>9 then (qm.j37 k x x4 true) else (if (nth qA.z x x4).f3<0 then (qm.j37 k x x4 true) else (if (nth qA.z x x4).f3>65536 then (qm.j37 k x x4 true) else (if x4>0 then (if 0≤(w64 (x4 - 1))∧(w64 (x4 - 1))<(x.length:Int) then (qm.j37 k x x4 (decide ((nth qA.z x (w64 (x4 - 1))).f0≥(nth qA.z x x4).f0))) else (none)) else (qm.j37 k x x4 false)))))))))) else (none)) else (some (decide ((x.length:Int)≤12)))
def qm.j37:Nat→List qA→Int→Bool→Option Bool
 | 0,_,_,_=>none
 | k+1,x,x4,y36=>if y36=true then (some false) else (qm.l5 k x (w64 (x4+1)))
end
theorem qm.l5_s k x x4:type_of% (qm.l5.eq_2 x x4 k):=qm.l5.eq_2 x x4 k
theorem qm.j37_s k x x4 y36:type_of% (qm.j37.eq_2 x x4 y36 k):=qm.j37.eq_2 x x4 y36 k
def qm.f(k:Nat)(x:List qA):Option Bool:=qm.l5 k x 0
def qm.Post(W F:World)(r:Bool)(v:Value)(w':World):Prop:=∃(F':World),v = .bool r∧Sm W F w' F' []
theorem qm.calls(k:Nat)(x:List qA)(A0_0:OA)(c0_0:Nat)(r:Bool)(W F:World)(hown:Sub F W)(g0_0:Rd qA.k F A0_0 c0_0 x)(H:qm.f k x=some r):
    Cr 50 #[.slice A0_0 x.length c0_0] W (qm.Post W F r):=by
 have S:=sT hown
 unfold qm.f at H
 refine ent 71 rfl rfl rfl (fun a E=>?_)
 refine rr E fun a E=>(sq fun K2 hK2=>rr E fun a E=>(wp_block ?_))
 refine wp_loop_ghost (fun kq6 a w'=>∃(G:NV)(x4:Int),kq6≤k∧Env 71 G a∧At G [(0,.slice A0_0 x.length c0_0),(3,iv x4)]∧Sm W F w' F []∧qm.l5 kq6 x x4=some r) k ⟨_,0,Nat.le_refl _,E,.of,S,H⟩ ?_
 rintro kq6 a u8 ⟨G,x4,hkq,E,A,S,H⟩
 obtain _ | k7:=kq6
 exact zz H
 rw [qm.l5_s]at H
 obtain ⟨J,E⟩:=E.at A
 refine sq fun K9 hK9=>rr E fun a E=>(E.ik 8 H (fun c11 E H=>?_) fun c11 E H=>?_)
 refine wp_skip (hK9 _ _ (sq fun K12 hK12=>wp_block (sq fun K13 hK13=>pl0 ?_)))
 obtain ⟨c14,H⟩:=gd H
 have hE_:=E
 obtain ⟨ad15,rfl⟩:=g0_0.addr c14.1 c14.2
 replace E:=hE_
 obtain ⟨cs17,rfl,hc18⟩:=g0_0.el qA.z x4 c14.1 c14.2
 refine plc E (.r 0 2<|.x 2 c14<|.cs 3 (S.fcs hc18)<|.nil) (fun a E=>pla (t:=68) E S [iv 0,iv 0,iv 0,iv 0,.bool false,.bool false] fun b19 u20 hb19 S a E=>pls E S [iv ((nth qA.z x x4).f0),iv ((nth qA.z x x4).f1),iv ((nth qA.z x x4).f2),iv ((nth qA.z x x4).f3),.bool ((nth qA.z x x4).f4),.bool ((nth qA.z x x4).f5)] fun u21 hb19 S a E=>pld (hK13 _ _ (sq fun K22 hK22=>?_)))
 have J40:∀ kq38,kq38≤k7→∀(G:NV)(y36:Bool)(a:Act)(w':World),Env 71 G a→At G [(0,.slice (some ad15) x.length c0_0),(3,iv x4),(67,.bool y36)]→Sm W F w' F [box b19 #[iv ((nth qA.z x x4).f0),iv ((nth qA.z x x4).f1),iv ((nth qA.z x x4).f2),iv ((nth qA.z x x4).f3),.bool ((nth qA.z x x4).f4),.bool ((nth qA.z x x4).f5)] 68]→qm.j37 kq38 x x4 y36=some r→K22 a w':=by
  intro kq38 hkq G y36 a u41 E A S H
  obtain _ | k39:=kq38
  exact zz H
  rw [qm.j37_s]at H
  obtain ⟨J,E⟩:=E.at A
  refine hK22 _ _ (E.ib 67 H (fun c42 E H=>?_) fun c42 E H=>?_)
  refine rr E fun a E=>(wp_ret (qCR (qCQ (qCQ (qCR (qCQ ?_))))))
  replace S:=S.tail
  obtain rfl:=si H
  exact rt1 E ⟨_,rfl,_,rfl,S⟩
  refine wp_skip ?_
  refine qCS ?_
  refine hK12 _ _ (pl0 (plc E (.r 0 3 .nil) (fun a E=>pld ?_)))
  replace S:=S.tail
  exact qCT ⟨k39,by omega,_,(w64 (x4+1)),by omega,E,.of,S,H⟩
 refine drawn 53 ⟨[],[],fun q=>False⟩ mixed rfl (by kernel_rfl) (fun hst=>?_)
 replace S:=S.drew
 have hb19:=S.ba 0
 refine mny 49 hst E (.r 0 1<|.b 1 0 hb19<|.r 2 2<|.nil) (fun a E=>?_)
 refine E.fk 18 H (fun c23 E H=>?_) fun c23 E H=>?_
 refine mny 0 hst E (.r 4 49 .nil) (fun a E=>?_)
 refine dn ?_
 exact J40 _ (by omega) _ true _ _ E .of S H
 refine mny 44 hst E (.r 4 1<|.b 5 0 hb19<|.r 6 3<|.nil) (fun a E=>?_)
 refine E.fk 23 H (fun c24 E H=>?_) fun c24 E H=>?_
 refine mny 0 hst E (.r 9 44 .nil) (fun a E=>?_)
 refine dn ?_
 exact J40 _ (by omega) _ true _ _ E .of S H
 refine mny 39 hst E (.r 9 1<|.b 10 1 hb19<|.r 11 3<|.nil) (fun a E=>?_)
 refine E.fk 28 H (fun c25 E H=>?_) fun c25 E H=>?_
 refine mny 0 hst E (.r 14 39 .nil) (fun a E=>?_)
 refine dn ?_
 exact J40 _ (by omega) _ true _ _ E .of S H
 refine mny 34 hst E (.r 14 1<|.b 15 1 hb19<|.r 16 3<|.nil) (fun a E=>?_)
 refine E.fk 33 H (fun c26 E H=>?_) fun c26 E H=>?_
 refine mny 0 hst E (.r 19 34 .nil) (fun a E=>?_)
 refine dn ?_
 exact J40 _ (by omega) _ true _ _ E .of S H
 refine mny 29 hst E (.r 19 1<|.b 20 2 hb19<|.r 21 3<|.nil) (fun a E=>?_)
 refine E.fk 38 H (fun c27 E H=>?_) fun c27 E H=>?_
 refine mny 0 hst E (.r 24 29 .nil) (fun a E=>?_)
 refine dn ?_
 exact J40 _ (by omega) _ true _ _ E .of S H
 refine mny 24 hst E (.r 24 1<|.b 25 2 hb19<|.r 26 3<|.nil) (fun a E=>?_)
 refine E.fk 43 H (fun c28 E H=>?_) fun c28 E H=>?_
 refine mny 0 hst E (.r 29 24 .nil) (fun a E=>?_)
 refine dn ?_
 exact J40 _ (by omega) _ true _ _ E .of S H
 refine mny 19 hst E (.r 29 1<|.b 30 3 hb19<|.r 31 3<|.nil) (fun a E=>?_)
 refine E.fk 48 H (fun c29 E H=>?_) fun c29 E H=>?_
 refine mny 0 hst E (.r 34 19 .nil) (fun a E=>?_)
 refine dn ?_
 exact J40 _ (by omega) _ true _ _ E .of S H
 refine mny 14 hst E (.r 34 1<|.b 35 3 hb19<|.r 36 3<|.nil) (fun a E=>?_)
 refine E.fk 53 H (fun c30 E H=>?_) fun c30 E H=>?_
 refine mny 0 hst E (.r 39 14 .nil) (fun a E=>?_)
 refine dn ?_
 exact J40 _ (by omega) _ true _ _ E .of S H
 refine mny 11 hst E (.r 39 3 .nil) (fun a E=>?_)
 refine E.fk 56 H (fun c31 E H=>?_) fun c31 E H=>?_
 obtain ⟨c32,H⟩:=gd H
 obtain ⟨cs34,rfl,hc35⟩:=g0_0.el qA.z (w64 (x4 - 1)) c32.1 c32.2
 refine mny 0 hst E (.r 42 3<|.x 45 c32<|.r 46 1<|.c 47 (S.fc hc35 0)<|.r 48 1<|.b 49 0 hb19<|.r 50 3<|.nil) (fun a E=>?_)
 refine dn ?_
 exact J40 _ (by omega) _ (decide ((nth qA.z x (w64 (x4 - 1))).f0≥(nth qA.z x x4).f0)) _ _ E .of S H
 refine mny 0 hst E (.r 42 11 .nil) (fun a E=>?_)
 refine dn ?_
 exact J40 _ (by omega) _ false _ _ E .of S H
 refine wp_exit ?_
 refine hK2 _ _ (rr E fun a E=>(wp_ret ?_))
 obtain rfl:=si H
 exact rt1 E ⟨_,rfl,_,rfl,S⟩
def qAE.l9:Nat→List Int→List Int→Int→Option Bool
 | 0,_,_,_=>none
 | k+1,x,y,x8=>if x8<(x.length:Int) then (if 0≤x8∧x8<(x.length:Int) then (if 0≤x8∧x8<(y.length:Int) then (if (nth 0 x x8)=(nth 0 y x8) then (qAE.l9 k x y (w64 (x8+1))) else (some false)) else (none)) else (none)) else (some true)
theorem qAE.l9_s k x y x8:type_of% (qAE.l9.eq_2 x y x8 k):=qAE.l9.eq_2 x y x8 k
def qAE.f(k:Nat)(x:List Int)(y:List Int):Option Bool:=if (x.length:Int)=(y.length:Int) then (qAE.l9 k x y 0) else (some false)
def qAE.Post(W F:World)(r:Bool)(v:Value)(w':World):Prop:=∃(F':World),v = .bool r∧Sm W F w' F' []
theorem qAE.calls(k:Nat)(x:List Int)(y:List Int)(A0_0:OA)(c0_0:Nat)(A1_0:OA)(c1_0:Nat)(r:Bool)(W F:World)(hown:Sub F W)(g0_0:Rd ki F A0_0 c0_0 x)(g1_0:Rd ki F A1_0 c1_0 y)(H:qAE.f k x y=some r):
    Cr 23 #[.slice A0_0 x.length c0_0,.slice A1_0 y.length c1_0] W (qAE.Post W F r):=by
 have S:=sT hown
 unfold qAE.f at H
 refine ent 26 rfl rfl rfl (fun a E=>?_)
 refine rr E fun a E=>(sq fun K2 hK2=>rr E fun a E=>(E.ikn 10 H (fun c4 E H=>?_) fun c4 E H=>?_))
 refine wp_skip (hK2 _ _ (sq fun K6 hK6=>rr E fun a E=>(wp_block ?_)))
 refine wp_loop_ghost (fun kq10 a w'=>∃(G:NV)(x8:Int),kq10≤k∧Env 26 G a∧At G [(0,.slice A0_0 x.length c0_0),(1,.slice A1_0 y.length c1_0),(5,iv x8)]∧Sm W F w' F []∧qAE.l9 kq10 x y x8=some r) k ⟨_,0,Nat.le_refl _,E,.of,S,H⟩ ?_
 rintro kq10 a u12 ⟨G,x8,hkq,E,A,S,H⟩
 obtain _ | k11:=kq10
 exact zz H
 rw [qAE.l9_s]at H
 obtain ⟨J,E⟩:=E.at A
 refine sq fun K13 hK13=>rr E fun a E=>(E.ik 14 H (fun c15 E H=>?_) fun c15 E H=>?_)
 refine wp_skip (hK13 _ _ (sq fun K16 hK16=>wp_block (sq fun K17 hK17=>?_)))
 refine drawn 9 ⟨[],[],fun q=>False⟩ mixed rfl (by kernel_rfl) (fun hst=>?_)
 replace S:=S.drew
 obtain ⟨c18,H⟩:=gd H
 have hE_:=E
 obtain ⟨ad19,rfl⟩:=g0_0.addr c18.1 c18.2
 replace E:=hE_
 obtain ⟨cs21,rfl,hc22⟩:=g0_0.el 0 x8 c18.1 c18.2
 obtain ⟨c23,H⟩:=gd H
 have hE_:=E
 obtain ⟨ad24,rfl⟩:=g1_0.addr c23.1 c23.2
 replace E:=hE_
 obtain ⟨cs26,rfl,hc27⟩:=g1_0.el 0 x8 c23.1 c23.2
 refine mny 0 hst E (.r 0 2<|.x 2 c18<|.c 3 (S.fc hc22 0)<|.r 4 2<|.x 6 c23<|.c 7 (S.fc hc27 0)<|.r 8 1<|.nil) (fun a E=>?_)
 refine dn ?_
 refine hK17 _ _ (E.ikn 25 H (fun c28 E H=>?_) fun c28 E H=>?_)
 refine wp_skip ?_
 refine qCS ?_
 refine hK16 _ _ (pl0 (plc E (.r 0 3 .nil) (fun a E=>pld ?_)))
 exact qCT ⟨k11,by omega,_,(w64 (x8+1)),by omega,E,.of,S,H⟩
 refine rr E fun a E=>(wp_ret (qCR (qCQ (qCQ (qCR (qCQ ?_))))))
 obtain rfl:=si H
 exact rt1 E ⟨_,rfl,_,rfl,S⟩
 refine wp_exit ?_
 refine hK6 _ _ (rr E fun a E=>(wp_ret ?_))
 obtain rfl:=si H
 exact rt1 E ⟨_,rfl,_,rfl,S⟩
 refine rr E fun a E=>(wp_ret (qCQ ?_))
 obtain rfl:=si H
 exact rt1 E ⟨_,rfl,_,rfl,S⟩
mutual
def qK.l7:Nat→qD→Int→Option Bool
 | 0,_,_=>none
 | k+1,x,x6=>if x6<(x.f6.length:Int) then (if 0≤x6∧x6<(x.f6.length:Int) then (if (nth qC.z x.f6 x6).f0<0 then (qK.j31 k x x6 true) else (qK.j31 k x x6 (decide ((nth qC.z x.f6 x6).f0>x.f0)))) else (none)) else (some ((x.f6.length:Int) == x.f3))
def qK.j31:Nat→qD→Int→Bool→Option Bool
 | 0,_,_,_=>none
 | k+1,x,x6,y30=>if y30=true then (some false) else (qK.l40 k x x6 0)
def qK.l40:Nat→qD→Int→Int→Option Bool
 | 0,_,_,_=>none
 | k+1,x,x6,x39=>if x39<(((nth qC.z x.f6 x6).f1).length:Int) then (if 0≤x39∧x39<(((nth qC.z x.f6 x6).f1).length:Int) then (if (nth qG.z ((nth qC.z x.f6 x6).f1) x39).f0<0 then (qK.j66 k x x6 x39 true) else (if (nth qG.z ((nth qC.z x.f6 x6).f1) x39).f0≥(nth qC.z x.f6 x6).f0 then (qK.j66 k x x6 x39 true) else (if (((nth qG.z ((nth qC.z x.f6 x6).f1) x39).f1).length:Int)<x.f2 then (qK.j66 k x x6 x39 true) else (qK.j66 k x x6 x39 (decide ((((nth qG.z ((nth qC.z x.f6 x6).f1) x39).f1).length:Int)>x.f1)))))) else (none)) else (qK.l7 k x (w64 (x6+1)))
def qK.j66:Nat→qD→Int→Int→Bool→Option Bool
 | 0,_,_,_,_=>none
 | k+1,x,x6,x39,y65=>if y65=true then (some false) else (qK.l76 k x x6 x39 0)
def qK.l76:Nat→qD→Int→Int→Int→Option Bool
 | 0,_,_,_,_=>none
 | k+1,x,x6,x39,x75=>if x75<(((nth qG.z ((nth qC.z x.f6 x6).f1) x39).f1).length:Int) then (if 0≤x75∧x75<(((nth qG.z ((nth qC.z x.f6 x6).f1) x39).f1).length:Int) then (if (nth 0 ((nth qG.z ((nth qC.z x.f6 x6).f1) x39).f1) x75)<1 then (qK.j104 k x x6 x39 x75 true) else (if (nth 0 ((nth qG.z ((nth qC.z x.f6 x6).f1) x39).f1) x75)>999 then (qK.j104 k x x6 x39 x75 true) else (if x75>0 then (if 0≤(w64 (x75 - 1))∧(w64 (x75 - 1))<(((nth qG.z ((nth qC.z x.f6 x6).f1) x39).f1).length:Int) then (qK.j104 k x x6 x39 x75 (decide ((nth 0 ((nth qG.z ((nth qC.z x.f6 x6).f1) x39).f1) (w64 (x75 - 1)))≥(nth 0 ((nth qG.z ((nth qC.z x.f6 x6).f1) x39).f1) x75)))) else (none)) else (qK.j104 k x x6 x39 x75 false)))) else (none)) else (qK.l113 k x x6 x39 0)
def qK.j104:Nat→qD→Int→Int→Int→Bool→Option Bool
 | 0,_,_,_,_,_=>none
 | k+1,x,x6,x39,x75,y103=>if y103=true then (some false) else (qK.l76 k x x6 x39 (w64 (x75+1)))
def qK.l113:Nat→qD→Int→Int→Int→Option Bool
 | 0,_,_,_,_=>none
 | k+1,x,x6,x39,x112=>if x112<x39 then (if 0≤x112∧x112<(((nth qC.z x.f6 x6).f1).length:Int) then (if (nth qG.z ((nth qC.z x.f6 x6).f1) x112).f0≥(nth qG.z ((nth qC.z x.f6 x6).f1) x39).f0 then (qK.j137 k x x6 x39 x112 true) else ((qAE.f k ((nth qG.z ((nth qC.z x.f6 x6).f1) x112).f1) ((nth qG.z ((nth qC.z x.f6 x6).f1) x39).f1)).bind fun t134=>(qK.j137 k x x6 x39 x112 t134))) else (none)) else (qK.l40 k x x6 (w64 (x39+1)))
def qK.j137:Nat→qD→Int→Int→Int→Bool→Option Bool
 | 0,_,_,_,_,_=>none
 | k+1,x,x6,x39,x112,y136=>if y136=true then (some false) else (qK.l113 k x x6 x39 (w64 (x112+1)))
end
theorem qK.l7_s k x x6:type_of% (qK.l7.eq_2 x x6 k):=qK.l7.eq_2 x x6 k
theorem qK.j31_s k x x6 y30:type_of% (qK.j31.eq_2 x x6 y30 k):=qK.j31.eq_2 x x6 y30 k
theorem qK.l40_s k x x6 x39:type_of% (qK.l40.eq_2 x x6 x39 k):=qK.l40.eq_2 x x6 x39 k
theorem qK.j66_s k x x6 x39 y65:type_of% (qK.j66.eq_2 x x6 x39 y65 k):=qK.j66.eq_2 x x6 x39 y65 k
theorem qK.l76_s k x x6 x39 x75:type_of% (qK.l76.eq_2 x x6 x39 x75 k):=qK.l76.eq_2 x x6 x39 x75 k
theorem qK.j104_s k x x6 x39 x75 y103:type_of% (qK.j104.eq_2 x x6 x39 x75 y103 k):=qK.j104.eq_2 x x6 x39 x75 y103 k
theorem qK.l113_s k x x6 x39 x112:type_of% (qK.l113.eq_2 x x6 x39 x112 k):=qK.l113.eq_2 x x6 x39 x112 k
theorem qK.j137_s k x x6 x39 x112 y136:type_of% (qK.j137.eq_2 x x6 x39 x112 y136 k):=qK.j137.eq_2 x x6 x39 x112 y136 k
def qK.f(k:Nat)(x:qD):Option Bool:=qK.l7 k x 0
def qK.Post(W F:World)(r:Bool)(v:Value)(w':World):Prop:=∃(F':World),v = .bool r∧Sm W F w' F' []
theorem qK.calls(k:Nat)(x:qD)(A0_4:OA)(c0_4:Nat)(A0_5:OA)(c0_5:Nat)(A0_6:OA)(c0_6:Nat)(r:Bool)(W F:World)(hown:Sub F W)(g0_4:Rd qA.k F A0_4 c0_4 x.f4)(g0_5:Rd qE.k F A0_5 c0_5 x.f5)(g0_6:Rd qC.k F A0_6 c0_6 x.f6)(H:qK.f k x=some r):
    Cr 51 #[.agg #[iv x.f0,iv x.f1,iv x.f2,iv x.f3,.slice A0_4 x.f4.length c0_4,.slice A0_5 x.f5.length c0_5,.slice A0_6 x.f6.length c0_6]] W (qK.Post W F r):=by
 have S:=sT hown
 unfold qK.f at H
 refine ent 139 rfl rfl rfl (fun a E=>?_)
 refine sq fun K1 hK1=>pl0 (plx (t:=26) E S [iv x.f0,iv x.f1,iv x.f2,iv x.f3,.slice A0_4 x.f4.length c0_4,.slice A0_5 x.f5.length c0_5,.slice A0_6 x.f6.length c0_6] fun b2 u3 hb2 S a E=>plc E (.r 1 1 .nil) (fun a E=>pld (hK1 _ _ (sq fun K4 hK4=>rr E fun a E=>(wp_block ?_)))))
 refine wp_loop_ghost (fun kq8 a w'=>∃(G:NV)(x6:Int),kq8≤k∧Env 139 G a∧At G [(1,.pointer (pb b2)),(3,iv x6)]∧Sm W F w' F [box b2 #[iv x.f0,iv x.f1,iv x.f2,iv x.f3,.slice A0_4 x.f4.length c0_4,.slice A0_5 x.f5.length c0_5,.slice A0_6 x.f6.length c0_6] 26]∧qK.l7 kq8 x x6=some r) k ⟨_,0,Nat.le_refl _,E,.of,S,H⟩ ?_
 rintro kq8 a u10 ⟨G,x6,hkq,E,A,S,H⟩
 obtain _ | k9:=kq8
 exact zz H
 rw [qK.l7_s]at H
 obtain ⟨J,E⟩:=E.at A
 refine sq fun K11 hK11=>sq fun K12 hK12=>pl0 ?_
 have hb2:=S.ba 0
 refine plc E (.r 0 2<|.b 2 6 hb2<|.r 3 2<|.nil) (fun a E=>pld (hK12 _ _ (E.ik 13 H (fun c13 E H=>?_) fun c13 E H=>?_)))
 refine wp_skip (hK11 _ _ (sq fun K14 hK14=>wp_block (sq fun K15 hK15=>pl0 ?_)))
 obtain ⟨c16,H⟩:=gd H
 have hE_:=E
 obtain ⟨ad17,rfl⟩:=g0_6.addr c16.1 c16.2
 replace E:=hE_
 obtain ⟨cs19,⟨A21,c22,rfl,g23⟩,hc20⟩:=g0_6.el qC.z x6 c16.1 c16.2
 refine plc E (.r 0 1<|.b 1 6 hb2<|.r 2 1<|.x 3 c16<|.cs 4 (S.fcs hc20)<|.nil) (fun a E=>pla (t:=73) E S [iv 0,.slice none 0 0] fun b24 u25 hb24 S a E=>pls E S [iv ((nth qC.z x.f6 x6).f0),.slice A21 (((nth qC.z x.f6 x6).f1).length) c22] fun u26 hb24 S a E=>pld (hK15 _ _ (sq fun K27 hK27=>sq fun K28 hK28=>?_)))
 have J34:∀ kq32,kq32≤k9→∀(G:NV)(y30:Bool)(a:Act)(w':World),Env 139 G a→At G [(1,.pointer (pb b2)),(3,iv x6),(4,.pointer (pb b24)),(30,.bool y30)]→Sm W F w' F [box b24 #[iv ((nth qC.z x.f6 x6).f0),.slice A21 (((nth qC.z x.f6 x6).f1).length) c22] 73,box b2 #[iv x.f0,iv x.f1,iv x.f2,iv x.f3,.slice A0_4 x.f4.length c0_4,.slice A0_5 x.f5.length c0_5,.slice (some ad17) x.f6.length c0_6] 26]→qK.j31 kq32 x x6 y30=some r→K28 a w':=by
  intro kq32 hkq G y30 a u35 E A S H
  obtain _ | k33:=kq32
  exact zz H
  rw [qK.j31_s]at H
  obtain ⟨J,E⟩:=E.at A
  refine hK28 _ _ (E.ib 30 H (fun c36 E H=>?_) fun c36 E H=>?_)
  refine rr E fun a E=>(wp_ret (qCQ (qCR (qCQ (qCQ (qCR (qCQ ?_)))))))
  replace S:=S.pm [] 2
  obtain rfl:=si H
  exact rt1 E ⟨_,rfl,_,rfl,S⟩
  refine wp_skip (hK27 _ _ (rr E fun a E=>(wp_block ?_)))
  refine wp_loop_ghost (fun kq41 a w'=>∃(G:NV)(x39:Int),kq41≤k33∧Env 139 G a∧At G [(1,.pointer (pb b2)),(3,iv x6),(4,.pointer (pb b24)),(5,iv x39)]∧Sm W F w' F [box b24 #[iv ((nth qC.z x.f6 x6).f0),.slice A21 (((nth qC.z x.f6 x6).f1).length) c22] 73,box b2 #[iv x.f0,iv x.f1,iv x.f2,iv x.f3,.slice A0_4 x.f4.length c0_4,.slice A0_5 x.f5.length c0_5,.slice (some ad17) x.f6.length c0_6] 26]∧qK.l40 kq41 x x6 x39=some r) k33 ⟨_,0,Nat.le_refl _,E,.of,S,H⟩ ?_
  rintro kq41 a u43 ⟨G,x39,hkq,E,A,S,H⟩
  obtain _ | k42:=kq41
  exact zz H
  rw [qK.l40_s]at H
  obtain ⟨J,E⟩:=E.at A
  refine sq fun K44 hK44=>sq fun K45 hK45=>pl0 ?_
  have hb24:=S.ba 0
  refine plc E (.r 0 2<|.b 2 1 hb24<|.r 3 2<|.nil) (fun a E=>pld (hK45 _ _ (E.ik 35 H (fun c46 E H=>?_) fun c46 E H=>?_)))
  refine wp_skip (hK44 _ _ (sq fun K47 hK47=>wp_block (sq fun K48 hK48=>pl0 ?_)))
  obtain ⟨c49,H⟩:=gd H
  have hE_:=E
  obtain ⟨ad50,rfl⟩:=g23.addr c49.1 c49.2
  replace E:=hE_
  obtain ⟨cs52,⟨A54,c55,rfl,g56⟩,hc53⟩:=g23.el qG.z x39 c49.1 c49.2
  refine plc E (.r 0 1<|.b 1 1 hb24<|.r 2 1<|.x 3 c49<|.cs 4 (S.fcs hc53)<|.nil) (fun a E=>pla (t:=77) E S [iv 0,.slice none 0 0] fun b57 u58 hb57 S a E=>pls E S [iv ((nth qG.z ((nth qC.z x.f6 x6).f1) x39).f0),.slice A54 (((nth qG.z ((nth qC.z x.f6 x6).f1) x39).f1).length) c55] fun u59 hb57 S a E=>pld (hK48 _ _ (sq fun K60 hK60=>sq fun K61 hK61=>?_)))
  have J69:∀ kq67,kq67≤k42→∀(G:NV)(y65:Bool)(a:Act)(w':World),Env 139 G a→At G [(1,.pointer (pb b2)),(3,iv x6),(4,.pointer (pb b24)),(5,iv x39),(6,.pointer (pb b57)),(68,.bool y65)]→Sm W F w' F [box b57 #[iv ((nth qG.z ((nth qC.z x.f6 x6).f1) x39).f0),.slice A54 (((nth qG.z ((nth qC.z x.f6 x6).f1) x39).f1).length) c55] 77,box b24 #[iv ((nth qC.z x.f6 x6).f0),.slice (some ad50) (((nth qC.z x.f6 x6).f1).length) c22] 73,box b2 #[iv x.f0,iv x.f1,iv x.f2,iv x.f3,.slice A0_4 x.f4.length c0_4,.slice A0_5 x.f5.length c0_5,.slice (some ad17) x.f6.length c0_6] 26]→qK.j66 kq67 x x6 x39 y65=some r→K61 a w':=by
   intro kq67 hkq G y65 a u70 E A S H
   obtain _ | k68:=kq67
   exact zz H
   rw [qK.j66_s]at H
   obtain ⟨J,E⟩:=E.at A
   refine hK61 _ _ (E.ib 68 H (fun c71 E H=>?_) fun c71 E H=>?_)
   refine rr E fun a E=>(wp_ret (qCQ (qCR (qCQ (qCQ (qCR (qCR (qCQ (qCQ (qCR (qCQ ?_)))))))))))
   replace S:=S.pm [] 3
   obtain rfl:=si H
   exact rt1 E ⟨_,rfl,_,rfl,S⟩
   refine wp_skip (hK60 _ _ (sq fun K73 hK73=>rr E fun a E=>(wp_block ?_)))
   refine wp_loop_ghost (fun kq77 a w'=>∃(G:NV)(x75:Int),kq77≤k68∧Env 139 G a∧At G [(1,.pointer (pb b2)),(3,iv x6),(4,.pointer (pb b24)),(5,iv x39),(6,.pointer (pb b57)),(7,iv x75)]∧Sm W F w' F [box b57 #[iv ((nth qG.z ((nth qC.z x.f6 x6).f1) x39).f0),.slice A54 (((nth qG.z ((nth qC.z x.f6 x6).f1) x39).f1).length) c55] 77,box b24 #[iv ((nth qC.z x.f6 x6).f0),.slice (some ad50) (((nth qC.z x.f6 x6).f1).length) c22] 73,box b2 #[iv x.f0,iv x.f1,iv x.f2,iv x.f3,.slice A0_4 x.f4.length c0_4,.slice A0_5 x.f5.length c0_5,.slice (some ad17) x.f6.length c0_6] 26]∧qK.l76 kq77 x x6 x39 x75=some r) k68 ⟨_,0,Nat.le_refl _,E,.of,S,H⟩ ?_
   rintro kq77 a u79 ⟨G,x75,hkq,E,A,S,H⟩
   obtain _ | k78:=kq77
   exact zz H
   rw [qK.l76_s]at H
   obtain ⟨J,E⟩:=E.at A
   refine sq fun K80 hK80=>sq fun K81 hK81=>pl0 ?_
   have hb57:=S.ba 0
   refine plc E (.r 0 2<|.b 2 1 hb57<|.r 3 2<|.nil) (fun a E=>pld (hK81 _ _ (E.ik 73 H (fun c82 E H=>?_) fun c82 E H=>?_)))
   refine wp_skip (hK80 _ _ (sq fun K83 hK83=>wp_block (sq fun K84 hK84=>?_)))
   have J107:∀ kq105,kq105≤k78→∀(G:NV)(y103:Bool)(a:Act)(w':World),Env 139 G a→At G [(1,.pointer (pb b2)),(3,iv x6),(4,.pointer (pb b24)),(5,iv x39),(6,.pointer (pb b57)),(7,iv x75),(107,.bool y103)]→Sm W F w' F [box b57 #[iv ((nth qG.z ((nth qC.z x.f6 x6).f1) x39).f0),.slice A54 (((nth qG.z ((nth qC.z x.f6 x6).f1) x39).f1).length) c55] 77,box b24 #[iv ((nth qC.z x.f6 x6).f0),.slice (some ad50) (((nth qC.z x.f6 x6).f1).length) c22] 73,box b2 #[iv x.f0,iv x.f1,iv x.f2,iv x.f3,.slice A0_4 x.f4.length c0_4,.slice A0_5 x.f5.length c0_5,.slice (some ad17) x.f6.length c0_6] 26]→qK.j104 kq105 x x6 x39 x75 y103=some r→K84 a w':=by
    intro kq105 hkq G y103 a u108 E A S H
    obtain _ | k106:=kq105
    exact zz H
    rw [qK.j104_s]at H
    obtain ⟨J,E⟩:=E.at A
    refine hK84 _ _ (E.ib 107 H (fun c109 E H=>?_) fun c109 E H=>?_)
    refine rr E fun a E=>(wp_ret (qCR (qCQ (qCQ (qCR (qCQ (qCR (qCQ (qCQ (qCR (qCR (qCQ (qCQ (qCR (qCQ ?_)))))))))))))))
    replace S:=S.pm [] 3
    obtain rfl:=si H
    exact rt1 E ⟨_,rfl,_,rfl,S⟩
    refine wp_skip ?_
    refine qCS ?_
    refine hK83 _ _ (pl0 (plc E (.r 0 3 .nil) (fun a E=>pld ?_)))
    exact qCT ⟨k106,by omega,_,(w64 (x75+1)),by omega,E,.of,S,H⟩
   refine drawn 32 ⟨[],[],fun q=>False⟩ mixed rfl (by kernel_rfl) (fun hst=>?_)
   replace S:=S.drew
   have hb57:=S.ba 0
   obtain ⟨c85,H⟩:=gd H
   have hE_:=E
   obtain ⟨ad86,rfl⟩:=g56.addr c85.1 c85.2
   replace E:=hE_
   obtain ⟨cs88,rfl,hc89⟩:=g56.el 0 x75 c85.1 c85.2
   refine mny 25 hst E (.r 0 1<|.b 1 1 hb57<|.r 2 1<|.x 3 c85<|.c 4 (S.fc hc89 0)<|.r 5 2<|.nil) (fun a E=>?_)
   refine E.fk 82 H (fun c90 E H=>?_) fun c90 E H=>?_
   refine mny 0 hst E (.r 7 25 .nil) (fun a E=>?_)
   refine dn ?_
   exact J107 _ (by omega) _ true _ _ E .of S H
   refine mny 17 hst E (.r 7 1<|.b 8 1 hb57<|.r 9 1<|.x 10 c85<|.c 11 (S.fc hc89 0)<|.r 12 3<|.nil) (fun a E=>?_)
   refine E.fk 90 H (fun c94 E H=>?_) fun c94 E H=>?_
   refine mny 0 hst E (.r 15 17 .nil) (fun a E=>?_)
   refine dn ?_
   exact J107 _ (by omega) _ true _ _ E .of S H
   refine mny 14 hst E (.r 15 3 .nil) (fun a E=>?_)
   refine E.fk 93 H (fun c95 E H=>?_) fun c95 E H=>?_
   obtain ⟨c96,H⟩:=gd H
   obtain ⟨cs98,rfl,hc99⟩:=g56.el 0 (w64 (x75 - 1)) c96.1 c96.2
   refine mny 0 hst E (.r 18 1<|.b 19 1 hb57<|.r 20 2<|.x 22 c96<|.c 23 (S.fc hc99 0)<|.r 24 1<|.b 25 1 hb57<|.r 26 1<|.x 27 c85<|.c 28 (S.fc hc89 0)<|.r 29 3<|.nil) (fun a E=>?_)
   refine dn ?_
   exact J107 _ (by omega) _ (decide ((nth 0 ((nth qG.z ((nth qC.z x.f6 x6).f1) x39).f1) (w64 (x75 - 1)))≥(nth 0 ((nth qG.z ((nth qC.z x.f6 x6).f1) x39).f1) x75))) _ _ E .of S H
   refine mny 0 hst E (.r 18 14 .nil) (fun a E=>?_)
   refine dn ?_
   exact J107 _ (by omega) _ false _ _ E .of S H
   refine wp_exit ?_
   refine hK73 _ _ (rr E fun a E=>(wp_block ?_))
   refine wp_loop_ghost (fun kq114 a w'=>∃(G:NV)(x112:Int),kq114≤k78∧Env 139 G a∧At G [(1,.pointer (pb b2)),(3,iv x6),(4,.pointer (pb b24)),(5,iv x39),(6,.pointer (pb b57)),(8,iv x112)]∧Sm W F w' F [box b57 #[iv ((nth qG.z ((nth qC.z x.f6 x6).f1) x39).f0),.slice A54 (((nth qG.z ((nth qC.z x.f6 x6).f1) x39).f1).length) c55] 77,box b24 #[iv ((nth qC.z x.f6 x6).f0),.slice (some ad50) (((nth qC.z x.f6 x6).f1).length) c22] 73,box b2 #[iv x.f0,iv x.f1,iv x.f2,iv x.f3,.slice A0_4 x.f4.length c0_4,.slice A0_5 x.f5.length c0_5,.slice (some ad17) x.f6.length c0_6] 26]∧qK.l113 kq114 x x6 x39 x112=some r) k78 ⟨_,0,Nat.le_refl _,E,.of,S,H⟩ ?_
   rintro kq114 a u116 ⟨G,x112,hkq,E,A,S,H⟩
   obtain _ | k115:=kq114
   exact zz H
   rw [qK.l113_s]at H
   obtain ⟨J,E⟩:=E.at A
   refine sq fun K117 hK117=>rr E fun a E=>(E.ik 110 H (fun c119 E H=>?_) fun c119 E H=>?_)
   refine wp_skip (hK117 _ _ (sq fun K120 hK120=>wp_block (sq fun K121 hK121=>?_)))
   have J140:∀ kq138,kq138≤k115→∀(G:NV)(y136:Bool)(a:Act)(w':World),Env 139 G a→At G [(1,.pointer (pb b2)),(3,iv x6),(4,.pointer (pb b24)),(5,iv x39),(6,.pointer (pb b57)),(8,iv x112),(132,.bool y136)]→Sm W F w' F [box b57 #[iv ((nth qG.z ((nth qC.z x.f6 x6).f1) x39).f0),.slice A54 (((nth qG.z ((nth qC.z x.f6 x6).f1) x39).f1).length) c55] 77,box b24 #[iv ((nth qC.z x.f6 x6).f0),.slice (some ad50) (((nth qC.z x.f6 x6).f1).length) c22] 73,box b2 #[iv x.f0,iv x.f1,iv x.f2,iv x.f3,.slice A0_4 x.f4.length c0_4,.slice A0_5 x.f5.length c0_5,.slice (some ad17) x.f6.length c0_6] 26]→qK.j137 kq138 x x6 x39 x112 y136=some r→K121 a w':=by
    intro kq138 hkq G y136 a u141 E A S H
    obtain _ | k139:=kq138
    exact zz H
    rw [qK.j137_s]at H
    obtain ⟨J,E⟩:=E.at A
    refine hK121 _ _ (E.ib 132 H (fun c142 E H=>?_) fun c142 E H=>?_)
    refine rr E fun a E=>(wp_ret (qCR (qCQ (qCQ (qCR (qCR (qCQ (qCQ (qCR (qCR (qCQ (qCQ (qCR (qCQ ?_))))))))))))))
    replace S:=S.pm [] 3
    obtain rfl:=si H
    exact rt1 E ⟨_,rfl,_,rfl,S⟩
    refine wp_skip ?_
    refine qCS ?_
    refine hK120 _ _ (pl0 (plc E (.r 0 3 .nil) (fun a E=>pld ?_)))
    exact qCT ⟨k139,by omega,_,(w64 (x112+1)),by omega,E,.of,S,H⟩
   refine drawn 20 ⟨[],[],fun q=>False⟩ mixed rfl (by kernel_rfl) (fun hst=>?_)
   replace S:=S.drew
   have hb24:=S.ba 1
   obtain ⟨c122,H⟩:=gd H
   obtain ⟨cs124,⟨A126,c127,rfl,g128⟩,hc125⟩:=g23.el qG.z x112 c122.1 c122.2
   have hb57:=S.ba 0
   refine mny 10 hst E (.r 0 1<|.b 1 1 hb24<|.r 2 1<|.x 3 c122<|.r 4 1<|.c 5 (S.fc hc125 0)<|.r 6 1<|.b 7 0 hb57<|.r 8 2<|.nil) (fun a E=>?_)
   refine E.fk 122 H (fun c129 E H=>?_) fun c129 E H=>?_
   refine mny 0 hst E (.r 10 10 .nil) (fun a E=>?_)
   refine dn ?_
   exact J140 _ (by omega) _ true _ _ E .of S H
   refine mny 2 hst E (.r 10 1<|.b 11 1 hb24<|.r 12 1<|.x 13 c122<|.r 14 1<|.c 15 (S.fc hc125 1)<|.r 16 1<|.b 17 1 hb57<|.nil) (fun a E=>?_)
   obtain ⟨t134,h135,H⟩:=bd H
   refine on1 18 E (.cl en23 (qAE.calls k115 ((nth qG.z ((nth qC.z x.f6 x6).f1) x112).f1) ((nth qG.z ((nth qC.z x.f6 x6).f1) x39).f1) _ _ _ _ _ _ _ S.own.sub g128 g56 h135)) ?_
   rintro _ u133 a ⟨_,rfl,hC⟩ E
   refine ⟨.of hC.agr,?_⟩
   replace S:=S.lent hC
   refine mny 0 hst E (.r 19 1 .nil) (fun a E=>?_)
   refine dn ?_
   exact J140 _ (by omega) _ t134 _ _ E .of S H
   refine wp_exit ?_
   refine hK47 _ _ (pl0 (plc E (.r 0 3 .nil) (fun a E=>pld ?_)))
   replace S:=S.tail
   exact qCT ⟨k115,by omega,_,(w64 (x39+1)),by omega,E,.of,S,H⟩
  refine pl0 (plc E (.r 0 1<|.b 1 0 hb57<|.r 2 2<|.nil) (fun a E=>E.fk 46 H (fun c62 E H=>?_) fun c62 E H=>?_))
  refine plc E (.r 4 22 .nil) (fun a E=>pld ?_)
  exact J69 _ (by omega) _ true _ _ E .of S H
  refine plc E (.r 4 1<|.b 5 0 hb57<|.r 6 1<|.b 7 0 (S.ba 1)<|.r 8 3<|.nil) (fun a E=>E.fk 53 H (fun c63 E H=>?_) fun c63 E H=>?_)
  refine plc E (.r 11 15 .nil) (fun a E=>pld ?_)
  exact J69 _ (by omega) _ true _ _ E .of S H
  have hb2:=S.ba 2
  refine plc E (.r 11 1<|.b 12 1 hb57<|.r 13 2<|.b 15 2 hb2<|.r 16 3<|.nil) (fun a E=>E.fk 61 H (fun c64 E H=>?_) fun c64 E H=>?_)
  refine plc E (.r 19 7 .nil) (fun a E=>pld ?_)
  exact J69 _ (by omega) _ true _ _ E .of S H
  refine plc E (.r 19 1<|.b 20 1 hb57<|.r 21 2<|.b 23 1 hb2<|.r 24 2<|.nil) (fun a E=>pld ?_)
  exact J69 _ (by omega) _ (decide ((((nth qG.z ((nth qC.z x.f6 x6).f1) x39).f1).length:Int)>x.f1)) _ _ E .of S H
  refine wp_exit ?_
  refine hK14 _ _ (pl0 (plc E (.r 0 3 .nil) (fun a E=>pld ?_)))
  replace S:=S.tail
  exact qCT ⟨k42,by omega,_,(w64 (x6+1)),by omega,E,.of,S,H⟩
 refine pl0 (plc E (.r 0 1<|.b 1 0 hb24<|.r 2 2<|.nil) (fun a E=>E.fk 24 H (fun c29 E H=>?_) fun c29 E H=>?_))
 refine plc E (.r 4 6 .nil) (fun a E=>pld ?_)
 exact J34 _ (by omega) _ true _ _ E .of S H
 refine plc E (.r 4 1<|.b 5 0 hb24<|.r 6 1<|.b 7 0 (S.ba 1)<|.r 8 2<|.nil) (fun a E=>pld ?_)
 exact J34 _ (by omega) _ (decide ((nth qC.z x.f6 x6).f0>x.f0)) _ _ E .of S H
 refine wp_exit ?_
 refine hK4 _ _ (rg E (.r 0 1<|.b 1 6 hb2<|.r 2 2<|.b 4 3 hb2<|.r 5 2<|.nil) fun a E=>(wp_ret ?_))
 replace S:=S.tail
 obtain rfl:=si H
 exact rt1 E ⟨_,rfl,_,rfl,S⟩
mutual
def qe.j18:Nat→qD→Bool→Option Bool
 | 0,_,_=>none
 | k+1,x,y17=>if y17=true then (some false) else (qe.l28 k x 0)
def qe.l28:Nat→qD→Int→Option Bool
 | 0,_,_=>none
 | k+1,x,x27=>if x27<(x.f5.length:Int) then (if 0≤x27∧x27<(x.f5.length:Int) then (if (nth qE.z x.f5 x27).f0<0 then (qe.j71 k x x27 true) else (if (nth qE.z x.f5 x27).f0≥x.f3 then (qe.j71 k x x27 true) else (if x27>0 then (if 0≤(w64 (x27 - 1))∧(w64 (x27 - 1))<(x.f5.length:Int) then (if (nth qE.z x.f5 (w64 (x27 - 1))).f0≥(nth qE.z x.f5 x27).f0 then (qe.j71 k x x27 true) else (if (((nth qE.z x.f5 x27).f1).length:Int)<1 then (qe.j71 k x x27 true) else (if (((nth qE.z x.f5 x27).f1).length:Int)>x.f1 then (qe.j71 k x x27 true) else ((qo.f k x.f4 ((nth qE.z x.f5 x27).f1)).bind fun t63=>(qe.j71 k x x27 (!t63)))))) else (none)) else (if (((nth qE.z x.f5 x27).f1).length:Int)<1 then (qe.j71 k x x27 true) else (if (((nth qE.z x.f5 x27).f1).length:Int)>x.f1 then (qe.j71 k x x27 true) else ((qo.f k x.f4 ((nth qE.z x.f5 x27).f1)).bind fun t68=>(qe.j71 k x x27 (!t68)))))))) else (none)) else ((qK.f k x).bind fun t80=>(some t80))
def qe.j71:Nat→qD→Int→Bool→Option Bool
 | 0,_,_,_=>none
 | k+1,x,x27,y70=>if y70=true then (some false) else (qe.l28 k x (w64 (x27+1)))
end
theorem qe.j18_s k x y17:type_of% (qe.j18.eq_2 x y17 k):=qe.j18.eq_2 x y17 k
theorem qe.l28_s k x x27:type_of% (qe.l28.eq_2 x x27 k):=qe.l28.eq_2 x x27 k
theorem qe.j71_s k x x27 y70:type_of% (qe.j71.eq_2 x x27 y70 k):=qe.j71.eq_2 x x27 y70 k
def qe.f(k:Nat)(x:qD):Option Bool:=if x.f0<0 then (qe.j18 k x true) else (if x.f0≥2147483648 then (qe.j18 k x true) else (if x.f1<1 then (qe.j18 k x true) else (if x.f1>3 then (qe.j18 k x true) else (if x.f2<1 then (qe.j18 k x true) else (if x.f2>x.f1 then (qe.j18 k x true) else (if x.f3<1 then (qe.j18 k x true) else (if x.f3>8 then (qe.j18 k x true) else ((qm.f k x.f4).bind fun t15=>(qe.j18 k x (!t15))))))))))
def qe.Post(W F:World)(r:Bool)(v:Value)(w':World):Prop:=∃(F':World),v = .bool r∧Sm W F w' F' []
theorem qe.calls(k:Nat)(x:qD)(A0_4:OA)(c0_4:Nat)(A0_5:OA)(c0_5:Nat)(A0_6:OA)(c0_6:Nat)(r:Bool)(W F:World)(hown:Sub F W)(g0_4:Rd qA.k F A0_4 c0_4 x.f4)(g0_5:Rd qE.k F A0_5 c0_5 x.f5)(g0_6:Rd qC.k F A0_6 c0_6 x.f6)(H:qe.f k x=some r):
    Cr 22 #[.agg #[iv x.f0,iv x.f1,iv x.f2,iv x.f3,.slice A0_4 x.f4.length c0_4,.slice A0_5 x.f5.length c0_5,.slice A0_6 x.f6.length c0_6]] W (qe.Post W F r):=by
 have S:=sT hown
 unfold qe.f at H
 refine ent 113 rfl rfl rfl (fun a E=>?_)
 refine sq fun K1 hK1=>pl0 (plx (t:=26) E S [iv x.f0,iv x.f1,iv x.f2,iv x.f3,.slice A0_4 x.f4.length c0_4,.slice A0_5 x.f5.length c0_5,.slice A0_6 x.f6.length c0_6] fun b2 u3 hb2 S a E=>plc E (.r 1 1 .nil) (fun a E=>pld (hK1 _ _ (sq fun K4 hK4=>sq fun K5 hK5=>?_))))
 have J21:∀ kq19,kq19≤k→∀(G:NV)(y17:Bool)(a:Act)(w':World),Env 113 G a→At G [(1,.pointer (pb b2)),(50,.bool y17)]→Sm W F w' F [box b2 #[iv x.f0,iv x.f1,iv x.f2,iv x.f3,.slice A0_4 x.f4.length c0_4,.slice A0_5 x.f5.length c0_5,.slice A0_6 x.f6.length c0_6] 26]→qe.j18 kq19 x y17=some r→K5 a w':=by
  intro kq19 hkq G y17 a u22 E A S H
  obtain _ | k20:=kq19
  exact zz H
  rw [qe.j18_s]at H
  obtain ⟨J,E⟩:=E.at A
  refine hK5 _ _ (E.ib 50 H (fun c23 E H=>?_) fun c23 E H=>?_)
  refine rr E fun a E=>(wp_ret (qCQ ?_))
  replace S:=S.tail
  obtain rfl:=si H
  exact rt1 E ⟨_,rfl,_,rfl,S⟩
  refine wp_skip (hK4 _ _ (sq fun K25 hK25=>rr E fun a E=>(wp_block ?_)))
  refine wp_loop_ghost (fun kq29 a w'=>∃(G:NV)(x27:Int),kq29≤k20∧Env 113 G a∧At G [(1,.pointer (pb b2)),(3,iv x27)]∧Sm W F w' F [box b2 #[iv x.f0,iv x.f1,iv x.f2,iv x.f3,.slice A0_4 x.f4.length c0_4,.slice A0_5 x.f5.length c0_5,.slice A0_6 x.f6.length c0_6] 26]∧qe.l28 kq29 x x27=some r) k20 ⟨_,0,Nat.le_refl _,E,.of,S,H⟩ ?_
  rintro kq29 a u31 ⟨G,x27,hkq,E,A,S,H⟩
  obtain _ | k30:=kq29
  exact zz H
  rw [qe.l28_s]at H
  obtain ⟨J,E⟩:=E.at A
  refine sq fun K32 hK32=>sq fun K33 hK33=>pl0 ?_
  have hb2:=S.ba 0
  refine plc E (.r 0 2<|.b 2 5 hb2<|.r 3 2<|.nil) (fun a E=>pld (hK33 _ _ (E.ik 55 H (fun c34 E H=>?_) fun c34 E H=>?_)))
  refine wp_skip (hK32 _ _ (sq fun K35 hK35=>wp_block (sq fun K36 hK36=>pl0 ?_)))
  obtain ⟨c37,H⟩:=gd H
  have hE_:=E
  obtain ⟨ad38,rfl⟩:=g0_5.addr c37.1 c37.2
  replace E:=hE_
  obtain ⟨cs40,⟨A42,c43,rfl,g44⟩,hc41⟩:=g0_5.el qE.z x27 c37.1 c37.2
  refine plc E (.r 0 1<|.b 1 5 hb2<|.r 2 1<|.x 3 c37<|.cs 4 (S.fcs hc41)<|.nil) (fun a E=>pla (t:=75) E S [iv 0,.slice none 0 0] fun b45 u46 hb45 S a E=>pls E S [iv ((nth qE.z x.f5 x27).f0),.slice A42 (((nth qE.z x.f5 x27).f1).length) c43] fun u47 hb45 S a E=>pld (hK36 _ _ (sq fun K48 hK48=>?_)))
  have J74:∀ kq72,kq72≤k30→∀(G:NV)(y70:Bool)(a:Act)(w':World),Env 113 G a→At G [(1,.pointer (pb b2)),(3,iv x27),(110,.bool y70)]→Sm W F w' F [box b45 #[iv ((nth qE.z x.f5 x27).f0),.slice A42 (((nth qE.z x.f5 x27).f1).length) c43] 75,box b2 #[iv x.f0,iv x.f1,iv x.f2,iv x.f3,.slice A0_4 x.f4.length c0_4,.slice (some ad38) x.f5.length c0_5,.slice A0_6 x.f6.length c0_6] 26]→qe.j71 kq72 x x27 y70=some r→K48 a w':=by
   intro kq72 hkq G y70 a u75 E A S H
   obtain _ | k73:=kq72
   exact zz H
   rw [qe.j71_s]at H
   obtain ⟨J,E⟩:=E.at A
   refine hK48 _ _ (E.ib 110 H (fun c76 E H=>?_) fun c76 E H=>?_)
   refine rr E fun a E=>(wp_ret (qCR (qCQ (qCQ (qCR (qCQ ?_))))))
   replace S:=S.pm [] 2
   obtain rfl:=si H
   exact rt1 E ⟨_,rfl,_,rfl,S⟩
   refine wp_skip ?_
   refine qCS ?_
   refine hK35 _ _ (pl0 (plc E (.r 0 3 .nil) (fun a E=>pld ?_)))
   replace S:=S.tail
   exact qCT ⟨k73,by omega,_,(w64 (x27+1)),by omega,E,.of,S,H⟩
  refine drawn 48 ⟨[],[],fun q=>False⟩ mixed rfl (by kernel_rfl) (fun hst=>?_)
  replace S:=S.drew
  have hb45:=S.ba 0
  refine mny 44 hst E (.r 0 1<|.b 1 0 hb45<|.r 2 2<|.nil) (fun a E=>?_)
  refine E.fk 66 H (fun c49 E H=>?_) fun c49 E H=>?_
  refine mny 0 hst E (.r 4 44 .nil) (fun a E=>?_)
  refine dn ?_
  exact J74 _ (by omega) _ true _ _ E .of S H
  have hb2:=S.ba 1
  refine mny 37 hst E (.r 4 1<|.b 5 0 hb45<|.r 6 1<|.b 7 3 hb2<|.r 8 3<|.nil) (fun a E=>?_)
  refine E.fk 73 H (fun c50 E H=>?_) fun c50 E H=>?_
  refine mny 0 hst E (.r 11 37 .nil) (fun a E=>?_)
  refine dn ?_
  exact J74 _ (by omega) _ true _ _ E .of S H
  refine mny 34 hst E (.r 11 3 .nil) (fun a E=>?_)
  refine E.fk 76 H (fun c51 E H=>?_) fun c51 E H=>?_
  obtain ⟨c52,H⟩:=gd H
  obtain ⟨cs54,⟨A56,c57,rfl,g58⟩,hc55⟩:=g0_5.el qE.z (w64 (x27 - 1)) c52.1 c52.2
  refine mny 21 hst E (.r 14 1<|.b 15 5 hb2<|.r 16 2<|.x 18 c52<|.r 19 1<|.c 20 (S.fc hc55 0)<|.r 21 1<|.b 22 0 hb45<|.r 23 4<|.nil) (fun a E=>?_)
  refine E.fk 89 H (fun c59 E H=>?_) fun c59 E H=>?_
  refine mny 0 hst E (.r 27 21 .nil) (fun a E=>?_)
  refine dn ?_
  exact J74 _ (by omega) _ true _ _ E .of S H
  refine mny 15 hst E (.r 27 1<|.b 28 1 hb45<|.r 29 4<|.nil) (fun a E=>?_)
  refine E.fk 95 H (fun c60 E H=>?_) fun c60 E H=>?_
  refine mny 0 hst E (.r 33 15 .nil) (fun a E=>?_)
  refine dn ?_
  exact J74 _ (by omega) _ true _ _ E .of S H
  refine mny 7 hst E (.r 33 1<|.b 34 1 hb45<|.r 35 2<|.b 37 1 hb2<|.r 38 3<|.nil) (fun a E=>?_)
  refine E.fk 103 H (fun c61 E H=>?_) fun c61 E H=>?_
  refine mny 0 hst E (.r 41 7 .nil) (fun a E=>?_)
  refine dn ?_
  exact J74 _ (by omega) _ true _ _ E .of S H
  refine mny 3 hst E (.r 41 1<|.b 42 4 hb2<|.r 43 1<|.b 44 1 hb45<|.nil) (fun a E=>?_)
  obtain ⟨t63,h64,H⟩:=bd H
  refine on1 45 E (.cl en17 (qo.calls k30 x.f4 ((nth qE.z x.f5 x27).f1) _ _ _ _ _ _ _ S.own.sub g0_4 g44 h64)) ?_
  rintro _ u62 a ⟨_,rfl,hC⟩ E
  refine ⟨.of hC.agr,?_⟩
  replace S:=S.lent hC
  refine mny 0 hst E (.r 46 2 .nil) (fun a E=>?_)
  refine dn ?_
  exact J74 _ (by omega) _ (!t63) _ _ E .of S H
  refine mny 15 hst E (.r 14 14<|.b 28 1 hb45<|.r 29 4<|.nil) (fun a E=>?_)
  refine E.fk 95 H (fun c65 E H=>?_) fun c65 E H=>?_
  refine mny 0 hst E (.r 33 15 .nil) (fun a E=>?_)
  refine dn ?_
  exact J74 _ (by omega) _ true _ _ E .of S H
  refine mny 7 hst E (.r 33 1<|.b 34 1 hb45<|.r 35 2<|.b 37 1 hb2<|.r 38 3<|.nil) (fun a E=>?_)
  refine E.fk 103 H (fun c66 E H=>?_) fun c66 E H=>?_
  refine mny 0 hst E (.r 41 7 .nil) (fun a E=>?_)
  refine dn ?_
  exact J74 _ (by omega) _ true _ _ E .of S H
  refine mny 3 hst E (.r 41 1<|.b 42 4 hb2<|.r 43 1<|.b 44 1 hb45<|.nil) (fun a E=>?_)
  obtain ⟨t68,h69,H⟩:=bd H
  refine on1 45 E (.cl en17 (qo.calls k30 x.f4 ((nth qE.z x.f5 x27).f1) _ _ _ _ _ _ _ S.own.sub g0_4 g44 h69)) ?_
  rintro _ u67 a ⟨_,rfl,hC⟩ E
  refine ⟨.of hC.agr,?_⟩
  replace S:=S.lent hC
  refine mny 0 hst E (.r 46 2 .nil) (fun a E=>?_)
  refine dn ?_
  exact J74 _ (by omega) _ (!t68) _ _ E .of S H
  refine wp_exit ?_
  refine hK25 _ _ (sq fun K78 hK78=>pl0 (plc E (.bn 0 0 7 hb2 .nil) (fun a E=>?_)))
  obtain ⟨t80,h81,H⟩:=bd H
  refine plq E S en51 (qK.calls k30 x _ _ _ _ _ _ _ _ _ S.own.sub g0_4 g0_5 g0_6 h81) fun u79 S a E=>plc E (.r 2 1 .nil) (fun a E=>pld (hK78 _ _ (wp_ret ?_)))
  replace S:=S.tail
  obtain rfl:=si H
  exact rt1 E ⟨_,rfl,_,rfl,S⟩
 refine pl0 (plc E (.r 0 1<|.b 1 0 hb2<|.r 2 2<|.nil) (fun a E=>E.fk 8 H (fun c6 E H=>?_) fun c6 E H=>?_))
 refine plc E (.r 4 42 .nil) (fun a E=>pld ?_)
 exact J21 _ (by omega) _ true _ _ E .of S H
 refine plc E (.r 4 1<|.b 5 0 hb2<|.r 6 3<|.nil) (fun a E=>E.fk 13 H (fun c7 E H=>?_) fun c7 E H=>?_)
 refine plc E (.r 9 37 .nil) (fun a E=>pld ?_)
 exact J21 _ (by omega) _ true _ _ E .of S H
 refine plc E (.r 9 1<|.b 10 1 hb2<|.r 11 3<|.nil) (fun a E=>E.fk 18 H (fun c8 E H=>?_) fun c8 E H=>?_)
 refine plc E (.r 14 32 .nil) (fun a E=>pld ?_)
 exact J21 _ (by omega) _ true _ _ E .of S H
 refine plc E (.r 14 1<|.b 15 1 hb2<|.r 16 3<|.nil) (fun a E=>E.fk 23 H (fun c9 E H=>?_) fun c9 E H=>?_)
 refine plc E (.r 19 27 .nil) (fun a E=>pld ?_)
 exact J21 _ (by omega) _ true _ _ E .of S H
 refine plc E (.r 19 1<|.b 20 2 hb2<|.r 21 3<|.nil) (fun a E=>E.fk 28 H (fun c10 E H=>?_) fun c10 E H=>?_)
 refine plc E (.r 24 22 .nil) (fun a E=>pld ?_)
 exact J21 _ (by omega) _ true _ _ E .of S H
 refine plc E (.r 24 1<|.b 25 2 hb2<|.r 26 1<|.b 27 1 hb2<|.r 28 3<|.nil) (fun a E=>E.fk 35 H (fun c11 E H=>?_) fun c11 E H=>?_)
 refine plc E (.r 31 15 .nil) (fun a E=>pld ?_)
 exact J21 _ (by omega) _ true _ _ E .of S H
 refine plc E (.r 31 1<|.b 32 3 hb2<|.r 33 3<|.nil) (fun a E=>E.fk 40 H (fun c12 E H=>?_) fun c12 E H=>?_)
 refine plc E (.r 36 10 .nil) (fun a E=>pld ?_)
 exact J21 _ (by omega) _ true _ _ E .of S H
 refine plc E (.r 36 1<|.b 37 3 hb2<|.r 38 3<|.nil) (fun a E=>E.fk 45 H (fun c13 E H=>?_) fun c13 E H=>?_)
 refine plc E (.r 41 5 .nil) (fun a E=>pld ?_)
 exact J21 _ (by omega) _ true _ _ E .of S H
 refine plc E (.r 41 1<|.b 42 4 hb2<|.nil) (fun a E=>?_)
 obtain ⟨t15,h16,H⟩:=bd H
 refine plq E S en50 (qm.calls k x.f4 _ _ _ _ _ S.own.sub g0_4 h16) fun u14 S a E=>plc E (.r 44 2 .nil) (fun a E=>pld ?_)
 exact J21 _ (by omega) _ (!t15) _ _ E .of S H
def qCE.f(x:Int)(y:Int)(z:Int):Option Bool:=if x≥y then (some (decide (x≤z))) else (some false)
def qCE.Post(W F:World)(r:Bool)(v:Value)(w':World):Prop:=∃(F':World),v = .bool r∧Sm W F w' F' []
theorem qCE.calls(x:Int)(y:Int)(z:Int)(r:Bool)(W F:World)(hown:Sub F W)(H:qCE.f x y z=some r):
    Cr 111 #[iv x,iv y,iv z] W (qCE.Post W F r):=by
 have S:=sT hown
 unfold qCE.f at H
 refine ent 15 rfl rfl rfl (fun a E=>?_)
 refine rr E fun a E=>(sq fun K2 hK2=>pl0 (plc E (.r 0 4 .nil) (fun a E=>E.fk 10 H (fun c3 E H=>?_) fun c3 E H=>?_)))
 refine plc E (.r 4 5 .nil) (fun a E=>pld (hK2 _ _ (wp_ret ?_)))
 obtain rfl:=si H
 exact rt1 E ⟨_,rfl,_,rfl,S⟩
 refine plc E (.r 4 5 .nil) (fun a E=>pld (hK2 _ _ (wp_ret ?_)))
 obtain rfl:=si H
 exact rt1 E ⟨_,rfl,_,rfl,S⟩
mutual
def qAQ.l9:Nat→List qA→Int→Option Int
 | 0,_,_=>none
 | k+1,x,x8=>if x8<(x.length:Int) then (if 0≤x8∧x8<(x.length:Int) then ((qCE.f ((nth qA.z x x8).f0) 1 999).bind fun t28=>(if t28=true then ((qCE.f ((nth qA.z x x8).f1) 1 9).bind fun t32=>(if t32=true then ((qCE.f ((nth qA.z x x8).f2) 1 9).bind fun t36=>(if t36=true then ((qCE.f ((nth qA.z x x8).f3) 0 65536).bind fun t40=>(if t40=true then (if x8>0 then (if 0≤(w64 (x8 - 1))∧(w64 (x8 - 1))<(x.length:Int) then (qAQ.j49 k x x8 (decide ((nth qA.z x x8).f0≤(nth qA.z x (w64 (x8 - 1))).f0))) else (none)) else (qAQ.j49 k x x8 false)) else (qAQ.j49 k x x8 true))) else (qAQ.j49 k x x8 true))) else (qAQ.j49 k x x8 true))) else (qAQ.j49 k x x8 true))) else (none)) else (some 0)
def qAQ.j49:Nat→List qA→Int→Bool→Option Int
 | 0,_,_,_=>none
 | k+1,x,x8,y48=>if y48=true then (some 1) else (qAQ.l9 k x (w64 (x8+1)))
end
theorem qAQ.l9_s k x x8:type_of% (qAQ.l9.eq_2 x x8 k):=qAQ.l9.eq_2 x x8 k
theorem qAQ.j49_s k x x8 y48:type_of% (qAQ.j49.eq_2 x x8 y48 k):=qAQ.j49.eq_2 x x8 y48 k
def qAQ.f(k:Nat)(x:List qA):Option Int:=if (x.length:Int)>12 then (some 1) else (qAQ.l9 k x 0)
def qAQ.Post(W F:World)(r:Int)(v:Value)(w':World):Prop:=∃(F':World),v=iv r∧Sm W F w' F' []
theorem qAQ.calls(k:Nat)(x:List qA)(A0_0:OA)(c0_0:Nat)(r:Int)(W F:World)(hown:Sub F W)(g0_0:Rd qA.k F A0_0 c0_0 x)(H:qAQ.f k x=some r):
    Cr 74 #[.slice A0_0 x.length c0_0] W (qAQ.Post W F r):=by
 have S:=sT hown
 unfold qAQ.f at H
 refine ent 53 rfl rfl rfl (fun a E=>?_)
 refine rr E fun a E=>(sq fun K2 hK2=>rr E fun a E=>(E.ik 7 H (fun c4 E H=>?_) fun c4 E H=>?_))
 refine rr E fun a E=>(wp_ret (qCQ ?_))
 obtain rfl:=si H
 exact rt1 E ⟨_,rfl,_,rfl,S⟩
 refine wp_skip (hK2 _ _ (sq fun K6 hK6=>rr E fun a E=>(wp_block ?_)))
 refine wp_loop_ghost (fun kq10 a w'=>∃(G:NV)(x8:Int),kq10≤k∧Env 53 G a∧At G [(0,.slice A0_0 x.length c0_0),(8,.slice A0_0 x.length c0_0),(9,iv (x.length:Int)),(10,iv x8)]∧Sm W F w' F []∧qAQ.l9 kq10 x x8=some r) k ⟨_,0,Nat.le_refl _,E,.of,S,H⟩ ?_
 rintro kq10 a u12 ⟨G,x8,hkq,E,A,S,H⟩
 obtain _ | k11:=kq10
 exact zz H
 rw [qAQ.l9_s]at H
 obtain ⟨J,E⟩:=E.at A
 refine rr E fun a E=>(sq fun K14 hK14=>E.ik 11 H (fun c15 E H=>?_) fun c15 E H=>?_)
 refine wp_skip (hK14 _ _ (sq fun K16 hK16=>wp_block (sq fun K17 hK17=>pl0 ?_)))
 obtain ⟨c18,H⟩:=gd H
 have hE_:=E
 obtain ⟨ad19,rfl⟩:=g0_0.addr c18.1 c18.2
 replace E:=hE_
 obtain ⟨cs21,rfl,hc22⟩:=g0_0.el qA.z x8 c18.1 c18.2
 refine plc E (.r 0 1<|.x 1 c18<|.cs 2 (S.fcs hc22)<|.nil) (fun a E=>pla (t:=68) E S [iv 0,iv 0,iv 0,iv 0,.bool false,.bool false] fun b23 u24 hb23 S a E=>plc E (.r 4 1 .nil) (fun a E=>pls E S [iv ((nth qA.z x x8).f0),iv ((nth qA.z x x8).f1),iv ((nth qA.z x x8).f2),iv ((nth qA.z x x8).f3),.bool ((nth qA.z x x8).f4),.bool ((nth qA.z x x8).f5)] fun u25 hb23 S a E=>pld (hK17 _ _ (sq fun K26 hK26=>?_))))
 have J52:∀ kq50,kq50≤k11→∀(G:NV)(y48:Bool)(a:Act)(w':World),Env 53 G a→At G [(0,.slice (some ad19) x.length c0_0),(8,.slice (some ad19) x.length c0_0),(9,iv (x.length:Int)),(10,iv x8),(51,.bool y48)]→Sm W F w' F [box b23 #[iv ((nth qA.z x x8).f0),iv ((nth qA.z x x8).f1),iv ((nth qA.z x x8).f2),iv ((nth qA.z x x8).f3),.bool ((nth qA.z x x8).f4),.bool ((nth qA.z x x8).f5)] 68]→qAQ.j49 kq50 x x8 y48=some r→K26 a w':=by
  intro kq50 hkq G y48 a u53 E A S H
  obtain _ | k51:=kq50
  exact zz H
  rw [qAQ.j49_s]at H
  obtain ⟨J,E⟩:=E.at A
  refine hK26 _ _ (E.ib 51 H (fun c54 E H=>?_) fun c54 E H=>?_)
  refine rr E fun a E=>(wp_ret (qCR (qCQ (qCQ (qCR (qCQ ?_))))))
  replace S:=S.tail
  obtain rfl:=si H
  exact rt1 E ⟨_,rfl,_,rfl,S⟩
  refine wp_skip ?_
  refine qCS ?_
  refine hK16 _ _ (pl0 (plc E (.r 0 2 .nil) (fun a E=>pld ?_)))
  replace S:=S.tail
  exact qCT ⟨k51,by omega,_,(w64 (x8+1)),by omega,E,.of,S,H⟩
 refine drawn 37 ⟨[],[],fun q=>False⟩ mixed rfl (by kernel_rfl) (fun hst=>?_)
 replace S:=S.drew
 have hb23:=S.ba 0
 refine mny 35 hst E (.r 0 1<|.b 1 0 hb23<|.nil) (fun a E=>?_)
 obtain ⟨t28,h29,H⟩:=bd H
 refine on1 2 E (.cl en111 (qCE.calls ((nth qA.z x x8).f0) 1 999 _ _ _ S.own.sub h29)) ?_
 rintro _ u27 a ⟨_,rfl,hC⟩ E
 refine ⟨.of hC.agr,?_⟩
 replace S:=S.lent hC
 refine mny 32 hst E (.r 3 2 .nil) (fun a E=>?_)
 refine E.fbn 19 H (fun c30 E H=>?_) fun c30 E H=>?_
 have hb23:=S.ba 0
 refine mny 30 hst E (.r 5 1<|.b 6 1 hb23<|.nil) (fun a E=>?_)
 obtain ⟨t32,h33,H⟩:=bd H
 refine on1 7 E (.cl en111 (qCE.calls ((nth qA.z x x8).f1) 1 9 _ _ _ S.own.sub h33)) ?_
 rintro _ u31 a ⟨_,rfl,hC⟩ E
 refine ⟨.of hC.agr,?_⟩
 replace S:=S.lent hC
 refine mny 26 hst E (.r 8 3 .nil) (fun a E=>?_)
 refine E.fbn 25 H (fun c34 E H=>?_) fun c34 E H=>?_
 have hb23:=S.ba 0
 refine mny 24 hst E (.r 11 1<|.b 12 2 hb23<|.nil) (fun a E=>?_)
 obtain ⟨t36,h37,H⟩:=bd H
 refine on1 13 E (.cl en111 (qCE.calls ((nth qA.z x x8).f2) 1 9 _ _ _ S.own.sub h37)) ?_
 rintro _ u35 a ⟨_,rfl,hC⟩ E
 refine ⟨.of hC.agr,?_⟩
 replace S:=S.lent hC
 refine mny 20 hst E (.r 14 3 .nil) (fun a E=>?_)
 refine E.fbn 31 H (fun c38 E H=>?_) fun c38 E H=>?_
 have hb23:=S.ba 0
 refine mny 18 hst E (.r 17 1<|.b 18 3 hb23<|.nil) (fun a E=>?_)
 obtain ⟨t40,h41,H⟩:=bd H
 refine on1 19 E (.cl en111 (qCE.calls ((nth qA.z x x8).f3) 0 65536 _ _ _ S.own.sub h41)) ?_
 rintro _ u39 a ⟨_,rfl,hC⟩ E
 refine ⟨.of hC.agr,?_⟩
 replace S:=S.lent hC
 refine mny 14 hst E (.r 20 3 .nil) (fun a E=>?_)
 refine E.fbn 37 H (fun c42 E H=>?_) fun c42 E H=>?_
 refine mny 11 hst E (.r 23 3 .nil) (fun a E=>?_)
 refine E.fk 40 H (fun c43 E H=>?_) fun c43 E H=>?_
 have hb23:=S.ba 0
 obtain ⟨c44,H⟩:=gd H
 obtain ⟨cs46,rfl,hc47⟩:=g0_0.el qA.z (w64 (x8 - 1)) c44.1 c44.2
 refine mny 0 hst E (.r 26 1<|.b 27 0 hb23<|.r 28 3<|.x 31 c44<|.r 32 1<|.c 33 (S.fc hc47 0)<|.r 34 3<|.nil) (fun a E=>?_)
 refine dn ?_
 exact J52 _ (by omega) _ (decide ((nth qA.z x x8).f0≤(nth qA.z x (w64 (x8 - 1))).f0)) _ _ E .of S H
 refine mny 0 hst E (.r 26 11 .nil) (fun a E=>?_)
 refine dn ?_
 exact J52 _ (by omega) _ false _ _ E .of S H
 refine mny 0 hst E (.r 23 14 .nil) (fun a E=>?_)
 refine dn ?_
 exact J52 _ (by omega) _ true _ _ E .of S H
 refine mny 0 hst E (.r 17 20 .nil) (fun a E=>?_)
 refine dn ?_
 exact J52 _ (by omega) _ true _ _ E .of S H
 refine mny 0 hst E (.r 11 26 .nil) (fun a E=>?_)
 refine dn ?_
 exact J52 _ (by omega) _ true _ _ E .of S H
 refine mny 0 hst E (.r 5 32 .nil) (fun a E=>?_)
 refine dn ?_
 exact J52 _ (by omega) _ true _ _ E .of S H
 refine wp_exit ?_
 refine hK6 _ _ (rr E fun a E=>(wp_ret ?_))
 obtain rfl:=si H
 exact rt1 E ⟨_,rfl,_,rfl,S⟩
def qAL.l5:Nat→List Int→Int→Int→Option Int
 | 0,_,_,_=>none
 | k+1,x,y,x4=>if x4<(x.length:Int) then (if 0≤x4∧x4<(x.length:Int) then (if y=(nth 0 x x4) then (some x4) else (qAL.l5 k x y (w64 (x4+1)))) else (none)) else (some (-1))
theorem qAL.l5_s k x y x4:type_of% (qAL.l5.eq_2 x y x4 k):=qAL.l5.eq_2 x y x4 k
def qAL.f(k:Nat)(x:List Int)(y:Int):Option Int:=qAL.l5 k x y 0
def qAL.Post(W F:World)(r:Int)(v:Value)(w':World):Prop:=∃(F':World),v=iv r∧Sm W F w' F' []
theorem qAL.calls(k:Nat)(x:List Int)(y:Int)(A0_0:OA)(c0_0:Nat)(r:Int)(W F:World)(hown:Sub F W)(g0_0:Rd ki F A0_0 c0_0 x)(H:qAL.f k x y=some r):
    Cr 112 #[.slice A0_0 x.length c0_0,iv y] W (qAL.Post W F r):=by
 have S:=sT hown
 unfold qAL.f at H
 refine ent 19 rfl rfl rfl (fun a E=>?_)
 refine rr E fun a E=>(sq fun K2 hK2=>rr E fun a E=>(wp_block ?_))
 refine wp_loop_ghost (fun kq6 a w'=>∃(G:NV)(x4:Int),kq6≤k∧Env 19 G a∧At G [(0,.slice A0_0 x.length c0_0),(1,iv y),(7,iv (x.length:Int)),(8,iv x4)]∧Sm W F w' F []∧qAL.l5 kq6 x y x4=some r) k ⟨_,0,Nat.le_refl _,E,.of,S,H⟩ ?_
 rintro kq6 a u8 ⟨G,x4,hkq,E,A,S,H⟩
 obtain _ | k7:=kq6
 exact zz H
 rw [qAL.l5_s]at H
 obtain ⟨J,E⟩:=E.at A
 refine rr E fun a E=>(sq fun K10 hK10=>E.ik 9 H (fun c11 E H=>?_) fun c11 E H=>?_)
 refine wp_skip (hK10 _ _ (sq fun K12 hK12=>wp_block (rr E fun a E=>(sq fun K14 hK14=>pl0 ?_))))
 obtain ⟨c15,H⟩:=gd H
 have hE_:=E
 obtain ⟨ad16,rfl⟩:=g0_0.addr c15.1 c15.2
 replace E:=hE_
 obtain ⟨cs18,rfl,hc19⟩:=g0_0.el 0 x4 c15.1 c15.2
 refine plc E (.r 0 3<|.x 3 c15<|.c 4 (S.fc hc19 0)<|.r 5 1<|.nil) (fun a E=>pld (hK14 _ _ (E.ik 16 H (fun c20 E H=>?_) fun c20 E H=>?_)))
 refine rr E fun a E=>(wp_ret (qCR (qCQ (qCQ (qCR (qCQ ?_))))))
 obtain rfl:=si H
 exact rt1 E ⟨_,rfl,_,rfl,S⟩
 refine wp_skip ?_
 refine qCS ?_
 refine hK12 _ _ (pl0 (plc E (.r 0 2 .nil) (fun a E=>pld ?_)))
 exact qCT ⟨k7,by omega,_,(w64 (x4+1)),by omega,E,.of,S,H⟩
 refine wp_exit ?_
 refine hK2 _ _ (rr E fun a E=>(wp_ret ?_))
 obtain rfl:=si H
 exact rt1 E ⟨_,rfl,_,rfl,S⟩
def qAG.f(k:Nat)(x:List Int)(y:Int):Option Bool:=(qAL.f k x y).bind fun t4=>(some (decide (t4≥0)))
def qAG.Post(W F:World)(r:Bool)(v:Value)(w':World):Prop:=∃(F':World),v = .bool r∧Sm W F w' F' []
theorem qAG.calls(k:Nat)(x:List Int)(y:Int)(A0_0:OA)(c0_0:Nat)(r:Bool)(W F:World)(hown:Sub F W)(g0_0:Rd ki F A0_0 c0_0 x)(H:qAG.f k x y=some r):
    Cr 75 #[.slice A0_0 x.length c0_0,iv y] W (qAG.Post W F r):=by
 have S:=sT hown
 unfold qAG.f at H
 refine ent 9 rfl rfl rfl (fun a E=>?_)
 refine rr E fun a E=>(sq fun K2 hK2=>pl0 (plc E (.r 0 2 .nil) (fun a E=>?_)))
 obtain ⟨t4,h5,H⟩:=bd H
 refine plq E S en112 (qAL.calls k x y _ _ _ _ _ S.own.sub g0_0 h5) fun u3 S a E=>plc E (.r 3 2 .nil) (fun a E=>pld (hK2 _ _ (wp_ret ?_)))
 obtain rfl:=si H
 exact rt1 E ⟨_,rfl,_,rfl,S⟩
mutual
def qAS.l18:Nat→List qA→List Int→List Int→Int→Option Bool
 | 0,_,_,_,_=>none
 | k+1,x,y,l16,x17=>if x17<(y.length:Int) then (if 0≤x17∧x17<(y.length:Int) then (qAS.l35 k x y l16 x17 0) else (none)) else (some true)
def qAS.l35:Nat→List qA→List Int→List Int→Int→Int→Option Bool
 | 0,_,_,_,_,_=>none
 | k+1,x,y,l16,x17,x34=>if x34<(x.length:Int) then (if 0≤x34∧x34<(x.length:Int) then (if (nth qA.z x x34).f0=(nth 0 y x17) then ((qAG.f k l16 ((nth qA.z x x34).f1)).bind fun t55=>(qAS.j58 k x y l16 x17 x34 (!t55))) else (qAS.j58 k x y l16 x17 x34 false)) else (none)) else (some false)
def qAS.j58:Nat→List qA→List Int→List Int→Int→Int→Bool→Option Bool
 | 0,_,_,_,_,_,_=>none
 | k+1,x,y,l16,x17,x34,y57=>if y57=true then (if ((l16.length:Int)+((1:Nat):Int)) * 8≤140737488355328 then (qAS.l18 k x y (l16++[(nth qA.z x x34).f1]) (w64 (x17+1))) else (none)) else (qAS.l35 k x y l16 x17 (w64 (x34+1)))
end
theorem qAS.l18_s k x y l16 x17:type_of% (qAS.l18.eq_2 x y l16 x17 k):=qAS.l18.eq_2 x y l16 x17 k
theorem qAS.l35_s k x y l16 x17 x34:type_of% (qAS.l35.eq_2 x y l16 x17 x34 k):=qAS.l35.eq_2 x y l16 x17 x34 k
theorem qAS.j58_s k x y l16 x17 x34 y57:type_of% (qAS.j58.eq_2 x y l16 x17 x34 y57 k):=qAS.j58.eq_2 x y l16 x17 x34 y57 k
def qAS.f(k:Nat)(x:List qA)(y:List Int):Option Bool:=(qAQ.f k x).bind fun t5=>(if t5=0 then (qAS.l18 k x y [] 0) else (some false))
def qAS.Post(W F:World)(r:Bool)(v:Value)(w':World):Prop:=∃(F':World),v = .bool r∧Sm W F w' F' []
theorem qAS.calls(k:Nat)(x:List qA)(y:List Int)(A0_0:OA)(c0_0:Nat)(A1_0:OA)(c1_0:Nat)(r:Bool)(W F:World)(hown:Sub F W)(g0_0:Rd qA.k F A0_0 c0_0 x)(g1_0:Rd ki F A1_0 c1_0 y)(H:qAS.f k x y=some r):
    Cr 45 #[.slice A0_0 x.length c0_0,.slice A1_0 y.length c1_0] W (qAS.Post W F r):=by
 have S:=sT hown
 unfold qAS.f at H
 refine ent 43 rfl rfl rfl (fun a E=>?_)
 refine rr E fun a E=>?_
 refine wp_scope_straight ?_
 refine sq fun K2 hK2=>sq fun K3 hK3=>pl0 (plc E (.r 0 1 .nil) (fun a E=>?_))
 obtain ⟨t5,h6,H⟩:=bd H
 refine plq E S en74 (qAQ.calls k x _ _ _ _ _ S.own.sub g0_0 h6) fun u4 S a E=>plc E (.r 2 1 .nil) (fun a E=>pld (hK3 _ _ (E.ikn 12 H (fun c7 E H=>?_) fun c7 E H=>?_)))
 refine wp_skip (hK2 _ _ (rr E fun a E=>(sq fun K10 hK10=>?_)))
 refine wp_label ?_
 refine hK10 _ _ (sq fun K11 hK11=>rr E fun a E=>(wp_block ?_))
 replace S:=S.nilrow ki 3
 refine wp_loop_ghost (fun kq19 a w'=>∃(G:NV)(A14:OA)(c15:Nat)(l16:List Int)(x17:Int),kq19≤k∧Env 43 G a∧At G [(0,.slice A0_0 x.length c0_0),(5,.slice A14 l16.length c15),(13,.slice A1_0 y.length c1_0),(14,iv (y.length:Int)),(15,iv x17)]∧Sm W F w' F [row ki 3 (.slice A14 l16.length c15) l16]∧qAS.l18 kq19 x y l16 x17=some r) k ⟨_,none,0,[],0,Nat.le_refl _,E,.of,S,H⟩ ?_
 rintro kq19 a u21 ⟨G,A14,c15,l16,x17,hkq,E,A,S,H⟩
 obtain _ | k20:=kq19
 exact zz H
 rw [qAS.l18_s]at H
 obtain ⟨J,E⟩:=E.at A
 refine rr E fun a E=>(sq fun K23 hK23=>E.ik 16 H (fun c24 E H=>?_) fun c24 E H=>?_)
 refine wp_skip (hK23 _ _ (sq fun K25 hK25=>wp_block (sq fun K26 hK26=>pl0 ?_)))
 obtain ⟨c27,H⟩:=gd H
 have hE_:=E
 obtain ⟨ad28,rfl⟩:=g1_0.addr c27.1 c27.2
 replace E:=hE_
 obtain ⟨cs30,rfl,hc31⟩:=g1_0.el 0 x17 c27.1 c27.2
 refine plc E (.x 0 c27<|.c 1 (S.fc hc31 0)<|.r 2 1<|.nil) (fun a E=>pld (hK26 _ _ (sq fun K32 hK32=>rr E fun a E=>(wp_block ?_))))
 refine wp_loop_ghost (fun kq36 a w'=>∃(G:NV)(x34:Int),kq36≤k20∧Env 43 G a∧At G [(0,.slice A0_0 x.length c0_0),(5,.slice A14 l16.length c15),(7,iv (nth 0 y x17)),(13,.slice (some ad28) y.length c1_0),(14,iv (y.length:Int)),(15,iv x17),(19,.slice A0_0 x.length c0_0),(20,iv (x.length:Int)),(21,iv x34)]∧Sm W F w' F [row ki 3 (.slice A14 l16.length c15) l16]∧qAS.l35 kq36 x y l16 x17 x34=some r) k20 ⟨_,0,Nat.le_refl _,E,.of,S,H⟩ ?_
 rintro kq36 a u38 ⟨G,x34,hkq,E,A,S,H⟩
 obtain _ | k37:=kq36
 exact zz H
 rw [qAS.l35_s]at H
 obtain ⟨J,E⟩:=E.at A
 refine rr E fun a E=>(sq fun K40 hK40=>E.ik 22 H (fun c41 E H=>?_) fun c41 E H=>?_)
 refine wp_skip (hK40 _ _ (sq fun K42 hK42=>wp_block (sq fun K43 hK43=>pl0 ?_)))
 obtain ⟨c44,H⟩:=gd H
 have hE_:=E
 obtain ⟨ad45,rfl⟩:=g0_0.addr c44.1 c44.2
 replace E:=hE_
 obtain ⟨cs47,rfl,hc48⟩:=g0_0.el qA.z x34 c44.1 c44.2
 refine plc E (.x 0 c44<|.cs 1 (S.fcs hc48)<|.nil) (fun a E=>pla (t:=68) E S [iv 0,iv 0,iv 0,iv 0,.bool false,.bool false] fun b49 u50 hb49 S a E=>pls E S [iv ((nth qA.z x x34).f0),iv ((nth qA.z x x34).f1),iv ((nth qA.z x x34).f2),iv ((nth qA.z x x34).f3),.bool ((nth qA.z x x34).f4),.bool ((nth qA.z x x34).f5)] fun u51 hb49 S a E=>pld (hK43 _ _ (sq fun K52 hK52=>?_)))
 have J61:∀ kq59,kq59≤k37→∀(G:NV)(y57:Bool)(a:Act)(w':World),Env 43 G a→At G [(0,.slice (some ad45) x.length c0_0),(5,.slice A14 l16.length c15),(7,iv (nth 0 y x17)),(9,.pointer (pb b49)),(13,.slice (some ad28) y.length c1_0),(14,iv (y.length:Int)),(15,iv x17),(19,.slice (some ad45) x.length c0_0),(20,iv (x.length:Int)),(21,iv x34),(35,.bool y57)]→Sm W F w' F [box b49 #[iv ((nth qA.z x x34).f0),iv ((nth qA.z x x34).f1),iv ((nth qA.z x x34).f2),iv ((nth qA.z x x34).f3),.bool ((nth qA.z x x34).f4),.bool ((nth qA.z x x34).f5)] 68,row ki 3 (.slice A14 l16.length c15) l16]→qAS.j58 kq59 x y l16 x17 x34 y57=some r→K52 a w':=by
  intro kq59 hkq G y57 a u62 E A S H
  obtain _ | k60:=kq59
  exact zz H
  rw [qAS.j58_s]at H
  obtain ⟨J,E⟩:=E.at A
  refine hK52 _ _ (E.ib 35 H (fun c63 E H=>?_) fun c63 E H=>?_)
  refine sq fun K64 hK64=>pl0 (plc E (.r 0 2<|.b 2 1 (S.ba 0)<|.nil) (fun a E=>ple E (.lit (d:=ki) (e:=3) S [(nth qA.z x x34).f1] (.cons rfl .nil)) ?_))
  rintro _ u65 a ⟨A66,c67,rfl,S,hg⟩ E
  obtain ⟨c69,H⟩:=gd H
  replace S:=S.front 2 rfl
  refine ple E (.ap (d:=ki) 8 S (qCX (S.row_at (i:=1) rfl)) c69 c67) ?_
  rintro _ u72 a ⟨A70,c71,rfl,S,hz⟩ E
  refine plc E (.r 5 1 .nil) (fun a E=>pld (hK64 _ _ ?_))
  refine wp_exit ?_
  refine hK25 _ _ (pl0 (plc E (.r 0 2 .nil) (fun a E=>pld ?_)))
  replace S:=S.pm [0] 3
  exact qCT ⟨k60,by omega,_,A70,c71,(l16++[(nth qA.z x x34).f1]),(w64 (x17+1)),by omega,E,.of,S,H⟩
  refine wp_skip ?_
  refine qCS ?_
  refine hK42 _ _ (pl0 (plc E (.r 0 2 .nil) (fun a E=>pld ?_)))
  replace S:=S.tail
  exact qCT ⟨k60,by omega,_,(w64 (x34+1)),by omega,E,.of,S,H⟩
 refine pl0 (plc E (.r 0 1<|.b 1 0 hb49<|.r 2 3<|.nil) (fun a E=>E.fk 29 H (fun c53 E H=>?_) fun c53 E H=>?_))
 refine plc E (.r 5 2<|.b 7 1 hb49<|.nil) (fun a E=>?_)
 obtain ⟨t55,h56,H⟩:=bd H
 refine plq E S en75 (qAG.calls k37 l16 ((nth qA.z x x34).f1) _ _ _ _ _ (Sub.refl _) (S.rd_at (i:=1) rfl) h56) fun u54 S a E=>plc E (.r 9 2 .nil) (fun a E=>pld ?_)
 exact J61 _ (by omega) _ (!t55) _ _ E .of S H
 refine plc E (.r 5 6 .nil) (fun a E=>pld ?_)
 exact J61 _ (by omega) _ false _ _ E .of S H
 refine wp_exit ?_
 refine hK32 _ _ (rr E fun a E=>(wp_ret (qCR (qCQ (qCQ (qCR (qCQ (qEH ?_))))))))
 replace S:=S.tail
 obtain rfl:=si H
 exact rt1 E ⟨_,rfl,_,rfl,S⟩
 refine wp_exit ?_
 refine hK11 _ _ (rr E fun a E=>(wp_ret (qEH ?_)))
 replace S:=S.tail
 obtain rfl:=si H
 exact rt1 E ⟨_,rfl,_,rfl,S⟩
 refine rr E fun a E=>(wp_ret (qCQ (qEH ?_)))
 obtain rfl:=si H
 exact rt1 E ⟨_,rfl,_,rfl,S⟩
def qBK.f(x:Int)(y:Int)(z:Int):Option Bool:=if x≥y then (some (decide (x≤z))) else (some false)
def qBK.Post(W F:World)(r:Bool)(v:Value)(w':World):Prop:=∃(F':World),v = .bool r∧Sm W F w' F' []
theorem qBK.calls(x:Int)(y:Int)(z:Int)(r:Bool)(W F:World)(hown:Sub F W)(H:qBK.f x y z=some r):
    Cr 93 #[iv x,iv y,iv z] W (qBK.Post W F r):=by
 have S:=sT hown
 unfold qBK.f at H
 refine ent 15 rfl rfl rfl (fun a E=>?_)
 refine rr E fun a E=>(sq fun K2 hK2=>pl0 (plc E (.r 0 4 .nil) (fun a E=>E.fk 10 H (fun c3 E H=>?_) fun c3 E H=>?_)))
 refine plc E (.r 4 5 .nil) (fun a E=>pld (hK2 _ _ (wp_ret ?_)))
 obtain rfl:=si H
 exact rt1 E ⟨_,rfl,_,rfl,S⟩
 refine plc E (.r 4 5 .nil) (fun a E=>pld (hK2 _ _ (wp_ret ?_)))
 obtain rfl:=si H
 exact rt1 E ⟨_,rfl,_,rfl,S⟩
def qq.l9:Nat→List Int→List Int→Int→Option Bool
 | 0,_,_,_=>none
 | k+1,x,y,x8=>if x8<(x.length:Int) then (if 0≤x8∧x8<(x.length:Int) then (if 0≤x8∧x8<(y.length:Int) then (if (nth 0 x x8)=(nth 0 y x8) then (qq.l9 k x y (w64 (x8+1))) else (some false)) else (none)) else (none)) else (some true)
theorem qq.l9_s k x y x8:type_of% (qq.l9.eq_2 x y x8 k):=qq.l9.eq_2 x y x8 k
def qq.f(k:Nat)(x:List Int)(y:List Int):Option Bool:=if (x.length:Int)=(y.length:Int) then (qq.l9 k x y 0) else (some false)
def qq.Post(W F:World)(r:Bool)(v:Value)(w':World):Prop:=∃(F':World),v = .bool r∧Sm W F w' F' []
theorem qq.calls(k:Nat)(x:List Int)(y:List Int)(A0_0:OA)(c0_0:Nat)(A1_0:OA)(c1_0:Nat)(r:Bool)(W F:World)(hown:Sub F W)(g0_0:Rd ki F A0_0 c0_0 x)(g1_0:Rd ki F A1_0 c1_0 y)(H:qq.f k x y=some r):
    Cr 63 #[.slice A0_0 x.length c0_0,.slice A1_0 y.length c1_0] W (qq.Post W F r):=by
 have S:=sT hown
 unfold qq.f at H
 refine ent 26 rfl rfl rfl (fun a E=>?_)
 refine rr E fun a E=>(sq fun K2 hK2=>rr E fun a E=>(E.ikn 10 H (fun c4 E H=>?_) fun c4 E H=>?_))
 refine wp_skip (hK2 _ _ (sq fun K6 hK6=>rr E fun a E=>(wp_block ?_)))
 refine wp_loop_ghost (fun kq10 a w'=>∃(G:NV)(x8:Int),kq10≤k∧Env 26 G a∧At G [(0,.slice A0_0 x.length c0_0),(1,.slice A1_0 y.length c1_0),(12,iv (x.length:Int)),(13,iv x8)]∧Sm W F w' F []∧qq.l9 kq10 x y x8=some r) k ⟨_,0,Nat.le_refl _,E,.of,S,H⟩ ?_
 rintro kq10 a u12 ⟨G,x8,hkq,E,A,S,H⟩
 obtain _ | k11:=kq10
 exact zz H
 rw [qq.l9_s]at H
 obtain ⟨J,E⟩:=E.at A
 refine rr E fun a E=>(sq fun K14 hK14=>E.ik 14 H (fun c15 E H=>?_) fun c15 E H=>?_)
 refine wp_skip (hK14 _ _ (sq fun K16 hK16=>wp_block (rr E fun a E=>(sq fun K18 hK18=>?_))))
 refine drawn 9 ⟨[],[],fun q=>False⟩ mixed rfl (by kernel_rfl) (fun hst=>?_)
 replace S:=S.drew
 obtain ⟨c19,H⟩:=gd H
 have hE_:=E
 obtain ⟨ad20,rfl⟩:=g0_0.addr c19.1 c19.2
 replace E:=hE_
 obtain ⟨cs22,rfl,hc23⟩:=g0_0.el 0 x8 c19.1 c19.2
 obtain ⟨c24,H⟩:=gd H
 have hE_:=E
 obtain ⟨ad25,rfl⟩:=g1_0.addr c24.1 c24.2
 replace E:=hE_
 obtain ⟨cs27,rfl,hc28⟩:=g1_0.el 0 x8 c24.1 c24.2
 refine mny 0 hst E (.r 0 2<|.x 2 c19<|.c 3 (S.fc hc23 0)<|.r 4 2<|.x 6 c24<|.c 7 (S.fc hc28 0)<|.r 8 1<|.nil) (fun a E=>?_)
 refine dn ?_
 refine hK18 _ _ (E.ikn 24 H (fun c29 E H=>?_) fun c29 E H=>?_)
 refine wp_skip ?_
 refine qCS ?_
 refine hK16 _ _ (pl0 (plc E (.r 0 2 .nil) (fun a E=>pld ?_)))
 exact qCT ⟨k11,by omega,_,(w64 (x8+1)),by omega,E,.of,S,H⟩
 refine rr E fun a E=>(wp_ret (qCR (qCQ (qCQ (qCR (qCQ ?_))))))
 obtain rfl:=si H
 exact rt1 E ⟨_,rfl,_,rfl,S⟩
 refine wp_exit ?_
 refine hK6 _ _ (rr E fun a E=>(wp_ret ?_))
 obtain rfl:=si H
 exact rt1 E ⟨_,rfl,_,rfl,S⟩
 refine rr E fun a E=>(wp_ret (qCQ ?_))
 obtain rfl:=si H
 exact rt1 E ⟨_,rfl,_,rfl,S⟩
def qBs.f(k:Nat)(x:qG)(xf0_:qG):Option Bool:=(qq.f k x.f1 xf0_.f1).bind fun t6=>(some t6)
def qBs.Post(W F:World)(r:Bool)(v:Value)(w':World):Prop:=∃(F':World),v = .bool r∧Sm W F w' F' []
theorem qBs.calls(k:Nat)(x:qG)(xf0_:qG)(A0_1:OA)(c0_1:Nat)(pf0_:Nat)(Af0_1:OA)(cf0_1:Nat)(r:Bool)(W F:World)(hown:Sub F W)(g0_1:Rd ki F A0_1 c0_1 x.f1)(gf0_1:Rd ki F Af0_1 cf0_1 xf0_.f1)(hpf0_:F.heap[pf0_]? = some (.cells #[iv xf0_.f0,.slice Af0_1 xf0_.f1.length cf0_1] 77 (0,0)))(H:qBs.f k x xf0_=some r):
    Cr 150 #[.agg #[iv x.f0,.slice A0_1 x.f1.length c0_1],.pointer (pb pf0_)] W (qBs.Post W F r):=by
 have S:=sT hown
 unfold qBs.f at H
 refine ent 9 rfl rfl rfl (fun a E=>?_)
 refine sq fun K1 hK1=>pl0 (plx (t:=77) E S [iv x.f0,.slice A0_1 x.f1.length c0_1] fun b2 u3 hb2 S a E=>plc E (.r 1 1 .nil) (fun a E=>pld (hK1 _ _ (sq fun K4 hK4=>pl0 (plc E (.r 0 1<|.b 1 1 hb2<|.r 2 1<|.b 3 1 (S.own.sub _ _ _ _ hpf0_)<|.nil) (fun a E=>?_))))))
 obtain ⟨t6,h7,H⟩:=bd H
 refine plq E S en63 (qq.calls k x.f1 xf0_.f1 _ _ _ _ _ _ _ S.own.sub g0_1 gf0_1 h7) fun u5 S a E=>plc E (.r 5 1 .nil) (fun a E=>pld (hK4 _ _ (wp_ret ?_)))
 replace S:=S.tail
 obtain rfl:=si H
 exact rt1 E ⟨_,rfl,_,rfl,S⟩
def qX.l5:Nat→List qG→qG→Int→Option Int
 | 0,_,_,_=>none
 | k+1,x,x1c0_,x4=>if x4<(x.length:Int) then (if 0≤x4∧x4<(x.length:Int) then ((qBs.f k (nth qG.z x x4) x1c0_).bind fun t24=>(if t24=true then (some x4) else (qX.l5 k x x1c0_ (w64 (x4+1))))) else (none)) else (some (-1))
theorem qX.l5_s k x x1c0_ x4:type_of% (qX.l5.eq_2 x x1c0_ x4 k):=qX.l5.eq_2 x x1c0_ x4 k
def qX.f(k:Nat)(x:List qG)(x1c0_:qG):Option Int:=qX.l5 k x x1c0_ 0
def qX.Post(W F:World)(r:Int)(v:Value)(w':World):Prop:=∃(F':World),v=iv r∧Sm W F w' F' []
theorem qX.calls(k:Nat)(x:List qG)(x1c0_:qG)(A0_0:OA)(c0_0:Nat)(p1c0_:Nat)(A1c0_1:OA)(c1c0_1:Nat)(r:Int)(W F:World)(hown:Sub F W)(g0_0:Rd qG.k F A0_0 c0_0 x)(g1c0_1:Rd ki F A1c0_1 c1c0_1 x1c0_.f1)(hp1c0_:F.heap[p1c0_]? = some (.cells #[iv x1c0_.f0,.slice A1c0_1 x1c0_.f1.length c1c0_1] 77 (0,0)))(H:qX.f k x x1c0_=some r):
    Cr 136 #[.slice A0_0 x.length c0_0,.func (.func 150) #[] #[.pointer (pb p1c0_)]] W (qX.Post W F r):=by
 have S:=sT hown
 unfold qX.f at H
 refine ent 19 rfl rfl rfl (fun a E=>?_)
 refine rr E fun a E=>(sq fun K2 hK2=>rr E fun a E=>(wp_block ?_))
 refine wp_loop_ghost (fun kq6 a w'=>∃(G:NV)(x4:Int),kq6≤k∧Env 19 G a∧At G [(0,.slice A0_0 x.length c0_0),(1,.func (.func 150) #[] #[.pointer (pb p1c0_)]),(7,iv (x.length:Int)),(8,iv x4)]∧Sm W F w' F []∧qX.l5 kq6 x x1c0_ x4=some r) k ⟨_,0,Nat.le_refl _,E,.of,S,H⟩ ?_
 rintro kq6 a u8 ⟨G,x4,hkq,E,A,S,H⟩
 obtain _ | k7:=kq6
 exact zz H
 rw [qX.l5_s]at H
 obtain ⟨J,E⟩:=E.at A
 refine rr E fun a E=>(sq fun K10 hK10=>E.ik 9 H (fun c11 E H=>?_) fun c11 E H=>?_)
 refine wp_skip (hK10 _ _ (sq fun K12 hK12=>wp_block (rr E fun a E=>(sq fun K14 hK14=>pl0 ?_))))
 obtain ⟨c15,H⟩:=gd H
 have hE_:=E
 obtain ⟨ad16,rfl⟩:=g0_0.addr c15.1 c15.2
 replace E:=hE_
 obtain ⟨cs18,⟨A20,c21,rfl,g22⟩,hc19⟩:=g0_0.el qG.z x4 c15.1 c15.2
 refine plc E (.r 0 3<|.x 3 c15<|.cs 4 (S.fcs hc19)<|.nil) (fun a E=>?_)
 obtain ⟨t24,h25,H⟩:=bd H
 refine plq E S en150 (qBs.calls k7 (nth qG.z x x4) x1c0_ _ _ _ _ _ _ _ _ S.own.sub g22 g1c0_1 hp1c0_ h25) fun u23 S a E=>pld (hK14 _ _ (E.ib 16 H (fun c26 E H=>?_) fun c26 E H=>?_))
 refine rr E fun a E=>(wp_ret (qCR (qCQ (qCQ (qCR (qCQ ?_))))))
 obtain rfl:=si H
 exact rt1 E ⟨_,rfl,_,rfl,S⟩
 refine wp_skip ?_
 refine qCS ?_
 refine hK12 _ _ (pl0 (plc E (.r 0 2 .nil) (fun a E=>pld ?_)))
 exact qCT ⟨k7,by omega,_,(w64 (x4+1)),by omega,E,.of,S,H⟩
 refine wp_exit ?_
 refine hK2 _ _ (rr E fun a E=>(wp_ret ?_))
 obtain rfl:=si H
 exact rt1 E ⟨_,rfl,_,rfl,S⟩
def qt.f(k:Nat)(x:List qG)(x1c0_:qG):Option Bool:=(qX.f k x x1c0_).bind fun t4=>(some (decide (t4≥0)))
def qt.Post(W F:World)(r:Bool)(v:Value)(w':World):Prop:=∃(F':World),v = .bool r∧Sm W F w' F' []
theorem qt.calls(k:Nat)(x:List qG)(x1c0_:qG)(A0_0:OA)(c0_0:Nat)(p1c0_:Nat)(A1c0_1:OA)(c1c0_1:Nat)(r:Bool)(W F:World)(hown:Sub F W)(g0_0:Rd qG.k F A0_0 c0_0 x)(g1c0_1:Rd ki F A1c0_1 c1c0_1 x1c0_.f1)(hp1c0_:F.heap[p1c0_]? = some (.cells #[iv x1c0_.f0,.slice A1c0_1 x1c0_.f1.length c1c0_1] 77 (0,0)))(H:qt.f k x x1c0_=some r):
    Cr 149 #[.slice A0_0 x.length c0_0,.func (.func 150) #[] #[.pointer (pb p1c0_)]] W (qt.Post W F r):=by
 have S:=sT hown
 unfold qt.f at H
 refine ent 9 rfl rfl rfl (fun a E=>?_)
 refine rr E fun a E=>(sq fun K2 hK2=>pl0 (plc E (.r 0 2 .nil) (fun a E=>?_)))
 obtain ⟨t4,h5,H⟩:=bd H
 refine plq E S en136 (qX.calls k x x1c0_ _ _ _ _ _ _ _ _ S.own.sub g0_0 g1c0_1 hp1c0_ h5) fun u3 S a E=>plc E (.r 3 2 .nil) (fun a E=>pld (hK2 _ _ (wp_ret ?_)))
 obtain rfl:=si H
 exact rt1 E ⟨_,rfl,_,rfl,S⟩
mutual
def qAT.l9:Nat→qD→qC→Int→Option Bool
 | 0,_,_,_=>none
 | k+1,x,y,x8=>if x8<(y.f1.length:Int) then (if 0≤x8∧x8<(y.f1.length:Int) then ((qBK.f ((nth qG.z y.f1 x8).f0) 0 (w64 (y.f0 - 1))).bind fun t32=>(if t32=true then (if x8>0 then (if 0≤(w64 (x8 - 1))∧(w64 (x8 - 1))<(y.f1.length:Int) then (if (nth qG.z y.f1 x8).f0≤(nth qG.z y.f1 (w64 (x8 - 1))).f0 then (qAT.j51 k x y x8 true) else ((qBK.f (((nth qG.z y.f1 x8).f1).length:Int) x.f2 x.f1).bind fun t45=>(qAT.j51 k x y x8 (!t45)))) else (none)) else ((qBK.f (((nth qG.z y.f1 x8).f1).length:Int) x.f2 x.f1).bind fun t48=>(qAT.j51 k x y x8 (!t48)))) else (qAT.j51 k x y x8 true))) else (none)) else (some true)
def qAT.j51:Nat→qD→qC→Int→Bool→Option Bool
 | 0,_,_,_,_=>none
 | k+1,x,y,x8,y50=>if y50=true then (some false) else (qAT.l61 k x y x8 0)
def qAT.l61:Nat→qD→qC→Int→Int→Option Bool
 | 0,_,_,_,_=>none
 | k+1,x,y,x8,x60=>if x60<(((nth qG.z y.f1 x8).f1).length:Int) then (if 0≤x60∧x60<(((nth qG.z y.f1 x8).f1).length:Int) then ((qBK.f (nth 0 ((nth qG.z y.f1 x8).f1) x60) 1 999).bind fun t77=>(if t77=true then (if x60>0 then (if 0≤(w64 (x60 - 1))∧(w64 (x60 - 1))<(((nth qG.z y.f1 x8).f1).length:Int) then (qAT.j86 k x y x8 x60 (decide ((nth 0 ((nth qG.z y.f1 x8).f1) x60)≤(nth 0 ((nth qG.z y.f1 x8).f1) (w64 (x60 - 1)))))) else (none)) else (qAT.j86 k x y x8 x60 false)) else (qAT.j86 k x y x8 x60 true))) else (none)) else (if 0≤x8∧x8≤(y.f1.length:Int) then ((qt.f k (cutl y.f1 0 x8) (nth qG.z y.f1 x8)).bind fun t100=>(if t100=true then (some false) else (qAT.l9 k x y (w64 (x8+1))))) else (none))
def qAT.j86:Nat→qD→qC→Int→Int→Bool→Option Bool
 | 0,_,_,_,_,_=>none
 | k+1,x,y,x8,x60,y85=>if y85=true then (some false) else (qAT.l61 k x y x8 (w64 (x60+1)))
end
theorem qAT.l9_s k x y x8:type_of% (qAT.l9.eq_2 x y x8 k):=qAT.l9.eq_2 x y x8 k
theorem qAT.j51_s k x y x8 y50:type_of% (qAT.j51.eq_2 x y x8 y50 k):=qAT.j51.eq_2 x y x8 y50 k
theorem qAT.l61_s k x y x8 x60:type_of% (qAT.l61.eq_2 x y x8 x60 k):=qAT.l61.eq_2 x y x8 x60 k
theorem qAT.j86_s k x y x8 x60 y85:type_of% (qAT.j86.eq_2 x y x8 x60 y85 k):=qAT.j86.eq_2 x y x8 x60 y85 k
def qAT.f(k:Nat)(x:qD)(y:qC):Option Bool:=qAT.l9 k x y 0
def qAT.Post(W F:World)(r:Bool)(v:Value)(w':World):Prop:=∃(F':World),v = .bool r∧Sm W F w' F' []
theorem qAT.calls(k:Nat)(x:qD)(y:qC)(A0_4:OA)(c0_4:Nat)(A0_5:OA)(c0_5:Nat)(A0_6:OA)(c0_6:Nat)(A1_1:OA)(c1_1:Nat)(r:Bool)(W F:World)(hown:Sub F W)(g0_4:Rd qA.k F A0_4 c0_4 x.f4)(g0_5:Rd qE.k F A0_5 c0_5 x.f5)(g0_6:Rd qC.k F A0_6 c0_6 x.f6)(g1_1:Rd qG.k F A1_1 c1_1 y.f1)(H:qAT.f k x y=some r):
    Cr 122 #[.agg #[iv x.f0,iv x.f1,iv x.f2,iv x.f3,.slice A0_4 x.f4.length c0_4,.slice A0_5 x.f5.length c0_5,.slice A0_6 x.f6.length c0_6],.agg #[iv y.f0,.slice A1_1 y.f1.length c1_1]] W (qAT.Post W F r):=by
 have S:=sT hown
 unfold qAT.f at H
 refine ent 84 rfl rfl rfl (fun a E=>?_)
 refine sq fun K1 hK1=>pl0 (plx (t:=26) E S [iv x.f0,iv x.f1,iv x.f2,iv x.f3,.slice A0_4 x.f4.length c0_4,.slice A0_5 x.f5.length c0_5,.slice A0_6 x.f6.length c0_6] fun b2 u3 hb2 S a E=>plx (t:=73) E S [iv y.f0,.slice A1_1 y.f1.length c1_1] fun b4 u5 hb4 S a E=>plc E (.r 2 1 .nil) (fun a E=>pld (hK1 _ _ (sq fun K6 hK6=>rg E (.r 0 1<|.b 1 1 hb4<|.r 2 2<|.nil) fun a E=>(wp_block ?_)))))
 refine wp_loop_ghost (fun kq10 a w'=>∃(G:NV)(x8:Int),kq10≤k∧Env 84 G a∧At G [(2,.pointer (pb b2)),(3,.pointer (pb b4)),(10,.slice A1_1 y.f1.length c1_1),(11,iv (y.f1.length:Int)),(12,iv x8)]∧Sm W F w' F [box b4 #[iv y.f0,.slice A1_1 y.f1.length c1_1] 73,box b2 #[iv x.f0,iv x.f1,iv x.f2,iv x.f3,.slice A0_4 x.f4.length c0_4,.slice A0_5 x.f5.length c0_5,.slice A0_6 x.f6.length c0_6] 26]∧qAT.l9 kq10 x y x8=some r) k ⟨_,0,Nat.le_refl _,E,.of,S,H⟩ ?_
 rintro kq10 a u12 ⟨G,x8,hkq,E,A,S,H⟩
 obtain _ | k11:=kq10
 exact zz H
 rw [qAT.l9_s]at H
 obtain ⟨J,E⟩:=E.at A
 refine rr E fun a E=>(sq fun K14 hK14=>E.ik 13 H (fun c15 E H=>?_) fun c15 E H=>?_)
 refine wp_skip (hK14 _ _ (sq fun K16 hK16=>wp_block (sq fun K17 hK17=>pl0 ?_)))
 obtain ⟨c18,H⟩:=gd H
 have hE_:=E
 obtain ⟨ad19,rfl⟩:=g1_1.addr c18.1 c18.2
 replace E:=hE_
 obtain ⟨cs21,⟨A23,c24,rfl,g25⟩,hc22⟩:=g1_1.el qG.z x8 c18.1 c18.2
 refine plc E (.r 0 1<|.x 1 c18<|.cs 2 (S.fcs hc22)<|.nil) (fun a E=>pla (t:=77) E S [iv 0,.slice none 0 0] fun b26 u27 hb26 S a E=>plc E (.r 4 1 .nil) (fun a E=>pls E S [iv ((nth qG.z y.f1 x8).f0),.slice A23 (((nth qG.z y.f1 x8).f1).length) c24] fun u28 hb26 S a E=>pld (hK17 _ _ (sq fun K29 hK29=>sq fun K30 hK30=>?_))))
 have J54:∀ kq52,kq52≤k11→∀(G:NV)(y50:Bool)(a:Act)(w':World),Env 84 G a→At G [(2,.pointer (pb b2)),(3,.pointer (pb b4)),(5,iv x8),(6,.pointer (pb b26)),(10,.slice (some ad19) y.f1.length c1_1),(11,iv (y.f1.length:Int)),(12,iv x8),(50,.bool y50)]→Sm W F w' F [box b26 #[iv ((nth qG.z y.f1 x8).f0),.slice A23 (((nth qG.z y.f1 x8).f1).length) c24] 77,box b4 #[iv y.f0,.slice (some ad19) y.f1.length c1_1] 73,box b2 #[iv x.f0,iv x.f1,iv x.f2,iv x.f3,.slice A0_4 x.f4.length c0_4,.slice A0_5 x.f5.length c0_5,.slice A0_6 x.f6.length c0_6] 26]→qAT.j51 kq52 x y x8 y50=some r→K30 a w':=by
  intro kq52 hkq G y50 a u55 E A S H
  obtain _ | k53:=kq52
  exact zz H
  rw [qAT.j51_s]at H
  obtain ⟨J,E⟩:=E.at A
  refine hK30 _ _ (E.ib 50 H (fun c56 E H=>?_) fun c56 E H=>?_)
  refine rr E fun a E=>(wp_ret (qCQ (qCR (qCQ (qCQ (qCR (qCQ ?_)))))))
  replace S:=S.pm [] 3
  obtain rfl:=si H
  exact rt1 E ⟨_,rfl,_,rfl,S⟩
  refine wp_skip (hK29 _ _ (sq fun K58 hK58=>sq fun K59 hK59=>pl0 ?_))
  have hb26:=S.ba 0
  refine plc E (.r 0 1<|.b 1 1 hb26<|.r 2 2<|.nil) (fun a E=>pld (hK59 _ _ (wp_block ?_)))
  refine wp_loop_ghost (fun kq62 a w'=>∃(G:NV)(x60:Int),kq62≤k53∧Env 84 G a∧At G [(2,.pointer (pb b2)),(3,.pointer (pb b4)),(5,iv x8),(6,.pointer (pb b26)),(10,.slice (some ad19) y.f1.length c1_1),(11,iv (y.f1.length:Int)),(12,iv x8),(52,.slice A23 (((nth qG.z y.f1 x8).f1).length) c24),(53,iv (((nth qG.z y.f1 x8).f1).length:Int)),(54,iv x60)]∧Sm W F w' F [box b26 #[iv ((nth qG.z y.f1 x8).f0),.slice A23 (((nth qG.z y.f1 x8).f1).length) c24] 77,box b4 #[iv y.f0,.slice (some ad19) y.f1.length c1_1] 73,box b2 #[iv x.f0,iv x.f1,iv x.f2,iv x.f3,.slice A0_4 x.f4.length c0_4,.slice A0_5 x.f5.length c0_5,.slice A0_6 x.f6.length c0_6] 26]∧qAT.l61 kq62 x y x8 x60=some r) k53 ⟨_,0,Nat.le_refl _,E,.of,S,H⟩ ?_
  rintro kq62 a u64 ⟨G,x60,hkq,E,A,S,H⟩
  obtain _ | k63:=kq62
  exact zz H
  rw [qAT.l61_s]at H
  obtain ⟨J,E⟩:=E.at A
  refine rr E fun a E=>(sq fun K66 hK66=>E.ik 55 H (fun c67 E H=>?_) fun c67 E H=>?_)
  refine wp_skip (hK66 _ _ (sq fun K68 hK68=>wp_block (sq fun K69 hK69=>pl0 ?_)))
  obtain ⟨c70,H⟩:=gd H
  have hE_:=E
  obtain ⟨ad71,rfl⟩:=g25.addr c70.1 c70.2
  replace E:=hE_
  obtain ⟨cs73,rfl,hc74⟩:=g25.el 0 x60 c70.1 c70.2
  refine plc E (.r 0 1<|.x 1 c70<|.c 2 (S.fc hc74 0)<|.r 3 2<|.nil) (fun a E=>pld (hK69 _ _ (sq fun K75 hK75=>?_)))
  have J89:∀ kq87,kq87≤k63→∀(G:NV)(y85:Bool)(a:Act)(w':World),Env 84 G a→At G [(2,.pointer (pb b2)),(3,.pointer (pb b4)),(5,iv x8),(6,.pointer (pb b26)),(10,.slice (some ad19) y.f1.length c1_1),(11,iv (y.f1.length:Int)),(12,iv x8),(52,.slice (some ad71) (((nth qG.z y.f1 x8).f1).length) c24),(53,iv (((nth qG.z y.f1 x8).f1).length:Int)),(54,iv x60),(75,.bool y85)]→Sm W F w' F [box b26 #[iv ((nth qG.z y.f1 x8).f0),.slice (some ad71) (((nth qG.z y.f1 x8).f1).length) c24] 77,box b4 #[iv y.f0,.slice (some ad19) y.f1.length c1_1] 73,box b2 #[iv x.f0,iv x.f1,iv x.f2,iv x.f3,.slice A0_4 x.f4.length c0_4,.slice A0_5 x.f5.length c0_5,.slice A0_6 x.f6.length c0_6] 26]→qAT.j86 kq87 x y x8 x60 y85=some r→K75 a w':=by
   intro kq87 hkq G y85 a u90 E A S H
   obtain _ | k88:=kq87
   exact zz H
   rw [qAT.j86_s]at H
   obtain ⟨J,E⟩:=E.at A
   refine hK75 _ _ (E.ib 75 H (fun c91 E H=>?_) fun c91 E H=>?_)
   refine rr E fun a E=>(wp_ret (qCR (qCQ (qCQ (qCR (qCQ (qCR (qCQ (qCQ (qCR (qCQ ?_)))))))))))
   replace S:=S.pm [] 3
   obtain rfl:=si H
   exact rt1 E ⟨_,rfl,_,rfl,S⟩
   refine wp_skip ?_
   refine qCS ?_
   refine hK68 _ _ (pl0 (plc E (.r 0 2 .nil) (fun a E=>pld ?_)))
   exact qCT ⟨k88,by omega,_,(w64 (x60+1)),by omega,E,.of,S,H⟩
  refine pl0 (plc E (.r 0 1 .nil) (fun a E=>?_))
  obtain ⟨t77,h78,H⟩:=bd H
  refine plq E S en93 (qBK.calls (nth 0 ((nth qG.z y.f1 x8).f1) x60) 1 999 _ _ _ S.own.sub h78) fun u76 S a E=>plc E (.r 2 2 .nil) (fun a E=>E.fbn 62 H (fun c79 E H=>?_) fun c79 E H=>?_)
  refine plc E (.r 4 3 .nil) (fun a E=>E.fk 65 H (fun c80 E H=>?_) fun c80 E H=>?_)
  have hb26:=S.ba 0
  obtain ⟨c81,H⟩:=gd H
  obtain ⟨cs83,rfl,hc84⟩:=g25.el 0 (w64 (x60 - 1)) c81.1 c81.2
  refine plc E (.r 7 2<|.b 9 1 hb26<|.r 10 2<|.x 12 c81<|.c 13 (S.fc hc84 0)<|.r 14 3<|.nil) (fun a E=>pld ?_)
  exact J89 _ (by omega) _ (decide ((nth 0 ((nth qG.z y.f1 x8).f1) x60)≤(nth 0 ((nth qG.z y.f1 x8).f1) (w64 (x60 - 1))))) _ _ E .of S H
  refine plc E (.r 7 10 .nil) (fun a E=>pld ?_)
  exact J89 _ (by omega) _ false _ _ E .of S H
  refine plc E (.r 4 13 .nil) (fun a E=>pld ?_)
  exact J89 _ (by omega) _ true _ _ E .of S H
  refine wp_exit ?_
  refine hK58 _ _ (sq fun K93 hK93=>pl0 ?_)
  have hb4:=S.ba 1
  obtain ⟨c94,H⟩:=gd H
  obtain ⟨A95,c96,g97,hv98⟩:=qFI (P:=Tryz.prog) g1_1 ⟨Int.le_refl _,c94.1,c94.2⟩ sz77
  refine plc E (.r 0 1<|.b 1 1 hb4<|.r 2 1<|.y 3 (hv98 (by kernel_rfl))<|.r 4 1<|.nil) (fun a E=>?_)
  obtain ⟨t100,h101,H⟩:=bd H
  refine plq E S en149 (qt.calls k63 (cutl y.f1 0 x8) (nth qG.z y.f1 x8) _ _ _ _ _ _ _ _ (Sub.refl _) (g97.mono S.own.sub) (g25.mono S.own.sub) (S.ba 0) h101) fun u99 S a E=>pld (hK93 _ _ (E.ib 82 H (fun c102 E H=>?_) fun c102 E H=>?_))
  refine rr E fun a E=>(wp_ret (qCR (qCQ (qCQ (qCR (qCQ ?_))))))
  replace S:=S.pm [] 3
  obtain rfl:=si H
  exact rt1 E ⟨_,rfl,_,rfl,S⟩
  refine wp_skip ?_
  refine qCS ?_
  refine hK16 _ _ (pl0 (plc E (.r 0 2 .nil) (fun a E=>pld ?_)))
  replace S:=S.tail
  exact qCT ⟨k63,by omega,_,(w64 (x8+1)),by omega,E,.of,S,H⟩
 refine drawn 34 ⟨[],[],fun q=>False⟩ mixed rfl (by kernel_rfl) (fun hst=>?_)
 replace S:=S.drew
 have hb26:=S.ba 0
 have hb4:=S.ba 1
 refine mny 29 hst E (.r 0 1<|.b 1 0 hb26<|.r 2 1<|.b 3 0 hb4<|.r 4 1<|.nil) (fun a E=>?_)
 obtain ⟨t32,h33,H⟩:=bd H
 refine on1 5 E (.cl en93 (qBK.calls ((nth qG.z y.f1 x8).f0) 0 (w64 (y.f0 - 1)) _ _ _ S.own.sub h33)) ?_
 rintro _ u31 a ⟨_,rfl,hC⟩ E
 refine ⟨.of hC.agr,?_⟩
 replace S:=S.lent hC
 refine mny 26 hst E (.r 6 2 .nil) (fun a E=>?_)
 refine E.fbn 24 H (fun c34 E H=>?_) fun c34 E H=>?_
 refine mny 23 hst E (.r 8 3 .nil) (fun a E=>?_)
 refine E.fk 27 H (fun c35 E H=>?_) fun c35 E H=>?_
 have hb26:=S.ba 0
 have hb4:=S.ba 1
 obtain ⟨c36,H⟩:=gd H
 obtain ⟨cs38,⟨A40,c41,rfl,g42⟩,hc39⟩:=g1_1.el qG.z (w64 (x8 - 1)) c36.1 c36.2
 refine mny 10 hst E (.r 11 1<|.b 12 0 hb26<|.r 13 1<|.b 14 1 hb4<|.r 15 2<|.x 17 c36<|.r 18 1<|.c 19 (S.fc hc39 0)<|.r 20 4<|.nil) (fun a E=>?_)
 refine E.fk 40 H (fun c43 E H=>?_) fun c43 E H=>?_
 refine mny 0 hst E (.r 24 10 .nil) (fun a E=>?_)
 refine dn ?_
 exact J54 _ (by omega) _ true _ _ E .of S H
 have hb2:=S.ba 2
 refine mny 3 hst E (.r 24 1<|.b 25 1 hb26<|.r 26 2<|.b 28 2 hb2<|.r 29 1<|.b 30 1 hb2<|.nil) (fun a E=>?_)
 obtain ⟨t45,h46,H⟩:=bd H
 refine on1 31 E (.cl en93 (qBK.calls (((nth qG.z y.f1 x8).f1).length:Int) x.f2 x.f1 _ _ _ S.own.sub h46)) ?_
 rintro _ u44 a ⟨_,rfl,hC⟩ E
 refine ⟨.of hC.agr,?_⟩
 replace S:=S.lent hC
 refine mny 0 hst E (.r 32 2 .nil) (fun a E=>?_)
 refine dn ?_
 exact J54 _ (by omega) _ (!t45) _ _ E .of S H
 have hb26:=S.ba 0
 have hb2:=S.ba 2
 refine mny 3 hst E (.r 11 14<|.b 25 1 hb26<|.r 26 2<|.b 28 2 hb2<|.r 29 1<|.b 30 1 hb2<|.nil) (fun a E=>?_)
 obtain ⟨t48,h49,H⟩:=bd H
 refine on1 31 E (.cl en93 (qBK.calls (((nth qG.z y.f1 x8).f1).length:Int) x.f2 x.f1 _ _ _ S.own.sub h49)) ?_
 rintro _ u47 a ⟨_,rfl,hC⟩ E
 refine ⟨.of hC.agr,?_⟩
 replace S:=S.lent hC
 refine mny 0 hst E (.r 32 2 .nil) (fun a E=>?_)
 refine dn ?_
 exact J54 _ (by omega) _ (!t48) _ _ E .of S H
 refine mny 0 hst E (.r 8 26 .nil) (fun a E=>?_)
 refine dn ?_
 exact J54 _ (by omega) _ true _ _ E .of S H
 refine wp_exit ?_
 refine hK6 _ _ (rr E fun a E=>(wp_ret ?_))
 replace S:=S.pm [] 2
 obtain rfl:=si H
 exact rt1 E ⟨_,rfl,_,rfl,S⟩
end Go.Proofs.YthgfhlbjkmjlpaaGreat.PG
