import Derived.Test.YthgfhlbjkmjlpaaGreatPR0
namespace Go.Proofs.YthgfhlbjkmjlpaaGreat.PR
open Go Go.RowKit Go.Proofs.YthgfhlbjkmjlpaaGreat.Sl
set_option linter.unusedVariables false
set_option linter.unusedSimpArgs false
set_option maxHeartbeats 4000000
set_option maxRecDepth 100000
mutual
def qW.l7:Nat→qE→Int→Option Bool
 | 0,_,_=>none
 | k+1,x,x6=>if x6<(x.f5.length:Int) then (qW.j15 k x x6 (decide (x6<20))) else (qW.j15 k x x6 false)
def qW.j15:Nat→qE→Int→Bool→Option Bool
 | 0,_,_,_=>none
 | k+1,x,x6,y14=>if y14=true then (if 0≤x6∧x6<(x.f5.length:Int) then (if (((nth qD.z x.f5 x6).f1).length:Int)>20 then (some false) else (qW.l7 k x (w64 (x6+1)))) else (none)) else (qW.l36 k x 0)
def qW.l36:Nat→qE→Int→Option Bool
 | 0,_,_=>none
 | k+1,x,x35=>if x35<(x.f6.length:Int) then (qW.j44 k x x35 (decide (x35<20))) else (qW.j44 k x x35 false)
def qW.j44:Nat→qE→Int→Bool→Option Bool
 | 0,_,_,_=>none
 | k+1,x,x35,y43=>if y43=true then (if 0≤x35∧x35<(x.f6.length:Int) then (if (((nth qC.z x.f6 x35).f1).length:Int)>20 then (some false) else (qW.l65 k x x35 0)) else (none)) else (if (x.f4.length:Int)≤30 then (if (x.f5.length:Int)≤20 then (some (decide ((x.f6.length:Int)≤20))) else (some false)) else (some false))
def qW.l65:Nat→qE→Int→Int→Option Bool
 | 0,_,_,_=>none
 | k+1,x,x35,x64=>if x64<(((nth qC.z x.f6 x35).f1).length:Int) then (if 0≤x64∧x64<(((nth qC.z x.f6 x35).f1).length:Int) then (if (((nth qG.z ((nth qC.z x.f6 x35).f1) x64).f1).length:Int)>20 then (some false) else (qW.l65 k x x35 (w64 (x64+1)))) else (none)) else (qW.l36 k x (w64 (x35+1)))
end
theorem qW.l7_s k x x6:type_of% (qW.l7.eq_2 x x6 k):=qW.l7.eq_2 x x6 k
theorem qW.j15_s k x x6 y14:type_of% (qW.j15.eq_2 x x6 y14 k):=qW.j15.eq_2 x x6 y14 k
theorem qW.l36_s k x x35:type_of% (qW.l36.eq_2 x x35 k):=qW.l36.eq_2 x x35 k
theorem qW.j44_s k x x35 y43:type_of% (qW.j44.eq_2 x x35 y43 k):=qW.j44.eq_2 x x35 y43 k
theorem qW.l65_s k x x35 x64:type_of% (qW.l65.eq_2 x x35 x64 k):=qW.l65.eq_2 x x35 x64 k
def qW.f(k:Nat)(x:qE):Option Bool:=qW.l7 k x 0
def qW.Post(W F:World)(r:Bool)(v:Value)(w':World):Prop:=∃(F':World),v = .bool r∧Sm W F w' F' []
theorem qW.calls(k:Nat)(x:qE)(A0_4:OA)(c0_4:Nat)(A0_5:OA)(c0_5:Nat)(A0_6:OA)(c0_6:Nat)(r:Bool)(W F:World)(hown:Sub F W)(g0_4:Rd qA.k F A0_4 c0_4 x.f4)(g0_5:Rd qD.k F A0_5 c0_5 x.f5)(g0_6:Rd qC.k F A0_6 c0_6 x.f6)(H:qW.f k x=some r):
    Cr 10 #[.agg #[iv x.f0,iv x.f1,iv x.f2,iv x.f3,.slice A0_4 x.f4.length c0_4,.slice A0_5 x.f5.length c0_5,.slice A0_6 x.f6.length c0_6]] W (qW.Post W F r):=by
 have S:=sT hown
 unfold qW.f at H
 refine ent 83 rfl rfl rfl (fun a E=>?_)
 refine sq fun K1 hK1=>pl0 (plx (t:=26) E S [iv x.f0,iv x.f1,iv x.f2,iv x.f3,.slice A0_4 x.f4.length c0_4,.slice A0_5 x.f5.length c0_5,.slice A0_6 x.f6.length c0_6] fun b2 u3 hb2 S a E=>plc E (.r 1 1 .nil) (fun a E=>pld (hK1 _ _ (sq fun K4 hK4=>rr E fun a E=>(wp_block ?_)))))
 refine wp_loop_ghost (fun kq8 a w'=>∃(G:NV)(x6:Int),kq8≤k∧Env 83 G a∧At G [(1,.pointer (pb b2)),(3,iv x6)]∧Sm W F w' F [box b2 #[iv x.f0,iv x.f1,iv x.f2,iv x.f3,.slice A0_4 x.f4.length c0_4,.slice A0_5 x.f5.length c0_5,.slice A0_6 x.f6.length c0_6] 26]∧qW.l7 kq8 x x6=some r) k ⟨_,0,Nat.le_refl _,E,.of,S,H⟩ ?_
 rintro kq8 a u10 ⟨G,x6,hkq,E,A,S,H⟩
 obtain _ | k9:=kq8
 exact zz H
 rw [qW.l7_s]at H
 obtain ⟨J,E⟩:=E.at A
 refine sq fun K11 hK11=>sq fun K12 hK12=>?_
 have J18:∀ kq16,kq16≤k9→∀(G:NV)(y14:Bool)(a:Act)(w':World),Env 83 G a→At G [(1,.pointer (pb b2)),(3,iv x6),(14,.bool y14)]→Sm W F w' F [box b2 #[iv x.f0,iv x.f1,iv x.f2,iv x.f3,.slice A0_4 x.f4.length c0_4,.slice A0_5 x.f5.length c0_5,.slice A0_6 x.f6.length c0_6] 26]→qW.j15 kq16 x x6 y14=some r→K12 a w':=by
  intro kq16 hkq G y14 a u19 E A S H
  obtain _ | k17:=kq16
  exact zz H
  rw [qW.j15_s]at H
  obtain ⟨J,E⟩:=E.at A
  refine hK12 _ _ (E.ib 14 H (fun c20 E H=>?_) fun c20 E H=>?_)
  refine wp_skip (hK11 _ _ (sq fun K21 hK21=>wp_block (sq fun K22 hK22=>pl0 ?_)))
  have hb2:=S.ba 0
  obtain ⟨c23,H⟩:=gd H
  have hE_:=E
  obtain ⟨ad24,rfl⟩:=g0_5.addr c23.1 c23.2
  replace E:=hE_
  obtain ⟨cs26,⟨A28,c29,rfl,g30⟩,hc27⟩:=g0_5.el qD.z x6 c23.1 c23.2
  refine plc E (.r 0 1<|.b 1 5 hb2<|.r 2 1<|.x 3 c23<|.r 4 1<|.c 5 (S.fc hc27 1)<|.r 6 2<|.nil) (fun a E=>pld (hK22 _ _ (E.ik 24 H (fun c31 E H=>?_) fun c31 E H=>?_)))
  refine rr E fun a E=>(wp_ret (qCR (qCQ (qCQ (qCR (qCQ ?_))))))
  replace S:=S.tail
  obtain rfl:=si H
  exact rt1 E ⟨_,rfl,_,rfl,S⟩
  refine wp_skip ?_
  refine qCS ?_
  refine hK21 _ _ (pl0 (plc E (.r 0 3 .nil) (fun a E=>pld ?_)))
  exact qCT ⟨k17,by omega,_,(w64 (x6+1)),by omega,E,.of,S,H⟩
  refine wp_exit ?_
  refine hK4 _ _ (sq fun K33 hK33=>rr E fun a E=>(wp_block ?_))
  refine wp_loop_ghost (fun kq37 a w'=>∃(G:NV)(x35:Int),kq37≤k17∧Env 83 G a∧At G [(1,.pointer (pb b2)),(4,iv x35)]∧Sm W F w' F [box b2 #[iv x.f0,iv x.f1,iv x.f2,iv x.f3,.slice A0_4 x.f4.length c0_4,.slice A0_5 x.f5.length c0_5,.slice A0_6 x.f6.length c0_6] 26]∧qW.l36 kq37 x x35=some r) k17 ⟨_,0,Nat.le_refl _,E,.of,S,H⟩ ?_
  rintro kq37 a u39 ⟨G,x35,hkq,E,A,S,H⟩
  obtain _ | k38:=kq37
  exact zz H
  rw [qW.l36_s]at H
  obtain ⟨J,E⟩:=E.at A
  refine sq fun K40 hK40=>sq fun K41 hK41=>?_
  have J47:∀ kq45,kq45≤k38→∀(G:NV)(y43:Bool)(a:Act)(w':World),Env 83 G a→At G [(1,.pointer (pb b2)),(4,iv x35),(33,.bool y43)]→Sm W F w' F [box b2 #[iv x.f0,iv x.f1,iv x.f2,iv x.f3,.slice A0_4 x.f4.length c0_4,.slice A0_5 x.f5.length c0_5,.slice A0_6 x.f6.length c0_6] 26]→qW.j44 kq45 x x35 y43=some r→K41 a w':=by
   intro kq45 hkq G y43 a u48 E A S H
   obtain _ | k46:=kq45
   exact zz H
   rw [qW.j44_s]at H
   obtain ⟨J,E⟩:=E.at A
   refine hK41 _ _ (E.ib 33 H (fun c49 E H=>?_) fun c49 E H=>?_)
   refine wp_skip (hK40 _ _ (sq fun K50 hK50=>wp_block (sq fun K51 hK51=>sq fun K52 hK52=>pl0 ?_)))
   have hb2:=S.ba 0
   obtain ⟨c53,H⟩:=gd H
   have hE_:=E
   obtain ⟨ad54,rfl⟩:=g0_6.addr c53.1 c53.2
   replace E:=hE_
   obtain ⟨cs56,⟨A58,c59,rfl,g60⟩,hc57⟩:=g0_6.el qC.z x35 c53.1 c53.2
   refine plc E (.r 0 1<|.b 1 6 hb2<|.r 2 1<|.x 3 c53<|.r 4 1<|.c 5 (S.fc hc57 1)<|.r 6 2<|.nil) (fun a E=>pld (hK52 _ _ (E.ik 43 H (fun c61 E H=>?_) fun c61 E H=>?_)))
   refine rr E fun a E=>(wp_ret (qCQ (qCR (qCQ (qCQ (qCR (qCQ ?_)))))))
   replace S:=S.tail
   obtain rfl:=si H
   exact rt1 E ⟨_,rfl,_,rfl,S⟩
   refine wp_skip (hK51 _ _ (rr E fun a E=>(wp_block ?_)))
   refine wp_loop_ghost (fun kq66 a w'=>∃(G:NV)(x64:Int),kq66≤k46∧Env 83 G a∧At G [(1,.pointer (pb b2)),(4,iv x35),(5,iv x64)]∧Sm W F w' F [box b2 #[iv x.f0,iv x.f1,iv x.f2,iv x.f3,.slice A0_4 x.f4.length c0_4,.slice A0_5 x.f5.length c0_5,.slice (some ad54) x.f6.length c0_6] 26]∧qW.l65 kq66 x x35 x64=some r) k46 ⟨_,0,Nat.le_refl _,E,.of,S,H⟩ ?_
   rintro kq66 a u68 ⟨G,x64,hkq,E,A,S,H⟩
   obtain _ | k67:=kq66
   exact zz H
   rw [qW.l65_s]at H
   obtain ⟨J,E⟩:=E.at A
   refine sq fun K69 hK69=>sq fun K70 hK70=>pl0 ?_
   have hb2:=S.ba 0
   obtain ⟨cs72,⟨A74,c75,rfl,g76⟩,hc73⟩:=g0_6.el qC.z x35 c53.1 c53.2
   refine plc E (.r 0 2<|.b 2 6 hb2<|.r 3 1<|.x 4 c53<|.r 5 1<|.c 6 (S.fc hc73 1)<|.r 7 2<|.nil) (fun a E=>pld (hK70 _ _ (E.ik 52 H (fun c77 E H=>?_) fun c77 E H=>?_)))
   refine wp_skip (hK69 _ _ (sq fun K78 hK78=>wp_block (sq fun K79 hK79=>pl0 ?_)))
   obtain ⟨c83,H⟩:=gd H
   have hE_:=E
   obtain ⟨ad84,rfl⟩:=g76.addr c83.1 c83.2
   replace E:=hE_
   obtain ⟨cs86,⟨A88,c89,rfl,g90⟩,hc87⟩:=g76.el qG.z x64 c83.1 c83.2
   refine plc E (.r 0 1<|.b 1 6 hb2<|.r 2 1<|.x 3 c53<|.r 4 1<|.c 5 (S.fc hc73 1)<|.r 6 1<|.x 7 c83<|.r 8 1<|.c 9 (S.fc hc87 1)<|.r 10 2<|.nil) (fun a E=>pld (hK79 _ _ (E.ik 66 H (fun c91 E H=>?_) fun c91 E H=>?_)))
   refine rr E fun a E=>(wp_ret (qCR (qCQ (qCQ (qCR (qCR (qCQ (qCQ (qCR (qCQ ?_))))))))))
   replace S:=S.tail
   obtain rfl:=si H
   exact rt1 E ⟨_,rfl,_,rfl,S⟩
   refine wp_skip ?_
   refine qCS ?_
   refine hK78 _ _ (pl0 (plc E (.r 0 3 .nil) (fun a E=>pld ?_)))
   exact qCT ⟨k67,by omega,_,(w64 (x64+1)),by omega,E,.of,S,H⟩
   refine wp_exit ?_
   refine hK50 _ _ (pl0 (plc E (.r 0 3 .nil) (fun a E=>pld ?_)))
   exact qCT ⟨k67,by omega,_,(w64 (x35+1)),by omega,E,.of,S,H⟩
   refine wp_exit ?_
   refine hK33 _ _ (sq fun K93 hK93=>pl0 ?_)
   have hb2:=S.ba 0
   refine plc E (.r 0 1<|.b 1 4 hb2<|.r 2 3<|.nil) (fun a E=>E.fk 71 H (fun c94 E H=>?_) fun c94 E H=>?_)
   refine plc E (.r 5 1<|.b 6 5 hb2<|.r 7 4<|.nil) (fun a E=>E.fk 77 H (fun c95 E H=>?_) fun c95 E H=>?_)
   refine plc E (.r 11 1<|.b 12 6 hb2<|.r 13 4<|.nil) (fun a E=>pld (hK93 _ _ (wp_ret ?_)))
   replace S:=S.tail
   obtain rfl:=si H
   exact rt1 E ⟨_,rfl,_,rfl,S⟩
   refine plc E (.r 11 6 .nil) (fun a E=>pld (hK93 _ _ (wp_ret ?_)))
   replace S:=S.tail
   obtain rfl:=si H
   exact rt1 E ⟨_,rfl,_,rfl,S⟩
   refine plc E (.r 5 12 .nil) (fun a E=>pld (hK93 _ _ (wp_ret ?_)))
   replace S:=S.tail
   obtain rfl:=si H
   exact rt1 E ⟨_,rfl,_,rfl,S⟩
  refine pl0 (plc E (.r 0 2<|.b 2 6 (S.ba 0)<|.r 3 3<|.nil) (fun a E=>E.fk 30 H (fun c42 E H=>?_) fun c42 E H=>?_))
  refine plc E (.r 6 3 .nil) (fun a E=>pld ?_)
  exact J47 _ (by omega) _ (decide (x35<20)) _ _ E .of S H
  refine plc E (.r 6 3 .nil) (fun a E=>pld ?_)
  exact J47 _ (by omega) _ false _ _ E .of S H
 refine pl0 (plc E (.r 0 2<|.b 2 5 (S.ba 0)<|.r 3 3<|.nil) (fun a E=>E.fk 11 H (fun c13 E H=>?_) fun c13 E H=>?_))
 refine plc E (.r 6 3 .nil) (fun a E=>pld ?_)
 exact J18 _ (by omega) _ (decide (x6<20)) _ _ E .of S H
 refine plc E (.r 6 3 .nil) (fun a E=>pld ?_)
 exact J18 _ (by omega) _ false _ _ E .of S H
def qAF.l7:Nat→List qA→Int→Int→Option (qA × Bool)
 | 0,_,_,_=>none
 | k+1,x,y,x6=>if x6<(x.length:Int) then (if 0≤x6∧x6<(x.length:Int) then (if (nth qA.z x x6).f0=y then (some ((nth qA.z x x6),true)) else (qAF.l7 k x y (w64 (x6+1)))) else (none)) else (some ((⟨0,0,0,0,false,false⟩:qA),false))
theorem qAF.l7_s k x y x6:type_of% (qAF.l7.eq_2 x y x6 k):=qAF.l7.eq_2 x y x6 k
def qAF.f(k:Nat)(x:List qA)(y:Int):Option (qA × Bool):=qAF.l7 k x y 0
def qAF.Post(W F:World)(r:qA × Bool)(v:Value)(w':World):Prop:=∃(F':World),v = .tuple #[.agg #[iv r.1.f0,iv r.1.f1,iv r.1.f2,iv r.1.f3,.bool r.1.f4,.bool r.1.f5],.bool r.2]∧Sm W F w' F' []
theorem qAF.calls(k:Nat)(x:List qA)(y:Int)(A0_0:OA)(c0_0:Nat)(r:qA × Bool)(W F:World)(hown:Sub F W)(g0_0:Rd qA.k F A0_0 c0_0 x)(H:qAF.f k x y=some r):
    Cr 49 #[.slice A0_0 x.length c0_0,iv y] W (qAF.Post W F r):=by
 have S:=sT hown
 unfold qAF.f at H
 refine ent 25 rfl rfl rfl (fun a E=>?_)
 refine sq fun K1 hK1=>pl0 (pla (t:=68) E S [iv 0,iv 0,iv 0,iv 0,.bool false,.bool false] fun b2 u3 hb2 S a E=>plc E (.r 1 1 .nil) (fun a E=>pld (hK1 _ _ (sq fun K4 hK4=>rr E fun a E=>(wp_block ?_)))))
 refine wp_loop_ghost (fun kq8 a w'=>∃(G:NV)(x6:Int),kq8≤k∧Env 25 G a∧At G [(0,.slice A0_0 x.length c0_0),(1,iv y),(4,.pointer (pb b2)),(6,iv x6)]∧Sm W F w' F [box b2 #[iv 0,iv 0,iv 0,iv 0,.bool false,.bool false] 68]∧qAF.l7 kq8 x y x6=some r) k ⟨_,0,Nat.le_refl _,E,.of,S,H⟩ ?_
 rintro kq8 a u10 ⟨G,x6,hkq,E,A,S,H⟩
 obtain _ | k9:=kq8
 exact zz H
 rw [qAF.l7_s]at H
 obtain ⟨J,E⟩:=E.at A
 refine sq fun K11 hK11=>rr E fun a E=>(E.ik 10 H (fun c13 E H=>?_) fun c13 E H=>?_)
 refine wp_skip (hK11 _ _ (sq fun K14 hK14=>wp_block (sq fun K15 hK15=>pl0 ?_)))
 obtain ⟨c16,H⟩:=gd H
 have hE_:=E
 obtain ⟨ad17,rfl⟩:=g0_0.addr c16.1 c16.2
 replace E:=hE_
 obtain ⟨cs19,rfl,hc20⟩:=g0_0.el qA.z x6 c16.1 c16.2
 refine plc E (.r 0 2<|.x 2 c16<|.r 3 1<|.c 4 (S.fc hc20 0)<|.r 5 2<|.nil) (fun a E=>pld (hK15 _ _ (E.ik 19 H (fun c21 E H=>?_) fun c21 E H=>?_)))
 refine sq fun K22 hK22=>pl0 (plc E (.r 0 2<|.x 2 c16<|.cs 3 (S.fcs hc20)<|.nil) (fun a E=>pls E S [iv ((nth qA.z x x6).f0),iv ((nth qA.z x x6).f1),iv ((nth qA.z x x6).f2),iv ((nth qA.z x x6).f3),.bool ((nth qA.z x x6).f4),.bool ((nth qA.z x x6).f5)] fun u26 hb2 S a E=>plc E (.r 5 1 .nil) (fun a E=>pld (hK22 _ _ (wp_ret (qCR (qCQ (qCQ (qCR (qCQ ?_))))))))))
 replace S:=S.tail
 obtain rfl:=si H
 exact rtm E (.b hb2 ag68 sz68 (.t .nil)) ⟨_,rfl,_,rfl,S⟩
 refine wp_skip ?_
 refine qCS ?_
 refine hK14 _ _ (pl0 (plc E (.r 0 3 .nil) (fun a E=>pld ?_)))
 exact qCT ⟨k9,by omega,_,(w64 (x6+1)),by omega,E,.of,S,H⟩
 refine wp_exit ?_
 refine hK4 _ _ (sq fun K27 hK27=>pl0 (plc E (.r 0 1 .nil) (fun a E=>pls E S [iv 0,iv 0,iv 0,iv 0,.bool false,.bool false] fun u28 hb2 S a E=>plc E (.r 2 1 .nil) (fun a E=>pld (hK27 _ _ (wp_ret ?_))))))
 replace S:=S.tail
 obtain rfl:=si H
 exact rtm E (.b hb2 ag68 sz68 (.t .nil)) ⟨_,rfl,_,rfl,S⟩
mutual
def qo.l5:Nat→List qA→List Int→Int→Option Bool
 | 0,_,_,_=>none
 | k+1,x,y,x4=>if x4<(y.length:Int) then (if 0≤x4∧x4<(y.length:Int) then ((qAF.f k x (nth 0 y x4)).bind fun t20=>(if t20.2=true then (qo.l31 k x y x4 t20 0) else (some false))) else (none)) else (some true)
def qo.l31:Nat→List qA→List Int→Int→qA × Bool→Int→Option Bool
 | 0,_,_,_,_,_=>none
 | k+1,x,y,x4,t20,x30=>if x30<x4 then (if 0≤x30∧x30<(y.length:Int) then ((qAF.f k x (nth 0 y x30)).bind fun t45=>(if t20.1.f1=t45.1.f1 then (some false) else (qo.l31 k x y x4 t20 (w64 (x30+1))))) else (none)) else (qo.l5 k x y (w64 (x4+1)))
end
theorem qo.l5_s k x y x4:type_of% (qo.l5.eq_2 x y x4 k):=qo.l5.eq_2 x y x4 k
theorem qo.l31_s k x y x4 t20 x30:type_of% (qo.l31.eq_2 x y x4 t20 x30 k):=qo.l31.eq_2 x y x4 t20 x30 k
def qo.f(k:Nat)(x:List qA)(y:List Int):Option Bool:=qo.l5 k x y 0
def qo.Post(W F:World)(r:Bool)(v:Value)(w':World):Prop:=∃(F':World),v = .bool r∧Sm W F w' F' []
theorem qo.calls(k:Nat)(x:List qA)(y:List Int)(A0_0:OA)(c0_0:Nat)(A1_0:OA)(c1_0:Nat)(r:Bool)(W F:World)(hown:Sub F W)(g0_0:Rd qA.k F A0_0 c0_0 x)(g1_0:Rd ki F A1_0 c1_0 y)(H:qo.f k x y=some r):
    Cr 17 #[.slice A0_0 x.length c0_0,.slice A1_0 y.length c1_0] W (qo.Post W F r):=by
 have S:=sT hown
 unfold qo.f at H
 refine ent 47 rfl rfl rfl (fun a E=>?_)
 refine rr E fun a E=>(sq fun K2 hK2=>rr E fun a E=>(wp_block ?_))
 refine wp_loop_ghost (fun kq6 a w'=>∃(G:NV)(x4:Int),kq6≤k∧Env 47 G a∧At G [(0,.slice A0_0 x.length c0_0),(1,.slice A1_0 y.length c1_0),(5,iv x4)]∧Sm W F w' F []∧qo.l5 kq6 x y x4=some r) k ⟨_,0,Nat.le_refl _,E,.of,S,H⟩ ?_
 rintro kq6 a u8 ⟨G,x4,hkq,E,A,S,H⟩
 obtain _ | k7:=kq6
 exact zz H
 rw [qo.l5_s]at H
 obtain ⟨J,E⟩:=E.at A
 refine sq fun K9 hK9=>rr E fun a E=>(E.ik 14 H (fun c11 E H=>?_) fun c11 E H=>?_)
 refine wp_skip (hK9 _ _ (sq fun K12 hK12=>wp_block (sq fun K13 hK13=>pl0 ?_)))
 obtain ⟨c14,H⟩:=gd H
 have hE_:=E
 obtain ⟨ad15,rfl⟩:=g1_0.addr c14.1 c14.2
 replace E:=hE_
 obtain ⟨cs17,rfl,hc18⟩:=g1_0.el 0 x4 c14.1 c14.2
 refine plc E (.r 0 3<|.x 3 c14<|.c 4 (S.fc hc18 0)<|.nil) (fun a E=>?_)
 obtain ⟨t20,h21,H⟩:=bd H
 refine plq E S en49 (qAF.calls k7 x (nth 0 y x4) _ _ _ _ _ S.own.sub g0_0 h21) fun u19 S a E=>plc E (.r 6 3 .nil) (fun a E=>pla (t:=68) E S [iv 0,iv 0,iv 0,iv 0,.bool false,.bool false] fun b22 u23 hb22 S a E=>pls E S [iv t20.1.f0,iv t20.1.f1,iv t20.1.f2,iv t20.1.f3,.bool t20.1.f4,.bool t20.1.f5] fun u24 hb22 S a E=>plc E (.r 11 1 .nil) (fun a E=>pld (hK13 _ _ (sq fun K25 hK25=>rr E fun a E=>(E.ibn 27 H (fun c27 E H=>?_) fun c27 E H=>?_)))))
 refine wp_skip (hK25 _ _ (rr E fun a E=>(wp_block ?_)))
 refine wp_loop_ghost (fun kq32 a w'=>∃(G:NV)(x30:Int),kq32≤k7∧Env 47 G a∧At G [(0,.slice A0_0 x.length c0_0),(1,.slice (some ad15) y.length c1_0),(5,iv x4),(6,.pointer (pb b22)),(8,iv x30)]∧Sm W F w' F [box b22 #[iv t20.1.f0,iv t20.1.f1,iv t20.1.f2,iv t20.1.f3,.bool t20.1.f4,.bool t20.1.f5] 68]∧qo.l31 kq32 x y x4 t20 x30=some r) k7 ⟨_,0,Nat.le_refl _,E,.of,S,H⟩ ?_
 rintro kq32 a u34 ⟨G,x30,hkq,E,A,S,H⟩
 obtain _ | k33:=kq32
 exact zz H
 rw [qo.l31_s]at H
 obtain ⟨J,E⟩:=E.at A
 refine sq fun K35 hK35=>rr E fun a E=>(E.ik 30 H (fun c37 E H=>?_) fun c37 E H=>?_)
 refine wp_skip (hK35 _ _ (sq fun K38 hK38=>wp_block (sq fun K39 hK39=>pl0 ?_)))
 obtain ⟨c40,H⟩:=gd H
 obtain ⟨cs42,rfl,hc43⟩:=g1_0.el 0 x30 c40.1 c40.2
 refine plc E (.r 0 3<|.x 3 c40<|.c 4 (S.fc hc43 0)<|.nil) (fun a E=>?_)
 obtain ⟨t45,h46,H⟩:=bd H
 refine plq E S en49 (qAF.calls k33 x (nth 0 y x30) _ _ _ _ _ S.own.sub g0_0 h46) fun u44 S a E=>plc E (.r 6 3 .nil) (fun a E=>pla (t:=68) E S [iv 0,iv 0,iv 0,iv 0,.bool false,.bool false] fun b47 u48 hb47 S a E=>pls E S [iv t45.1.f0,iv t45.1.f1,iv t45.1.f2,iv t45.1.f3,.bool t45.1.f4,.bool t45.1.f5] fun u49 hb47 S a E=>plc E (.r 11 1 .nil) (fun a E=>pld (hK39 _ _ (rg E (.r 0 1<|.b 1 1 (S.ba 1)<|.r 2 1<|.b 3 1 hb47<|.r 4 1<|.nil) fun a E=>(E.ik 46 H (fun c51 E H=>?_) fun c51 E H=>?_)))))
 refine rr E fun a E=>(wp_ret (qCR (qCQ (qCQ (qCR (qCR (qCQ (qCQ (qCR (qCQ ?_))))))))))
 replace S:=S.pm [] 2
 obtain rfl:=si H
 exact rt1 E ⟨_,rfl,_,rfl,S⟩
 refine wp_skip ?_
 refine qCS ?_
 refine hK38 _ _ (pl0 (plc E (.r 0 3 .nil) (fun a E=>pld ?_)))
 replace S:=S.tail
 exact qCT ⟨k33,by omega,_,(w64 (x30+1)),by omega,E,.of,S,H⟩
 refine wp_exit ?_
 refine hK12 _ _ (pl0 (plc E (.r 0 3 .nil) (fun a E=>pld ?_)))
 replace S:=S.tail
 exact qCT ⟨k33,by omega,_,(w64 (x4+1)),by omega,E,.of,S,H⟩
 refine rr E fun a E=>(wp_ret (qCQ (qCR (qCQ (qCQ (qCR (qCQ ?_)))))))
 replace S:=S.tail
 obtain rfl:=si H
 exact rt1 E ⟨_,rfl,_,rfl,S⟩
 refine wp_exit ?_
 refine hK2 _ _ (rr E fun a E=>(wp_ret ?_))
 obtain rfl:=si H
 exact rt1 E ⟨_,rfl,_,rfl,S⟩
mutual
def qm.l5:Nat→List qA→Int→Option Bool
 | 0,_,_=>none
 | k+1,x,x4=>if x4<(x.length:Int) then (if 0≤x4∧x4<(x.length:Int) then (if (nth qA.z x x4).f0<1 then (qm.j37 k x x4 true) else (if (nth qA.z x x4).f0>999 then (qm.j37 k x x4 true) else (if (nth qA.z x x4).f1<1 then (qm.j37 k x x4 true) else (if (nth qA.z x x4).f1>9 then (qm.j37 k x x4 true) else (if (nth qA.z x x4).f2<1 then (qm.j37 k x x4 true) else (if (nth qA.z x x4).f2>9 then (qm.j37 k x x4 true) else (if (nth qA.z x x4).f3<0 then (qm.j37 k x x4 true) else (if (nth qA.z x x4).f3>65536 then (qm.j37 k x x4 true) else (if x4>0 then (if 0≤(w64 (x4 - 1))∧(w64 (x4 - 1))<(x.length:Int) then (qm.j37 k x x4 (decide ((nth qA.z x (w64 (x4 - 1))).f0≥(nth qA.z x x4).f0))) else (none)) else (qm.j37 k x x4 false)))))))))) else (none)) else (some (decide ((x.length:Int)≤12)))
def qm.j37:Nat→List qA→Int→Bool→Option Bool
 | 0,_,_,_=>none
 | k+1,x,x4,y36=>if y36=true then (some false) else (qm.l5 k x (w64 (x4+1)))
end
theorem qm.l5_s k x x4:type_of% (qm.l5.eq_2 x x4 k):=qm.l5.eq_2 x x4 k
theorem qm.j37_s k x x4 y36:type_of% (qm.j37.eq_2 x x4 y36 k):=qm.j37.eq_2 x x4 y36 k
def qm.f(k:Nat)(x:List qA):Option Bool:=qm.l5 k x 0
def qm.Post(W F:World)(r:Bool)(v:Value)(w':World):Prop:=∃(F':World),v = .bool r∧Sm W F w' F' []
theorem qm.calls(k:Nat)(x:List qA)(A0_0:OA)(c0_0:Nat)(r:Bool)(W F:World)(hown:Sub F W)(g0_0:Rd qA.k F A0_0 c0_0 x)(H:qm.f k x=some r):
    Cr 50 #[.slice A0_0 x.length c0_0] W (qm.Post W F r):=by
 have S:=sT hown
 unfold qm.f at H
 refine ent 71 rfl rfl rfl (fun a E=>?_)
 refine rr E fun a E=>(sq fun K2 hK2=>rr E fun a E=>(wp_block ?_))
 refine wp_loop_ghost (fun kq6 a w'=>∃(G:NV)(x4:Int),kq6≤k∧Env 71 G a∧At G [(0,.slice A0_0 x.length c0_0),(3,iv x4)]∧Sm W F w' F []∧qm.l5 kq6 x x4=some r) k ⟨_,0,Nat.le_refl _,E,.of,S,H⟩ ?_
 rintro kq6 a u8 ⟨G,x4,hkq,E,A,S,H⟩
 obtain _ | k7:=kq6
 exact zz H
 rw [qm.l5_s]at H
 obtain ⟨J,E⟩:=E.at A
 refine sq fun K9 hK9=>rr E fun a E=>(E.ik 8 H (fun c11 E H=>?_) fun c11 E H=>?_)
 refine wp_skip (hK9 _ _ (sq fun K12 hK12=>wp_block (sq fun K13 hK13=>pl0 ?_)))
 obtain ⟨c14,H⟩:=gd H
 have hE_:=E
 obtain ⟨ad15,rfl⟩:=g0_0.addr c14.1 c14.2
 replace E:=hE_
 obtain ⟨cs17,rfl,hc18⟩:=g0_0.el qA.z x4 c14.1 c14.2
 refine plc E (.r 0 2<|.x 2 c14<|.cs 3 (S.fcs hc18)<|.nil) (fun a E=>pla (t:=68) E S [iv 0,iv 0,iv 0,iv 0,.bool false,.bool false] fun b19 u20 hb19 S a E=>pls E S [iv ((nth qA.z x x4).f0),iv ((nth qA.z x x4).f1),iv ((nth qA.z x x4).f2),iv ((nth qA.z x x4).f3),.bool ((nth qA.z x x4).f4),.bool ((nth qA.z x x4).f5)] fun u21 hb19 S a E=>pld (hK13 _ _ (sq fun K22 hK22=>?_)))
 have J40:∀ kq38,kq38≤k7→∀(G:NV)(y36:Bool)(a:Act)(w':World),Env 71 G a→At G [(0,.slice (some ad15) x.length c0_0),(3,iv x4),(67,.bool y36)]→Sm W F w' F [box b19 #[iv ((nth qA.z x x4).f0),iv ((nth qA.z x x4).f1),iv ((nth qA.z x x4).f2),iv ((nth qA.z x x4).f3),.bool ((nth qA.z x x4).f4),.bool ((nth qA.z x x4).f5)] 68]→qm.j37 kq38 x x4 y36=some r→K22 a w':=by
  intro kq38 hkq G y36 a u41 E A S H
  obtain _ | k39:=kq38
  exact zz H
  rw [qm.j37_s]at H
  obtain ⟨J,E⟩:=E.at A
  refine hK22 _ _ (E.ib 67 H (fun c42 E H=>?_) fun c42 E H=>?_)
  refine rr E fun a E=>(wp_ret (qCR (qCQ (qCQ (qCR (qCQ ?_))))))
  replace S:=S.tail
  obtain rfl:=si H
  exact rt1 E ⟨_,rfl,_,rfl,S⟩
  refine wp_skip ?_
  refine qCS ?_
  refine hK12 _ _ (pl0 (plc E (.r 0 3 .nil) (fun a E=>pld ?_)))
  replace S:=S.tail
  exact qCT ⟨k39,by omega,_,(w64 (x4+1)),by omega,E,.of,S,H⟩
 refine drawn 53 ⟨[],[],fun q=>False⟩ mixed rfl (by kernel_rfl) (fun hst=>?_)
 replace S:=S.drew
 have hb19:=S.ba 0
 refine mny 49 hst E (.r 0 1<|.b 1 0 hb19<|.r 2 2<|.nil) (fun a E=>?_)
 refine E.fk 18 H (fun c23 E H=>?_) fun c23 E H=>?_
 refine mny 0 hst E (.r 4 49 .nil) (fun a E=>?_)
 refine dn ?_
 exact J40 _ (by omega) _ true _ _ E .of S H
 refine mny 44 hst E (.r 4 1<|.b 5 0 hb19<|.r 6 3<|.nil) (fun a E=>?_)
 refine E.fk 23 H (fun c24 E H=>?_) fun c24 E H=>?_
 refine mny 0 hst E (.r 9 44 .nil) (fun a E=>?_)
 refine dn ?_
 exact J40 _ (by omega) _ true _ _ E .of S H
 refine mny 39 hst E (.r 9 1<|.b 10 1 hb19<|.r 11 3<|.nil) (fun a E=>?_)
 refine E.fk 28 H (fun c25 E H=>?_) fun c25 E H=>?_
 refine mny 0 hst E (.r 14 39 .nil) (fun a E=>?_)
 refine dn ?_
 exact J40 _ (by omega) _ true _ _ E .of S H
 refine mny 34 hst E (.r 14 1<|.b 15 1 hb19<|.r 16 3<|.nil) (fun a E=>?_)
 refine E.fk 33 H (fun c26 E H=>?_) fun c26 E H=>?_
 refine mny 0 hst E (.r 19 34 .nil) (fun a E=>?_)
 refine dn ?_
 exact J40 _ (by omega) _ true _ _ E .of S H
 refine mny 29 hst E (.r 19 1<|.b 20 2 hb19<|.r 21 3<|.nil) (fun a E=>?_)
 refine E.fk 38 H (fun c27 E H=>?_) fun c27 E H=>?_
 refine mny 0 hst E (.r 24 29 .nil) (fun a E=>?_)
 refine dn ?_
 exact J40 _ (by omega) _ true _ _ E .of S H
 refine mny 24 hst E (.r 24 1<|.b 25 2 hb19<|.r 26 3<|.nil) (fun a E=>?_)
 refine E.fk 43 H (fun c28 E H=>?_) fun c28 E H=>?_
 refine mny 0 hst E (.r 29 24 .nil) (fun a E=>?_)
 refine dn ?_
 exact J40 _ (by omega) _ true _ _ E .of S H
 refine mny 19 hst E (.r 29 1<|.b 30 3 hb19<|.r 31 3<|.nil) (fun a E=>?_)
 refine E.fk 48 H (fun c29 E H=>?_) fun c29 E H=>?_
 refine mny 0 hst E (.r 34 19 .nil) (fun a E=>?_)
 refine dn ?_
 exact J40 _ (by omega) _ true _ _ E .of S H
 refine mny 14 hst E (.r 34 1<|.b 35 3 hb19<|.r 36 3<|.nil) (fun a E=>?_)
 refine E.fk 53 H (fun c30 E H=>?_) fun c30 E H=>?_
 refine mny 0 hst E (.r 39 14 .nil) (fun a E=>?_)
 refine dn ?_
 exact J40 _ (by omega) _ true _ _ E .of S H
 refine mny 11 hst E (.r 39 3 .nil) (fun a E=>?_)
 refine E.fk 56 H (fun c31 E H=>?_) fun c31 E H=>?_
 obtain ⟨c32,H⟩:=gd H
 obtain ⟨cs34,rfl,hc35⟩:=g0_0.el qA.z (w64 (x4 - 1)) c32.1 c32.2
 refine mny 0 hst E (.r 42 3<|.x 45 c32<|.r 46 1<|.c 47 (S.fc hc35 0)<|.r 48 1<|.b 49 0 hb19<|.r 50 3<|.nil) (fun a E=>?_)
 refine dn ?_
 exact J40 _ (by omega) _ (decide ((nth qA.z x (w64 (x4 - 1))).f0≥(nth qA.z x x4).f0)) _ _ E .of S H
 refine mny 0 hst E (.r 42 11 .nil) (fun a E=>?_)
 refine dn ?_
 exact J40 _ (by omega) _ false _ _ E .of S H
 refine wp_exit ?_
 refine hK2 _ _ (rr E fun a E=>(wp_ret ?_))
 obtain rfl:=si H
 exact rt1 E ⟨_,rfl,_,rfl,S⟩
def qAD.l9:Nat→List Int→List Int→Int→Option Bool
 | 0,_,_,_=>none
 | k+1,x,y,x8=>if x8<(x.length:Int) then (if 0≤x8∧x8<(x.length:Int) then (if 0≤x8∧x8<(y.length:Int) then (if (nth 0 x x8)=(nth 0 y x8) then (qAD.l9 k x y (w64 (x8+1))) else (some false)) else (none)) else (none)) else (some true)
theorem qAD.l9_s k x y x8:type_of% (qAD.l9.eq_2 x y x8 k):=qAD.l9.eq_2 x y x8 k
def qAD.f(k:Nat)(x:List Int)(y:List Int):Option Bool:=if (x.length:Int)=(y.length:Int) then (qAD.l9 k x y 0) else (some false)
def qAD.Post(W F:World)(r:Bool)(v:Value)(w':World):Prop:=∃(F':World),v = .bool r∧Sm W F w' F' []
theorem qAD.calls(k:Nat)(x:List Int)(y:List Int)(A0_0:OA)(c0_0:Nat)(A1_0:OA)(c1_0:Nat)(r:Bool)(W F:World)(hown:Sub F W)(g0_0:Rd ki F A0_0 c0_0 x)(g1_0:Rd ki F A1_0 c1_0 y)(H:qAD.f k x y=some r):
    Cr 23 #[.slice A0_0 x.length c0_0,.slice A1_0 y.length c1_0] W (qAD.Post W F r):=by
 have S:=sT hown
 unfold qAD.f at H
 refine ent 26 rfl rfl rfl (fun a E=>?_)
 refine rr E fun a E=>(sq fun K2 hK2=>rr E fun a E=>(E.ikn 10 H (fun c4 E H=>?_) fun c4 E H=>?_))
 refine wp_skip (hK2 _ _ (sq fun K6 hK6=>rr E fun a E=>(wp_block ?_)))
 refine wp_loop_ghost (fun kq10 a w'=>∃(G:NV)(x8:Int),kq10≤k∧Env 26 G a∧At G [(0,.slice A0_0 x.length c0_0),(1,.slice A1_0 y.length c1_0),(5,iv x8)]∧Sm W F w' F []∧qAD.l9 kq10 x y x8=some r) k ⟨_,0,Nat.le_refl _,E,.of,S,H⟩ ?_
 rintro kq10 a u12 ⟨G,x8,hkq,E,A,S,H⟩
 obtain _ | k11:=kq10
 exact zz H
 rw [qAD.l9_s]at H
 obtain ⟨J,E⟩:=E.at A
 refine sq fun K13 hK13=>rr E fun a E=>(E.ik 14 H (fun c15 E H=>?_) fun c15 E H=>?_)
 refine wp_skip (hK13 _ _ (sq fun K16 hK16=>wp_block (sq fun K17 hK17=>?_)))
 refine drawn 9 ⟨[],[],fun q=>False⟩ mixed rfl (by kernel_rfl) (fun hst=>?_)
 replace S:=S.drew
 obtain ⟨c18,H⟩:=gd H
 have hE_:=E
 obtain ⟨ad19,rfl⟩:=g0_0.addr c18.1 c18.2
 replace E:=hE_
 obtain ⟨cs21,rfl,hc22⟩:=g0_0.el 0 x8 c18.1 c18.2
 obtain ⟨c23,H⟩:=gd H
 have hE_:=E
 obtain ⟨ad24,rfl⟩:=g1_0.addr c23.1 c23.2
 replace E:=hE_
 obtain ⟨cs26,rfl,hc27⟩:=g1_0.el 0 x8 c23.1 c23.2
 refine mny 0 hst E (.r 0 2<|.x 2 c18<|.c 3 (S.fc hc22 0)<|.r 4 2<|.x 6 c23<|.c 7 (S.fc hc27 0)<|.r 8 1<|.nil) (fun a E=>?_)
 refine dn ?_
 refine hK17 _ _ (E.ikn 25 H (fun c28 E H=>?_) fun c28 E H=>?_)
 refine wp_skip ?_
 refine qCS ?_
 refine hK16 _ _ (pl0 (plc E (.r 0 3 .nil) (fun a E=>pld ?_)))
 exact qCT ⟨k11,by omega,_,(w64 (x8+1)),by omega,E,.of,S,H⟩
 refine rr E fun a E=>(wp_ret (qCR (qCQ (qCQ (qCR (qCQ ?_))))))
 obtain rfl:=si H
 exact rt1 E ⟨_,rfl,_,rfl,S⟩
 refine wp_exit ?_
 refine hK6 _ _ (rr E fun a E=>(wp_ret ?_))
 obtain rfl:=si H
 exact rt1 E ⟨_,rfl,_,rfl,S⟩
 refine rr E fun a E=>(wp_ret (qCQ ?_))
 obtain rfl:=si H
 exact rt1 E ⟨_,rfl,_,rfl,S⟩
mutual
def qK.l7:Nat→qE→Int→Option Bool
 | 0,_,_=>none
 | k+1,x,x6=>if x6<(x.f6.length:Int) then (if 0≤x6∧x6<(x.f6.length:Int) then (if (nth qC.z x.f6 x6).f0<0 then (qK.j31 k x x6 true) else (qK.j31 k x x6 (decide ((nth qC.z x.f6 x6).f0>x.f0)))) else (none)) else (some ((x.f6.length:Int) == x.f3))
def qK.j31:Nat→qE→Int→Bool→Option Bool
 | 0,_,_,_=>none
 | k+1,x,x6,y30=>if y30=true then (some false) else (qK.l40 k x x6 0)
def qK.l40:Nat→qE→Int→Int→Option Bool
 | 0,_,_,_=>none
 | k+1,x,x6,x39=>if x39<(((nth qC.z x.f6 x6).f1).length:Int) then (if 0≤x39∧x39<(((nth qC.z x.f6 x6).f1).length:Int) then (if (nth qG.z ((nth qC.z x.f6 x6).f1) x39).f0<0 then (qK.j66 k x x6 x39 true) else (if (nth qG.z ((nth qC.z x.f6 x6).f1) x39).f0≥(nth qC.z x.f6 x6).f0 then (qK.j66 k x x6 x39 true) else (if (((nth qG.z ((nth qC.z x.f6 x6).f1) x39).f1).length:Int)<x.f2 then (qK.j66 k x x6 x39 true) else (qK.j66 k x x6 x39 (decide ((((nth qG.z ((nth qC.z x.f6 x6).f1) x39).f1).length:Int)>x.f1)))))) else (none)) else (qK.l7 k x (w64 (x6+1)))
def qK.j66:Nat→qE→Int→Int→Bool→Option Bool
 | 0,_,_,_,_=>none
 | k+1,x,x6,x39,y65=>if y65=true then (some false) else (qK.l76 k x x6 x39 0)
def qK.l76:Nat→qE→Int→Int→Int→Option Bool
 | 0,_,_,_,_=>none
 | k+1,x,x6,x39,x75=>if x75<(((nth qG.z ((nth qC.z x.f6 x6).f1) x39).f1).length:Int) then (if 0≤x75∧x75<(((nth qG.z ((nth qC.z x.f6 x6).f1) x39).f1).length:Int) then (if (nth 0 ((nth qG.z ((nth qC.z x.f6 x6).f1) x39).f1) x75)<1 then (qK.j104 k x x6 x39 x75 true) else (if (nth 0 ((nth qG.z ((nth qC.z x.f6 x6).f1) x39).f1) x75)>999 then (qK.j104 k x x6 x39 x75 true) else (if x75>0 then (if 0≤(w64 (x75 - 1))∧(w64 (x75 - 1))<(((nth qG.z ((nth qC.z x.f6 x6).f1) x39).f1).length:Int) then (qK.j104 k x x6 x39 x75 (decide ((nth 0 ((nth qG.z ((nth qC.z x.f6 x6).f1) x39).f1) (w64 (x75 - 1)))≥(nth 0 ((nth qG.z ((nth qC.z x.f6 x6).f1) x39).f1) x75)))) else (none)) else (qK.j104 k x x6 x39 x75 false)))) else (none)) else (qK.l113 k x x6 x39 0)
def qK.j104:Nat→qE→Int→Int→Int→Bool→Option Bool
 | 0,_,_,_,_,_=>none
 | k+1,x,x6,x39,x75,y103=>if y103=true then (some false) else (qK.l76 k x x6 x39 (w64 (x75+1)))
def qK.l113:Nat→qE→Int→Int→Int→Option Bool
 | 0,_,_,_,_=>none
 | k+1,x,x6,x39,x112=>if x112<x39 then (if 0≤x112∧x112<(((nth qC.z x.f6 x6).f1).length:Int) then (if (nth qG.z ((nth qC.z x.f6 x6).f1) x112).f0≥(nth qG.z ((nth qC.z x.f6 x6).f1) x39).f0 then (qK.j137 k x x6 x39 x112 true) else ((qAD.f k ((nth qG.z ((nth qC.z x.f6 x6).f1) x112).f1) ((nth qG.z ((nth qC.z x.f6 x6).f1) x39).f1)).bind fun t134=>(qK.j137 k x x6 x39 x112 t134))) else (none)) else (qK.l40 k x x6 (w64 (x39+1)))
def qK.j137:Nat→qE→Int→Int→Int→Bool→Option Bool
 | 0,_,_,_,_,_=>none
 | k+1,x,x6,x39,x112,y136=>if y136=true then (some false) else (qK.l113 k x x6 x39 (w64 (x112+1)))
end
theorem qK.l7_s k x x6:type_of% (qK.l7.eq_2 x x6 k):=qK.l7.eq_2 x x6 k
theorem qK.j31_s k x x6 y30:type_of% (qK.j31.eq_2 x x6 y30 k):=qK.j31.eq_2 x x6 y30 k
theorem qK.l40_s k x x6 x39:type_of% (qK.l40.eq_2 x x6 x39 k):=qK.l40.eq_2 x x6 x39 k
theorem qK.j66_s k x x6 x39 y65:type_of% (qK.j66.eq_2 x x6 x39 y65 k):=qK.j66.eq_2 x x6 x39 y65 k
theorem qK.l76_s k x x6 x39 x75:type_of% (qK.l76.eq_2 x x6 x39 x75 k):=qK.l76.eq_2 x x6 x39 x75 k
theorem qK.j104_s k x x6 x39 x75 y103:type_of% (qK.j104.eq_2 x x6 x39 x75 y103 k):=qK.j104.eq_2 x x6 x39 x75 y103 k
theorem qK.l113_s k x x6 x39 x112:type_of% (qK.l113.eq_2 x x6 x39 x112 k):=qK.l113.eq_2 x x6 x39 x112 k
theorem qK.j137_s k x x6 x39 x112 y136:type_of% (qK.j137.eq_2 x x6 x39 x112 y136 k):=qK.j137.eq_2 x x6 x39 x112 y136 k
def qK.f(k:Nat)(x:qE):Option Bool:=qK.l7 k x 0
def qK.Post(W F:World)(r:Bool)(v:Value)(w':World):Prop:=∃(F':World),v = .bool r∧Sm W F w' F' []
theorem qK.calls(k:Nat)(x:qE)(A0_4:OA)(c0_4:Nat)(A0_5:OA)(c0_5:Nat)(A0_6:OA)(c0_6:Nat)(r:Bool)(W F:World)(hown:Sub F W)(g0_4:Rd qA.k F A0_4 c0_4 x.f4)(g0_5:Rd qD.k F A0_5 c0_5 x.f5)(g0_6:Rd qC.k F A0_6 c0_6 x.f6)(H:qK.f k x=some r):
    Cr 51 #[.agg #[iv x.f0,iv x.f1,iv x.f2,iv x.f3,.slice A0_4 x.f4.length c0_4,.slice A0_5 x.f5.length c0_5,.slice A0_6 x.f6.length c0_6]] W (qK.Post W F r):=by
 have S:=sT hown
 unfold qK.f at H
 refine ent 139 rfl rfl rfl (fun a E=>?_)
 refine sq fun K1 hK1=>pl0 (plx (t:=26) E S [iv x.f0,iv x.f1,iv x.f2,iv x.f3,.slice A0_4 x.f4.length c0_4,.slice A0_5 x.f5.length c0_5,.slice A0_6 x.f6.length c0_6] fun b2 u3 hb2 S a E=>plc E (.r 1 1 .nil) (fun a E=>pld (hK1 _ _ (sq fun K4 hK4=>rr E fun a E=>(wp_block ?_)))))
 refine wp_loop_ghost (fun kq8 a w'=>∃(G:NV)(x6:Int),kq8≤k∧Env 139 G a∧At G [(1,.pointer (pb b2)),(3,iv x6)]∧Sm W F w' F [box b2 #[iv x.f0,iv x.f1,iv x.f2,iv x.f3,.slice A0_4 x.f4.length c0_4,.slice A0_5 x.f5.length c0_5,.slice A0_6 x.f6.length c0_6] 26]∧qK.l7 kq8 x x6=some r) k ⟨_,0,Nat.le_refl _,E,.of,S,H⟩ ?_
 rintro kq8 a u10 ⟨G,x6,hkq,E,A,S,H⟩
 obtain _ | k9:=kq8
 exact zz H
 rw [qK.l7_s]at H
 obtain ⟨J,E⟩:=E.at A
 refine sq fun K11 hK11=>sq fun K12 hK12=>pl0 ?_
 have hb2:=S.ba 0
 refine plc E (.r 0 2<|.b 2 6 hb2<|.r 3 2<|.nil) (fun a E=>pld (hK12 _ _ (E.ik 13 H (fun c13 E H=>?_) fun c13 E H=>?_)))
 refine wp_skip (hK11 _ _ (sq fun K14 hK14=>wp_block (sq fun K15 hK15=>pl0 ?_)))
 obtain ⟨c16,H⟩:=gd H
 have hE_:=E
 obtain ⟨ad17,rfl⟩:=g0_6.addr c16.1 c16.2
 replace E:=hE_
 obtain ⟨cs19,⟨A21,c22,rfl,g23⟩,hc20⟩:=g0_6.el qC.z x6 c16.1 c16.2
 refine plc E (.r 0 1<|.b 1 6 hb2<|.r 2 1<|.x 3 c16<|.cs 4 (S.fcs hc20)<|.nil) (fun a E=>pla (t:=73) E S [iv 0,.slice none 0 0] fun b24 u25 hb24 S a E=>pls E S [iv ((nth qC.z x.f6 x6).f0),.slice A21 (((nth qC.z x.f6 x6).f1).length) c22] fun u26 hb24 S a E=>pld (hK15 _ _ (sq fun K27 hK27=>sq fun K28 hK28=>?_)))
 have J34:∀ kq32,kq32≤k9→∀(G:NV)(y30:Bool)(a:Act)(w':World),Env 139 G a→At G [(1,.pointer (pb b2)),(3,iv x6),(4,.pointer (pb b24)),(30,.bool y30)]→Sm W F w' F [box b24 #[iv ((nth qC.z x.f6 x6).f0),.slice A21 (((nth qC.z x.f6 x6).f1).length) c22] 73,box b2 #[iv x.f0,iv x.f1,iv x.f2,iv x.f3,.slice A0_4 x.f4.length c0_4,.slice A0_5 x.f5.length c0_5,.slice (some ad17) x.f6.length c0_6] 26]→qK.j31 kq32 x x6 y30=some r→K28 a w':=by
  intro kq32 hkq G y30 a u35 E A S H
  obtain _ | k33:=kq32
  exact zz H
  rw [qK.j31_s]at H
  obtain ⟨J,E⟩:=E.at A
  refine hK28 _ _ (E.ib 30 H (fun c36 E H=>?_) fun c36 E H=>?_)
  refine rr E fun a E=>(wp_ret (qCQ (qCR (qCQ (qCQ (qCR (qCQ ?_)))))))
  replace S:=S.pm [] 2
  obtain rfl:=si H
  exact rt1 E ⟨_,rfl,_,rfl,S⟩
  refine wp_skip (hK27 _ _ (rr E fun a E=>(wp_block ?_)))
  refine wp_loop_ghost (fun kq41 a w'=>∃(G:NV)(x39:Int),kq41≤k33∧Env 139 G a∧At G [(1,.pointer (pb b2)),(3,iv x6),(4,.pointer (pb b24)),(5,iv x39)]∧Sm W F w' F [box b24 #[iv ((nth qC.z x.f6 x6).f0),.slice A21 (((nth qC.z x.f6 x6).f1).length) c22] 73,box b2 #[iv x.f0,iv x.f1,iv x.f2,iv x.f3,.slice A0_4 x.f4.length c0_4,.slice A0_5 x.f5.length c0_5,.slice (some ad17) x.f6.length c0_6] 26]∧qK.l40 kq41 x x6 x39=some r) k33 ⟨_,0,Nat.le_refl _,E,.of,S,H⟩ ?_
  rintro kq41 a u43 ⟨G,x39,hkq,E,A,S,H⟩
  obtain _ | k42:=kq41
  exact zz H
  rw [qK.l40_s]at H
  obtain ⟨J,E⟩:=E.at A
  refine sq fun K44 hK44=>sq fun K45 hK45=>pl0 ?_
  have hb24:=S.ba 0
  refine plc E (.r 0 2<|.b 2 1 hb24<|.r 3 2<|.nil) (fun a E=>pld (hK45 _ _ (E.ik 35 H (fun c46 E H=>?_) fun c46 E H=>?_)))
  refine wp_skip (hK44 _ _ (sq fun K47 hK47=>wp_block (sq fun K48 hK48=>pl0 ?_)))
  obtain ⟨c49,H⟩:=gd H
  have hE_:=E
  obtain ⟨ad50,rfl⟩:=g23.addr c49.1 c49.2
  replace E:=hE_
  obtain ⟨cs52,⟨A54,c55,rfl,g56⟩,hc53⟩:=g23.el qG.z x39 c49.1 c49.2
  refine plc E (.r 0 1<|.b 1 1 hb24<|.r 2 1<|.x 3 c49<|.cs 4 (S.fcs hc53)<|.nil) (fun a E=>pla (t:=77) E S [iv 0,.slice none 0 0] fun b57 u58 hb57 S a E=>pls E S [iv ((nth qG.z ((nth qC.z x.f6 x6).f1) x39).f0),.slice A54 (((nth qG.z ((nth qC.z x.f6 x6).f1) x39).f1).length) c55] fun u59 hb57 S a E=>pld (hK48 _ _ (sq fun K60 hK60=>sq fun K61 hK61=>?_)))
  have J69:∀ kq67,kq67≤k42→∀(G:NV)(y65:Bool)(a:Act)(w':World),Env 139 G a→At G [(1,.pointer (pb b2)),(3,iv x6),(4,.pointer (pb b24)),(5,iv x39),(6,.pointer (pb b57)),(68,.bool y65)]→Sm W F w' F [box b57 #[iv ((nth qG.z ((nth qC.z x.f6 x6).f1) x39).f0),.slice A54 (((nth qG.z ((nth qC.z x.f6 x6).f1) x39).f1).length) c55] 77,box b24 #[iv ((nth qC.z x.f6 x6).f0),.slice (some ad50) (((nth qC.z x.f6 x6).f1).length) c22] 73,box b2 #[iv x.f0,iv x.f1,iv x.f2,iv x.f3,.slice A0_4 x.f4.length c0_4,.slice A0_5 x.f5.length c0_5,.slice (some ad17) x.f6.length c0_6] 26]→qK.j66 kq67 x x6 x39 y65=some r→K61 a w':=by
   intro kq67 hkq G y65 a u70 E A S H
   obtain _ | k68:=kq67
   exact zz H
   rw [qK.j66_s]at H
   obtain ⟨J,E⟩:=E.at A
   refine hK61 _ _ (E.ib 68 H (fun c71 E H=>?_) fun c71 E H=>?_)
   refine rr E fun a E=>(wp_ret (qCQ (qCR (qCQ (qCQ (qCR (qCR (qCQ (qCQ (qCR (qCQ ?_)))))))))))
   replace S:=S.pm [] 3
   obtain rfl:=si H
   exact rt1 E ⟨_,rfl,_,rfl,S⟩
   refine wp_skip (hK60 _ _ (sq fun K73 hK73=>rr E fun a E=>(wp_block ?_)))
   refine wp_loop_ghost (fun kq77 a w'=>∃(G:NV)(x75:Int),kq77≤k68∧Env 139 G a∧At G [(1,.pointer (pb b2)),(3,iv x6),(4,.pointer (pb b24)),(5,iv x39),(6,.pointer (pb b57)),(7,iv x75)]∧Sm W F w' F [box b57 #[iv ((nth qG.z ((nth qC.z x.f6 x6).f1) x39).f0),.slice A54 (((nth qG.z ((nth qC.z x.f6 x6).f1) x39).f1).length) c55] 77,box b24 #[iv ((nth qC.z x.f6 x6).f0),.slice (some ad50) (((nth qC.z x.f6 x6).f1).length) c22] 73,box b2 #[iv x.f0,iv x.f1,iv x.f2,iv x.f3,.slice A0_4 x.f4.length c0_4,.slice A0_5 x.f5.length c0_5,.slice (some ad17) x.f6.length c0_6] 26]∧qK.l76 kq77 x x6 x39 x75=some r) k68 ⟨_,0,Nat.le_refl _,E,.of,S,H⟩ ?_
   rintro kq77 a u79 ⟨G,x75,hkq,E,A,S,H⟩
   obtain _ | k78:=kq77
   exact zz H
   rw [qK.l76_s]at H
   obtain ⟨J,E⟩:=E.at A
   refine sq fun K80 hK80=>sq fun K81 hK81=>pl0 ?_
   have hb57:=S.ba 0
   refine plc E (.r 0 2<|.b 2 1 hb57<|.r 3 2<|.nil) (fun a E=>pld (hK81 _ _ (E.ik 73 H (fun c82 E H=>?_) fun c82 E H=>?_)))
   refine wp_skip (hK80 _ _ (sq fun K83 hK83=>wp_block (sq fun K84 hK84=>?_)))
   have J107:∀ kq105,kq105≤k78→∀(G:NV)(y103:Bool)(a:Act)(w':World),Env 139 G a→At G [(1,.pointer (pb b2)),(3,iv x6),(4,.pointer (pb b24)),(5,iv x39),(6,.pointer (pb b57)),(7,iv x75),(107,.bool y103)]→Sm W F w' F [box b57 #[iv ((nth qG.z ((nth qC.z x.f6 x6).f1) x39).f0),.slice A54 (((nth qG.z ((nth qC.z x.f6 x6).f1) x39).f1).length) c55] 77,box b24 #[iv ((nth qC.z x.f6 x6).f0),.slice (some ad50) (((nth qC.z x.f6 x6).f1).length) c22] 73,box b2 #[iv x.f0,iv x.f1,iv x.f2,iv x.f3,.slice A0_4 x.f4.length c0_4,.slice A0_5 x.f5.length c0_5,.slice (some ad17) x.f6.length c0_6] 26]→qK.j104 kq105 x x6 x39 x75 y103=some r→K84 a w':=by
    intro kq105 hkq G y103 a u108 E A S H
    obtain _ | k106:=kq105
    exact zz H
    rw [qK.j104_s]at H
    obtain ⟨J,E⟩:=E.at A
    refine hK84 _ _ (E.ib 107 H (fun c109 E H=>?_) fun c109 E H=>?_)
    refine rr E fun a E=>(wp_ret (qCR (qCQ (qCQ (qCR (qCQ (qCR (qCQ (qCQ (qCR (qCR (qCQ (qCQ (qCR (qCQ ?_)))))))))))))))
    replace S:=S.pm [] 3
    obtain rfl:=si H
    exact rt1 E ⟨_,rfl,_,rfl,S⟩
    refine wp_skip ?_
    refine qCS ?_
    refine hK83 _ _ (pl0 (plc E (.r 0 3 .nil) (fun a E=>pld ?_)))
    exact qCT ⟨k106,by omega,_,(w64 (x75+1)),by omega,E,.of,S,H⟩
   refine drawn 32 ⟨[],[],fun q=>False⟩ mixed rfl (by kernel_rfl) (fun hst=>?_)
   replace S:=S.drew
   have hb57:=S.ba 0
   obtain ⟨c85,H⟩:=gd H
   have hE_:=E
   obtain ⟨ad86,rfl⟩:=g56.addr c85.1 c85.2
   replace E:=hE_
   obtain ⟨cs88,rfl,hc89⟩:=g56.el 0 x75 c85.1 c85.2
   refine mny 25 hst E (.r 0 1<|.b 1 1 hb57<|.r 2 1<|.x 3 c85<|.c 4 (S.fc hc89 0)<|.r 5 2<|.nil) (fun a E=>?_)
   refine E.fk 82 H (fun c90 E H=>?_) fun c90 E H=>?_
   refine mny 0 hst E (.r 7 25 .nil) (fun a E=>?_)
   refine dn ?_
   exact J107 _ (by omega) _ true _ _ E .of S H
   refine mny 17 hst E (.r 7 1<|.b 8 1 hb57<|.r 9 1<|.x 10 c85<|.c 11 (S.fc hc89 0)<|.r 12 3<|.nil) (fun a E=>?_)
   refine E.fk 90 H (fun c94 E H=>?_) fun c94 E H=>?_
   refine mny 0 hst E (.r 15 17 .nil) (fun a E=>?_)
   refine dn ?_
   exact J107 _ (by omega) _ true _ _ E .of S H
   refine mny 14 hst E (.r 15 3 .nil) (fun a E=>?_)
   refine E.fk 93 H (fun c95 E H=>?_) fun c95 E H=>?_
   obtain ⟨c96,H⟩:=gd H
   obtain ⟨cs98,rfl,hc99⟩:=g56.el 0 (w64 (x75 - 1)) c96.1 c96.2
   refine mny 0 hst E (.r 18 1<|.b 19 1 hb57<|.r 20 2<|.x 22 c96<|.c 23 (S.fc hc99 0)<|.r 24 1<|.b 25 1 hb57<|.r 26 1<|.x 27 c85<|.c 28 (S.fc hc89 0)<|.r 29 3<|.nil) (fun a E=>?_)
   refine dn ?_
   exact J107 _ (by omega) _ (decide ((nth 0 ((nth qG.z ((nth qC.z x.f6 x6).f1) x39).f1) (w64 (x75 - 1)))≥(nth 0 ((nth qG.z ((nth qC.z x.f6 x6).f1) x39).f1) x75))) _ _ E .of S H
   refine mny 0 hst E (.r 18 14 .nil) (fun a E=>?_)
   refine dn ?_
   exact J107 _ (by omega) _ false _ _ E .of S H
   refine wp_exit ?_
   refine hK73 _ _ (rr E fun a E=>(wp_block ?_))
   refine wp_loop_ghost (fun kq114 a w'=>∃(G:NV)(x112:Int),kq114≤k78∧Env 139 G a∧At G [(1,.pointer (pb b2)),(3,iv x6),(4,.pointer (pb b24)),(5,iv x39),(6,.pointer (pb b57)),(8,iv x112)]∧Sm W F w' F [box b57 #[iv ((nth qG.z ((nth qC.z x.f6 x6).f1) x39).f0),.slice A54 (((nth qG.z ((nth qC.z x.f6 x6).f1) x39).f1).length) c55] 77,box b24 #[iv ((nth qC.z x.f6 x6).f0),.slice (some ad50) (((nth qC.z x.f6 x6).f1).length) c22] 73,box b2 #[iv x.f0,iv x.f1,iv x.f2,iv x.f3,.slice A0_4 x.f4.length c0_4,.slice A0_5 x.f5.length c0_5,.slice (some ad17) x.f6.length c0_6] 26]∧qK.l113 kq114 x x6 x39 x112=some r) k78 ⟨_,0,Nat.le_refl _,E,.of,S,H⟩ ?_
   rintro kq114 a u116 ⟨G,x112,hkq,E,A,S,H⟩
   obtain _ | k115:=kq114
   exact zz H
   rw [qK.l113_s]at H
   obtain ⟨J,E⟩:=E.at A
   refine sq fun K117 hK117=>rr E fun a E=>(E.ik 110 H (fun c119 E H=>?_) fun c119 E H=>?_)
   refine wp_skip (hK117 _ _ (sq fun K120 hK120=>wp_block (sq fun K121 hK121=>?_)))
   have J140:∀ kq138,kq138≤k115→∀(G:NV)(y136:Bool)(a:Act)(w':World),Env 139 G a→At G [(1,.pointer (pb b2)),(3,iv x6),(4,.pointer (pb b24)),(5,iv x39),(6,.pointer (pb b57)),(8,iv x112),(132,.bool y136)]→Sm W F w' F [box b57 #[iv ((nth qG.z ((nth qC.z x.f6 x6).f1) x39).f0),.slice A54 (((nth qG.z ((nth qC.z x.f6 x6).f1) x39).f1).length) c55] 77,box b24 #[iv ((nth qC.z x.f6 x6).f0),.slice (some ad50) (((nth qC.z x.f6 x6).f1).length) c22] 73,box b2 #[iv x.f0,iv x.f1,iv x.f2,iv x.f3,.slice A0_4 x.f4.length c0_4,.slice A0_5 x.f5.length c0_5,.slice (some ad17) x.f6.length c0_6] 26]→qK.j137 kq138 x x6 x39 x112 y136=some r→K121 a w':=by
    intro kq138 hkq G y136 a u141 E A S H
    obtain _ | k139:=kq138
    exact zz H
    rw [qK.j137_s]at H
    obtain ⟨J,E⟩:=E.at A
    refine hK121 _ _ (E.ib 132 H (fun c142 E H=>?_) fun c142 E H=>?_)
    refine rr E fun a E=>(wp_ret (qCR (qCQ (qCQ (qCR (qCR (qCQ (qCQ (qCR (qCR (qCQ (qCQ (qCR (qCQ ?_))))))))))))))
    replace S:=S.pm [] 3
    obtain rfl:=si H
    exact rt1 E ⟨_,rfl,_,rfl,S⟩
    refine wp_skip ?_
    refine qCS ?_
    refine hK120 _ _ (pl0 (plc E (.r 0 3 .nil) (fun a E=>pld ?_)))
    exact qCT ⟨k139,by omega,_,(w64 (x112+1)),by omega,E,.of,S,H⟩
   refine drawn 20 ⟨[],[],fun q=>False⟩ mixed rfl (by kernel_rfl) (fun hst=>?_)
   replace S:=S.drew
   have hb24:=S.ba 1
   obtain ⟨c122,H⟩:=gd H
   obtain ⟨cs124,⟨A126,c127,rfl,g128⟩,hc125⟩:=g23.el qG.z x112 c122.1 c122.2
   have hb57:=S.ba 0
   refine mny 10 hst E (.r 0 1<|.b 1 1 hb24<|.r 2 1<|.x 3 c122<|.r 4 1<|.c 5 (S.fc hc125 0)<|.r 6 1<|.b 7 0 hb57<|.r 8 2<|.nil) (fun a E=>?_)
   refine E.fk 122 H (fun c129 E H=>?_) fun c129 E H=>?_
   refine mny 0 hst E (.r 10 10 .nil) (fun a E=>?_)
   refine dn ?_
   exact J140 _ (by omega) _ true _ _ E .of S H
   refine mny 2 hst E (.r 10 1<|.b 11 1 hb24<|.r 12 1<|.x 13 c122<|.r 14 1<|.c 15 (S.fc hc125 1)<|.r 16 1<|.b 17 1 hb57<|.nil) (fun a E=>?_)
   obtain ⟨t134,h135,H⟩:=bd H
   refine on1 18 E (.cl en23 (qAD.calls k115 ((nth qG.z ((nth qC.z x.f6 x6).f1) x112).f1) ((nth qG.z ((nth qC.z x.f6 x6).f1) x39).f1) _ _ _ _ _ _ _ S.own.sub g128 g56 h135)) ?_
   rintro _ u133 a ⟨_,rfl,hC⟩ E
   refine ⟨.of hC.agr,?_⟩
   replace S:=S.lent hC
   refine mny 0 hst E (.r 19 1 .nil) (fun a E=>?_)
   refine dn ?_
   exact J140 _ (by omega) _ t134 _ _ E .of S H
   refine wp_exit ?_
   refine hK47 _ _ (pl0 (plc E (.r 0 3 .nil) (fun a E=>pld ?_)))
   replace S:=S.tail
   exact qCT ⟨k115,by omega,_,(w64 (x39+1)),by omega,E,.of,S,H⟩
  refine pl0 (plc E (.r 0 1<|.b 1 0 hb57<|.r 2 2<|.nil) (fun a E=>E.fk 46 H (fun c62 E H=>?_) fun c62 E H=>?_))
  refine plc E (.r 4 22 .nil) (fun a E=>pld ?_)
  exact J69 _ (by omega) _ true _ _ E .of S H
  refine plc E (.r 4 1<|.b 5 0 hb57<|.r 6 1<|.b 7 0 (S.ba 1)<|.r 8 3<|.nil) (fun a E=>E.fk 53 H (fun c63 E H=>?_) fun c63 E H=>?_)
  refine plc E (.r 11 15 .nil) (fun a E=>pld ?_)
  exact J69 _ (by omega) _ true _ _ E .of S H
  have hb2:=S.ba 2
  refine plc E (.r 11 1<|.b 12 1 hb57<|.r 13 2<|.b 15 2 hb2<|.r 16 3<|.nil) (fun a E=>E.fk 61 H (fun c64 E H=>?_) fun c64 E H=>?_)
  refine plc E (.r 19 7 .nil) (fun a E=>pld ?_)
  exact J69 _ (by omega) _ true _ _ E .of S H
  refine plc E (.r 19 1<|.b 20 1 hb57<|.r 21 2<|.b 23 1 hb2<|.r 24 2<|.nil) (fun a E=>pld ?_)
  exact J69 _ (by omega) _ (decide ((((nth qG.z ((nth qC.z x.f6 x6).f1) x39).f1).length:Int)>x.f1)) _ _ E .of S H
  refine wp_exit ?_
  refine hK14 _ _ (pl0 (plc E (.r 0 3 .nil) (fun a E=>pld ?_)))
  replace S:=S.tail
  exact qCT ⟨k42,by omega,_,(w64 (x6+1)),by omega,E,.of,S,H⟩
 refine pl0 (plc E (.r 0 1<|.b 1 0 hb24<|.r 2 2<|.nil) (fun a E=>E.fk 24 H (fun c29 E H=>?_) fun c29 E H=>?_))
 refine plc E (.r 4 6 .nil) (fun a E=>pld ?_)
 exact J34 _ (by omega) _ true _ _ E .of S H
 refine plc E (.r 4 1<|.b 5 0 hb24<|.r 6 1<|.b 7 0 (S.ba 1)<|.r 8 2<|.nil) (fun a E=>pld ?_)
 exact J34 _ (by omega) _ (decide ((nth qC.z x.f6 x6).f0>x.f0)) _ _ E .of S H
 refine wp_exit ?_
 refine hK4 _ _ (rg E (.r 0 1<|.b 1 6 hb2<|.r 2 2<|.b 4 3 hb2<|.r 5 2<|.nil) fun a E=>(wp_ret ?_))
 replace S:=S.tail
 obtain rfl:=si H
 exact rt1 E ⟨_,rfl,_,rfl,S⟩
mutual
def qe.j18:Nat→qE→Bool→Option Bool
 | 0,_,_=>none
 | k+1,x,y17=>if y17=true then (some false) else (qe.l28 k x 0)
def qe.l28:Nat→qE→Int→Option Bool
 | 0,_,_=>none
 | k+1,x,x27=>if x27<(x.f5.length:Int) then (if 0≤x27∧x27<(x.f5.length:Int) then (if (nth qD.z x.f5 x27).f0<0 then (qe.j71 k x x27 true) else (if (nth qD.z x.f5 x27).f0≥x.f3 then (qe.j71 k x x27 true) else (if x27>0 then (if 0≤(w64 (x27 - 1))∧(w64 (x27 - 1))<(x.f5.length:Int) then (if (nth qD.z x.f5 (w64 (x27 - 1))).f0≥(nth qD.z x.f5 x27).f0 then (qe.j71 k x x27 true) else (if (((nth qD.z x.f5 x27).f1).length:Int)<1 then (qe.j71 k x x27 true) else (if (((nth qD.z x.f5 x27).f1).length:Int)>x.f1 then (qe.j71 k x x27 true) else ((qo.f k x.f4 ((nth qD.z x.f5 x27).f1)).bind fun t63=>(qe.j71 k x x27 (!t63)))))) else (none)) else (if (((nth qD.z x.f5 x27).f1).length:Int)<1 then (qe.j71 k x x27 true) else (if (((nth qD.z x.f5 x27).f1).length:Int)>x.f1 then (qe.j71 k x x27 true) else ((qo.f k x.f4 ((nth qD.z x.f5 x27).f1)).bind fun t68=>(qe.j71 k x x27 (!t68)))))))) else (none)) else ((qK.f k x).bind fun t80=>(some t80))
def qe.j71:Nat→qE→Int→Bool→Option Bool
 | 0,_,_,_=>none
 | k+1,x,x27,y70=>if y70=true then (some false) else (qe.l28 k x (w64 (x27+1)))
end
theorem qe.j18_s k x y17:type_of% (qe.j18.eq_2 x y17 k):=qe.j18.eq_2 x y17 k
theorem qe.l28_s k x x27:type_of% (qe.l28.eq_2 x x27 k):=qe.l28.eq_2 x x27 k
theorem qe.j71_s k x x27 y70:type_of% (qe.j71.eq_2 x x27 y70 k):=qe.j71.eq_2 x x27 y70 k
def qe.f(k:Nat)(x:qE):Option Bool:=if x.f0<0 then (qe.j18 k x true) else (if x.f0≥2147483648 then (qe.j18 k x true) else (if x.f1<1 then (qe.j18 k x true) else (if x.f1>3 then (qe.j18 k x true) else (if x.f2<1 then (qe.j18 k x true) else (if x.f2>x.f1 then (qe.j18 k x true) else (if x.f3<1 then (qe.j18 k x true) else (if x.f3>8 then (qe.j18 k x true) else ((qm.f k x.f4).bind fun t15=>(qe.j18 k x (!t15))))))))))
def qe.Post(W F:World)(r:Bool)(v:Value)(w':World):Prop:=∃(F':World),v = .bool r∧Sm W F w' F' []
theorem qe.calls(k:Nat)(x:qE)(A0_4:OA)(c0_4:Nat)(A0_5:OA)(c0_5:Nat)(A0_6:OA)(c0_6:Nat)(r:Bool)(W F:World)(hown:Sub F W)(g0_4:Rd qA.k F A0_4 c0_4 x.f4)(g0_5:Rd qD.k F A0_5 c0_5 x.f5)(g0_6:Rd qC.k F A0_6 c0_6 x.f6)(H:qe.f k x=some r):
    Cr 22 #[.agg #[iv x.f0,iv x.f1,iv x.f2,iv x.f3,.slice A0_4 x.f4.length c0_4,.slice A0_5 x.f5.length c0_5,.slice A0_6 x.f6.length c0_6]] W (qe.Post W F r):=by
 have S:=sT hown
 unfold qe.f at H
 refine ent 113 rfl rfl rfl (fun a E=>?_)
 refine sq fun K1 hK1=>pl0 (plx (t:=26) E S [iv x.f0,iv x.f1,iv x.f2,iv x.f3,.slice A0_4 x.f4.length c0_4,.slice A0_5 x.f5.length c0_5,.slice A0_6 x.f6.length c0_6] fun b2 u3 hb2 S a E=>plc E (.r 1 1 .nil) (fun a E=>pld (hK1 _ _ (sq fun K4 hK4=>sq fun K5 hK5=>?_))))
 have J21:∀ kq19,kq19≤k→∀(G:NV)(y17:Bool)(a:Act)(w':World),Env 113 G a→At G [(1,.pointer (pb b2)),(50,.bool y17)]→Sm W F w' F [box b2 #[iv x.f0,iv x.f1,iv x.f2,iv x.f3,.slice A0_4 x.f4.length c0_4,.slice A0_5 x.f5.length c0_5,.slice A0_6 x.f6.length c0_6] 26]→qe.j18 kq19 x y17=some r→K5 a w':=by
  intro kq19 hkq G y17 a u22 E A S H
  obtain _ | k20:=kq19
  exact zz H
  rw [qe.j18_s]at H
  obtain ⟨J,E⟩:=E.at A
  refine hK5 _ _ (E.ib 50 H (fun c23 E H=>?_) fun c23 E H=>?_)
  refine rr E fun a E=>(wp_ret (qCQ ?_))
  replace S:=S.tail
  obtain rfl:=si H
  exact rt1 E ⟨_,rfl,_,rfl,S⟩
  refine wp_skip (hK4 _ _ (sq fun K25 hK25=>rr E fun a E=>(wp_block ?_)))
  refine wp_loop_ghost (fun kq29 a w'=>∃(G:NV)(x27:Int),kq29≤k20∧Env 113 G a∧At G [(1,.pointer (pb b2)),(3,iv x27)]∧Sm W F w' F [box b2 #[iv x.f0,iv x.f1,iv x.f2,iv x.f3,.slice A0_4 x.f4.length c0_4,.slice A0_5 x.f5.length c0_5,.slice A0_6 x.f6.length c0_6] 26]∧qe.l28 kq29 x x27=some r) k20 ⟨_,0,Nat.le_refl _,E,.of,S,H⟩ ?_
  rintro kq29 a u31 ⟨G,x27,hkq,E,A,S,H⟩
  obtain _ | k30:=kq29
  exact zz H
  rw [qe.l28_s]at H
  obtain ⟨J,E⟩:=E.at A
  refine sq fun K32 hK32=>sq fun K33 hK33=>pl0 ?_
  have hb2:=S.ba 0
  refine plc E (.r 0 2<|.b 2 5 hb2<|.r 3 2<|.nil) (fun a E=>pld (hK33 _ _ (E.ik 55 H (fun c34 E H=>?_) fun c34 E H=>?_)))
  refine wp_skip (hK32 _ _ (sq fun K35 hK35=>wp_block (sq fun K36 hK36=>pl0 ?_)))
  obtain ⟨c37,H⟩:=gd H
  have hE_:=E
  obtain ⟨ad38,rfl⟩:=g0_5.addr c37.1 c37.2
  replace E:=hE_
  obtain ⟨cs40,⟨A42,c43,rfl,g44⟩,hc41⟩:=g0_5.el qD.z x27 c37.1 c37.2
  refine plc E (.r 0 1<|.b 1 5 hb2<|.r 2 1<|.x 3 c37<|.cs 4 (S.fcs hc41)<|.nil) (fun a E=>pla (t:=75) E S [iv 0,.slice none 0 0] fun b45 u46 hb45 S a E=>pls E S [iv ((nth qD.z x.f5 x27).f0),.slice A42 (((nth qD.z x.f5 x27).f1).length) c43] fun u47 hb45 S a E=>pld (hK36 _ _ (sq fun K48 hK48=>?_)))
  have J74:∀ kq72,kq72≤k30→∀(G:NV)(y70:Bool)(a:Act)(w':World),Env 113 G a→At G [(1,.pointer (pb b2)),(3,iv x27),(110,.bool y70)]→Sm W F w' F [box b45 #[iv ((nth qD.z x.f5 x27).f0),.slice A42 (((nth qD.z x.f5 x27).f1).length) c43] 75,box b2 #[iv x.f0,iv x.f1,iv x.f2,iv x.f3,.slice A0_4 x.f4.length c0_4,.slice (some ad38) x.f5.length c0_5,.slice A0_6 x.f6.length c0_6] 26]→qe.j71 kq72 x x27 y70=some r→K48 a w':=by
   intro kq72 hkq G y70 a u75 E A S H
   obtain _ | k73:=kq72
   exact zz H
   rw [qe.j71_s]at H
   obtain ⟨J,E⟩:=E.at A
   refine hK48 _ _ (E.ib 110 H (fun c76 E H=>?_) fun c76 E H=>?_)
   refine rr E fun a E=>(wp_ret (qCR (qCQ (qCQ (qCR (qCQ ?_))))))
   replace S:=S.pm [] 2
   obtain rfl:=si H
   exact rt1 E ⟨_,rfl,_,rfl,S⟩
   refine wp_skip ?_
   refine qCS ?_
   refine hK35 _ _ (pl0 (plc E (.r 0 3 .nil) (fun a E=>pld ?_)))
   replace S:=S.tail
   exact qCT ⟨k73,by omega,_,(w64 (x27+1)),by omega,E,.of,S,H⟩
  refine drawn 48 ⟨[],[],fun q=>False⟩ mixed rfl (by kernel_rfl) (fun hst=>?_)
  replace S:=S.drew
  have hb45:=S.ba 0
  refine mny 44 hst E (.r 0 1<|.b 1 0 hb45<|.r 2 2<|.nil) (fun a E=>?_)
  refine E.fk 66 H (fun c49 E H=>?_) fun c49 E H=>?_
  refine mny 0 hst E (.r 4 44 .nil) (fun a E=>?_)
  refine dn ?_
  exact J74 _ (by omega) _ true _ _ E .of S H
  have hb2:=S.ba 1
  refine mny 37 hst E (.r 4 1<|.b 5 0 hb45<|.r 6 1<|.b 7 3 hb2<|.r 8 3<|.nil) (fun a E=>?_)
  refine E.fk 73 H (fun c50 E H=>?_) fun c50 E H=>?_
  refine mny 0 hst E (.r 11 37 .nil) (fun a E=>?_)
  refine dn ?_
  exact J74 _ (by omega) _ true _ _ E .of S H
  refine mny 34 hst E (.r 11 3 .nil) (fun a E=>?_)
  refine E.fk 76 H (fun c51 E H=>?_) fun c51 E H=>?_
  obtain ⟨c52,H⟩:=gd H
  obtain ⟨cs54,⟨A56,c57,rfl,g58⟩,hc55⟩:=g0_5.el qD.z (w64 (x27 - 1)) c52.1 c52.2
  refine mny 21 hst E (.r 14 1<|.b 15 5 hb2<|.r 16 2<|.x 18 c52<|.r 19 1<|.c 20 (S.fc hc55 0)<|.r 21 1<|.b 22 0 hb45<|.r 23 4<|.nil) (fun a E=>?_)
  refine E.fk 89 H (fun c59 E H=>?_) fun c59 E H=>?_
  refine mny 0 hst E (.r 27 21 .nil) (fun a E=>?_)
  refine dn ?_
  exact J74 _ (by omega) _ true _ _ E .of S H
  refine mny 15 hst E (.r 27 1<|.b 28 1 hb45<|.r 29 4<|.nil) (fun a E=>?_)
  refine E.fk 95 H (fun c60 E H=>?_) fun c60 E H=>?_
  refine mny 0 hst E (.r 33 15 .nil) (fun a E=>?_)
  refine dn ?_
  exact J74 _ (by omega) _ true _ _ E .of S H
  refine mny 7 hst E (.r 33 1<|.b 34 1 hb45<|.r 35 2<|.b 37 1 hb2<|.r 38 3<|.nil) (fun a E=>?_)
  refine E.fk 103 H (fun c61 E H=>?_) fun c61 E H=>?_
  refine mny 0 hst E (.r 41 7 .nil) (fun a E=>?_)
  refine dn ?_
  exact J74 _ (by omega) _ true _ _ E .of S H
  refine mny 3 hst E (.r 41 1<|.b 42 4 hb2<|.r 43 1<|.b 44 1 hb45<|.nil) (fun a E=>?_)
  obtain ⟨t63,h64,H⟩:=bd H
  refine on1 45 E (.cl en17 (qo.calls k30 x.f4 ((nth qD.z x.f5 x27).f1) _ _ _ _ _ _ _ S.own.sub g0_4 g44 h64)) ?_
  rintro _ u62 a ⟨_,rfl,hC⟩ E
  refine ⟨.of hC.agr,?_⟩
  replace S:=S.lent hC
  refine mny 0 hst E (.r 46 2 .nil) (fun a E=>?_)
  refine dn ?_
  exact J74 _ (by omega) _ (!t63) _ _ E .of S H
  refine mny 15 hst E (.r 14 14<|.b 28 1 hb45<|.r 29 4<|.nil) (fun a E=>?_)
  refine E.fk 95 H (fun c65 E H=>?_) fun c65 E H=>?_
  refine mny 0 hst E (.r 33 15 .nil) (fun a E=>?_)
  refine dn ?_
  exact J74 _ (by omega) _ true _ _ E .of S H
  refine mny 7 hst E (.r 33 1<|.b 34 1 hb45<|.r 35 2<|.b 37 1 hb2<|.r 38 3<|.nil) (fun a E=>?_)
  refine E.fk 103 H (fun c66 E H=>?_) fun c66 E H=>?_
  refine mny 0 hst E (.r 41 7 .nil) (fun a E=>?_)
  refine dn ?_
  exact J74 _ (by omega) _ true _ _ E .of S H
  refine mny 3 hst E (.r 41 1<|.b 42 4 hb2<|.r 43 1<|.b 44 1 hb45<|.nil) (fun a E=>?_)
  obtain ⟨t68,h69,H⟩:=bd H
  refine on1 45 E (.cl en17 (qo.calls k30 x.f4 ((nth qD.z x.f5 x27).f1) _ _ _ _ _ _ _ S.own.sub g0_4 g44 h69)) ?_
  rintro _ u67 a ⟨_,rfl,hC⟩ E
  refine ⟨.of hC.agr,?_⟩
  replace S:=S.lent hC
  refine mny 0 hst E (.r 46 2 .nil) (fun a E=>?_)
  refine dn ?_
  exact J74 _ (by omega) _ (!t68) _ _ E .of S H
  refine wp_exit ?_
  refine hK25 _ _ (sq fun K78 hK78=>pl0 (plc E (.bn 0 0 7 hb2 .nil) (fun a E=>?_)))
  obtain ⟨t80,h81,H⟩:=bd H
  refine plq E S en51 (qK.calls k30 x _ _ _ _ _ _ _ _ _ S.own.sub g0_4 g0_5 g0_6 h81) fun u79 S a E=>plc E (.r 2 1 .nil) (fun a E=>pld (hK78 _ _ (wp_ret ?_)))
  replace S:=S.tail
  obtain rfl:=si H
  exact rt1 E ⟨_,rfl,_,rfl,S⟩
 refine pl0 (plc E (.r 0 1<|.b 1 0 hb2<|.r 2 2<|.nil) (fun a E=>E.fk 8 H (fun c6 E H=>?_) fun c6 E H=>?_))
 refine plc E (.r 4 42 .nil) (fun a E=>pld ?_)
 exact J21 _ (by omega) _ true _ _ E .of S H
 refine plc E (.r 4 1<|.b 5 0 hb2<|.r 6 3<|.nil) (fun a E=>E.fk 13 H (fun c7 E H=>?_) fun c7 E H=>?_)
 refine plc E (.r 9 37 .nil) (fun a E=>pld ?_)
 exact J21 _ (by omega) _ true _ _ E .of S H
 refine plc E (.r 9 1<|.b 10 1 hb2<|.r 11 3<|.nil) (fun a E=>E.fk 18 H (fun c8 E H=>?_) fun c8 E H=>?_)
 refine plc E (.r 14 32 .nil) (fun a E=>pld ?_)
 exact J21 _ (by omega) _ true _ _ E .of S H
 refine plc E (.r 14 1<|.b 15 1 hb2<|.r 16 3<|.nil) (fun a E=>E.fk 23 H (fun c9 E H=>?_) fun c9 E H=>?_)
 refine plc E (.r 19 27 .nil) (fun a E=>pld ?_)
 exact J21 _ (by omega) _ true _ _ E .of S H
 refine plc E (.r 19 1<|.b 20 2 hb2<|.r 21 3<|.nil) (fun a E=>E.fk 28 H (fun c10 E H=>?_) fun c10 E H=>?_)
 refine plc E (.r 24 22 .nil) (fun a E=>pld ?_)
 exact J21 _ (by omega) _ true _ _ E .of S H
 refine plc E (.r 24 1<|.b 25 2 hb2<|.r 26 1<|.b 27 1 hb2<|.r 28 3<|.nil) (fun a E=>E.fk 35 H (fun c11 E H=>?_) fun c11 E H=>?_)
 refine plc E (.r 31 15 .nil) (fun a E=>pld ?_)
 exact J21 _ (by omega) _ true _ _ E .of S H
 refine plc E (.r 31 1<|.b 32 3 hb2<|.r 33 3<|.nil) (fun a E=>E.fk 40 H (fun c12 E H=>?_) fun c12 E H=>?_)
 refine plc E (.r 36 10 .nil) (fun a E=>pld ?_)
 exact J21 _ (by omega) _ true _ _ E .of S H
 refine plc E (.r 36 1<|.b 37 3 hb2<|.r 38 3<|.nil) (fun a E=>E.fk 45 H (fun c13 E H=>?_) fun c13 E H=>?_)
 refine plc E (.r 41 5 .nil) (fun a E=>pld ?_)
 exact J21 _ (by omega) _ true _ _ E .of S H
 refine plc E (.r 41 1<|.b 42 4 hb2<|.nil) (fun a E=>?_)
 obtain ⟨t15,h16,H⟩:=bd H
 refine plq E S en50 (qm.calls k x.f4 _ _ _ _ _ S.own.sub g0_4 h16) fun u14 S a E=>plc E (.r 44 2 .nil) (fun a E=>pld ?_)
 exact J21 _ (by omega) _ (!t15) _ _ E .of S H
def qAJ.l7:Nat→qE→Int→Int→Option (List Int)
 | 0,_,_,_=>none
 | k+1,x,y,x6=>if x6<(x.f5.length:Int) then (if 0≤x6∧x6<(x.f5.length:Int) then (if (nth qD.z x.f5 x6).f0=y then (some ((nth qD.z x.f5 x6).f1)) else (qAJ.l7 k x y (w64 (x6+1)))) else (none)) else (some [])
theorem qAJ.l7_s k x y x6:type_of% (qAJ.l7.eq_2 x y x6 k):=qAJ.l7.eq_2 x y x6 k
def qAJ.f(k:Nat)(x:qE)(y:Int):Option (List Int):=qAJ.l7 k x y 0
def qAJ.Post(W F:World)(r:List Int)(v:Value)(w':World):Prop:=∃(F':World)(RA0_0:OA)(rc0_0:Nat),v = .slice RA0_0 r.length rc0_0∧Sm W F w' F' []∧Rd ki F' RA0_0 rc0_0 r
theorem qAJ.calls(k:Nat)(x:qE)(y:Int)(A0_4:OA)(c0_4:Nat)(A0_5:OA)(c0_5:Nat)(A0_6:OA)(c0_6:Nat)(r:List Int)(W F:World)(hown:Sub F W)(g0_4:Rd qA.k F A0_4 c0_4 x.f4)(g0_5:Rd qD.k F A0_5 c0_5 x.f5)(g0_6:Rd qC.k F A0_6 c0_6 x.f6)(H:qAJ.f k x y=some r):
    Cr 61 #[.agg #[iv x.f0,iv x.f1,iv x.f2,iv x.f3,.slice A0_4 x.f4.length c0_4,.slice A0_5 x.f5.length c0_5,.slice A0_6 x.f6.length c0_6],iv y] W (qAJ.Post W F r):=by
 have S:=sT hown
 unfold qAJ.f at H
 refine ent 27 rfl rfl rfl (fun a E=>?_)
 refine sq fun K1 hK1=>pl0 (plx (t:=26) E S [iv x.f0,iv x.f1,iv x.f2,iv x.f3,.slice A0_4 x.f4.length c0_4,.slice A0_5 x.f5.length c0_5,.slice A0_6 x.f6.length c0_6] fun b2 u3 hb2 S a E=>plc E (.r 1 1 .nil) (fun a E=>pld (hK1 _ _ (sq fun K4 hK4=>rr E fun a E=>(wp_block ?_)))))
 refine wp_loop_ghost (fun kq8 a w'=>∃(G:NV)(x6:Int),kq8≤k∧Env 27 G a∧At G [(1,iv y),(2,.pointer (pb b2)),(5,iv x6)]∧Sm W F w' F [box b2 #[iv x.f0,iv x.f1,iv x.f2,iv x.f3,.slice A0_4 x.f4.length c0_4,.slice A0_5 x.f5.length c0_5,.slice A0_6 x.f6.length c0_6] 26]∧qAJ.l7 kq8 x y x6=some r) k ⟨_,0,Nat.le_refl _,E,.of,S,H⟩ ?_
 rintro kq8 a u10 ⟨G,x6,hkq,E,A,S,H⟩
 obtain _ | k9:=kq8
 exact zz H
 rw [qAJ.l7_s]at H
 obtain ⟨J,E⟩:=E.at A
 refine sq fun K11 hK11=>sq fun K12 hK12=>pl0 ?_
 have hb2:=S.ba 0
 refine plc E (.r 0 2<|.b 2 5 hb2<|.r 3 2<|.nil) (fun a E=>pld (hK12 _ _ (E.ik 10 H (fun c13 E H=>?_) fun c13 E H=>?_)))
 refine wp_skip (hK11 _ _ (sq fun K14 hK14=>wp_block (sq fun K15 hK15=>pl0 ?_)))
 obtain ⟨c16,H⟩:=gd H
 have hE_:=E
 obtain ⟨ad17,rfl⟩:=g0_5.addr c16.1 c16.2
 replace E:=hE_
 obtain ⟨cs19,⟨A21,c22,rfl,g23⟩,hc20⟩:=g0_5.el qD.z x6 c16.1 c16.2
 refine plc E (.r 0 1<|.b 1 5 hb2<|.r 2 1<|.x 3 c16<|.r 4 1<|.c 5 (S.fc hc20 0)<|.r 6 2<|.nil) (fun a E=>pld (hK15 _ _ (E.ik 20 H (fun c24 E H=>?_) fun c24 E H=>?_)))
 refine rg E (.r 0 1<|.b 1 5 hb2<|.r 2 1<|.x 3 c16<|.r 4 1<|.c 5 (S.fc hc20 1)<|.r 6 1<|.nil) fun a E=>(wp_ret (qCR (qCQ (qCQ (qCR (qCQ ?_))))))
 replace S:=S.tail
 obtain rfl:=si H
 exact rt1 E ⟨_,rfl,_,_,_,rfl,S,g23⟩
 refine wp_skip ?_
 refine qCS ?_
 refine hK14 _ _ (pl0 (plc E (.r 0 3 .nil) (fun a E=>pld ?_)))
 exact qCT ⟨k9,by omega,_,(w64 (x6+1)),by omega,E,.of,S,H⟩
 refine wp_exit ?_
 refine hK4 _ _ (rr E fun a E=>(wp_ret ?_))
 replace S:=S.tail
 obtain rfl:=si H
 exact rt1 E ⟨_,rfl,_,_,_,rfl,S,(Rd.nil _ _)⟩
def qAy.f(x:qA):Option Int:=if x.f5=true then (some x.f3) else (some 0)
def qAy.Post(W F:World)(r:Int)(v:Value)(w':World):Prop:=∃(F':World),v=iv r∧Sm W F w' F' []
theorem qAy.calls(x:qA)(r:Int)(W F:World)(hown:Sub F W)(H:qAy.f x=some r):
    Cr 142 #[.agg #[iv x.f0,iv x.f1,iv x.f2,iv x.f3,.bool x.f4,.bool x.f5]] W (qAy.Post W F r):=by
 have S:=sT hown
 unfold qAy.f at H
 refine ent 7 rfl rfl rfl (fun a E=>?_)
 refine sq fun K1 hK1=>pl0 (plx (t:=68) E S [iv x.f0,iv x.f1,iv x.f2,iv x.f3,.bool x.f4,.bool x.f5] fun b2 u3 hb2 S a E=>plc E (.r 1 1 .nil) (fun a E=>pld (hK1 _ _ (sq fun K4 hK4=>rg E (.r 0 1<|.b 1 5 hb2<|.nil) fun a E=>(E.ib 4 H (fun c6 E H=>?_) fun c6 E H=>?_)))))
 refine rg E (.r 0 1<|.b 1 3 hb2<|.r 2 1<|.nil) fun a E=>(wp_ret (qCQ ?_))
 replace S:=S.tail
 obtain rfl:=si H
 exact rt1 E ⟨_,rfl,_,rfl,S⟩
 refine wp_skip (hK4 _ _ (rr E fun a E=>(wp_ret ?_)))
 replace S:=S.tail
 obtain rfl:=si H
 exact rt1 E ⟨_,rfl,_,rfl,S⟩
mutual
def qp.l14:Nat→List qA→Int→Int→List qB→Int→Option (List qB)
 | 0,_,_,_,_,_=>none
 | k+1,x,y,z,l12,x13=>if x13<(x.length:Int) then (if y=0 then (if z=0 then (qp.j41 k x y z l12 x13 true) else (if 0≤x13∧x13<(x.length:Int) then (qp.j41 k x y z l12 x13 ((nth qA.z x x13).f2 == z)) else (none))) else (if 0≤x13∧x13<(x.length:Int) then (if (nth qA.z x x13).f1=y then (if z=0 then (qp.j41 k x y z l12 x13 true) else (qp.j41 k x y z l12 x13 ((nth qA.z x x13).f2 == z))) else (qp.j41 k x y z l12 x13 false)) else (none))) else (some l12)
def qp.j41:Nat→List qA→Int→Int→List qB→Int→Bool→Option (List qB)
 | 0,_,_,_,_,_,_=>none
 | k+1,x,y,z,l12,x13,y40=>if y40=true then (if 0≤x13∧x13<(x.length:Int) then ((qAy.f (nth qA.z x x13)).bind fun t56=>(if ((l12.length:Int)+((1:Nat):Int)) * 16≤140737488355328 then (qp.l14 k x y z (l12++[(⟨(nth qA.z x x13).f0,t56⟩:qB)]) (w64 (x13+1))) else (none))) else (none)) else (qp.l14 k x y z l12 (w64 (x13+1)))
end
theorem qp.l14_s k x y z l12 x13:type_of% (qp.l14.eq_2 x y z l12 x13 k):=qp.l14.eq_2 x y z l12 x13 k
theorem qp.j41_s k x y z l12 x13 y40:type_of% (qp.j41.eq_2 x y z l12 x13 y40 k):=qp.j41.eq_2 x y z l12 x13 y40 k
def qp.f(k:Nat)(x:List qA)(y:Int)(z:Int):Option (List qB):=qp.l14 k x y z ([]:List qB) 0
def qp.Post(W F:World)(r:List qB)(v:Value)(w':World):Prop:=∃(F':World)(RA0_0:OA)(rc0_0:Nat),v = .slice RA0_0 r.length rc0_0∧Sm W F w' F' [row qB.k 139 (.slice RA0_0 r.length rc0_0) r]
theorem qp.calls(k:Nat)(x:List qA)(y:Int)(z:Int)(A0_0:OA)(c0_0:Nat)(r:List qB)(W F:World)(hown:Sub F W)(g0_0:Rd qA.k F A0_0 c0_0 x)(H:qp.f k x y z=some r):
    Cr 116 #[.slice A0_0 x.length c0_0,iv y,iv z] W (qp.Post W F r):=by
 have S:=sT hown
 unfold qp.f at H
 refine ent 55 rfl rfl rfl (fun a E=>?_)
 refine rr E fun a E=>(sq fun K2 hK2=>pl0 (ple E (.lit (d:=qB.k) (e:=139) S ([]:List qB) (.nil)) ?_))
 rintro _ u3 a ⟨A4,c5,rfl,S,hg⟩ E
 refine plc E (.r 1 1 .nil) (fun a E=>pld (hK2 _ _ (sq fun K7 hK7=>rr E fun a E=>(wp_block ?_))))
 refine wp_loop_ghost (fun kq15 a w'=>∃(G:NV)(A10:OA)(c11:Nat)(l12:List qB)(x13:Int),kq15≤k∧Env 55 G a∧At G [(0,.slice A0_0 x.length c0_0),(1,iv y),(2,iv z),(7,.slice A10 l12.length c11),(8,iv x13)]∧Sm W F w' F [row qB.k 139 (.slice A10 l12.length c11) l12]∧qp.l14 kq15 x y z l12 x13=some r) k ⟨_,A4,c5,([]:List qB),0,Nat.le_refl _,E,.of,S,H⟩ ?_
 rintro kq15 a u17 ⟨G,A10,c11,l12,x13,hkq,E,A,S,H⟩
 obtain _ | k16:=kq15
 exact zz H
 rw [qp.l14_s]at H
 obtain ⟨J,E⟩:=E.at A
 refine sq fun K18 hK18=>rr E fun a E=>(E.ik 13 H (fun c20 E H=>?_) fun c20 E H=>?_)
 refine wp_skip (hK18 _ _ (sq fun K21 hK21=>wp_block (sq fun K22 hK22=>?_)))
 have J44:∀ kq42,kq42≤k16→∀(G:NV)(y40:Bool)(a:Act)(w':World),Env 55 G a→At G [(0,.slice A0_0 x.length c0_0),(1,iv y),(2,iv z),(7,.slice A10 l12.length c11),(8,iv x13),(39,.bool y40)]→Sm W F w' F [row qB.k 139 (.slice A10 l12.length c11) l12]→qp.j41 kq42 x y z l12 x13 y40=some r→K22 a w':=by
  intro kq42 hkq G y40 a u45 E A S H
  obtain _ | k43:=kq42
  exact zz H
  rw [qp.j41_s]at H
  obtain ⟨J,E⟩:=E.at A
  refine hK22 _ _ (E.ib 39 H (fun c46 E H=>?_) fun c46 E H=>?_)
  refine drawn 15 ⟨[13],[],fun q=>False⟩ mixed rfl (by kernel_rfl) (fun hst=>?_)
  replace S:=S.drew
  obtain ⟨c47,H⟩:=gd H
  have hE_:=E
  obtain ⟨ad48,rfl⟩:=g0_0.addr c47.1 c47.2
  replace E:=hE_
  obtain ⟨cs50,rfl,hc51⟩:=g0_0.el qA.z x13 c47.1 c47.2
  refine mny 5 hst E (.r 0 3<|.x 3 c47<|.r 4 1<|.c 5 (S.fc hc51 0)<|.r 6 2<|.x 8 c47<|.cs 9 (S.fcs hc51)<|.nil) (fun a E=>?_)
  obtain ⟨t56,h57,H⟩:=bd H
  refine on1 10 E (.cl en142 (qAy.calls (nth qA.z x x13) _ _ _ S.own.sub h57)) ?_
  rintro _ u55 a ⟨_,rfl,hC⟩ E
  refine ⟨.of hC.agr,?_⟩
  replace S:=S.lent hC
  refine mny 3 hst E (.r 11 1 .nil) (fun a E=>?_)
  refine on1 12 E (.lit (d:=qB.k) (e:=139) S [(⟨(nth qA.z x x13).f0,t56⟩:qB)] (.cons rfl .nil)) ?_
  rintro _ u58 a ⟨A59,c60,rfl,S,hg⟩ E
  refine ⟨.of hg,?_⟩
  obtain ⟨c62,H⟩:=gd H
  replace S:=S.front 1 rfl
  refine on1 13 E (.ap (d:=qB.k) 16 S (qCX (S.row_at (i:=1) rfl)) c62 c60) ?_
  rintro _ u65 a ⟨A63,c64,rfl,S,hz⟩ E
  refine ⟨.d,?_⟩
  refine mny 0 hst E (.r 14 1 .nil) (fun a E=>?_)
  refine dn ?_
  refine qCS ?_
  refine hK21 _ _ (pl0 (plc E (.r 0 3 .nil) (fun a E=>pld ?_)))
  replace S:=S.pm [0] 2
  exact qCT ⟨k43,by omega,_,A63,c64,(l12++[(⟨(nth qA.z x x13).f0,t56⟩:qB)]),(w64 (x13+1)),by omega,E,.of,S,H⟩
  refine wp_skip ?_
  refine qCS ?_
  refine hK21 _ _ (pl0 (plc E (.r 0 3 .nil) (fun a E=>pld ?_)))
  exact qCT ⟨k43,by omega,_,A10,c11,l12,(w64 (x13+1)),by omega,E,.of,S,H⟩
 refine pl0 (plc E (.r 0 3 .nil) (fun a E=>E.fk 18 H (fun c23 E H=>?_) fun c23 E H=>?_))
 refine plc E (.r 3 12 .nil) (fun a E=>E.fk 30 H (fun c24 E H=>?_) fun c24 E H=>?_)
 refine plc E (.r 15 9 .nil) (fun a E=>pld ?_)
 exact J44 _ (by omega) _ true _ _ E .of S H
 obtain ⟨c25,H⟩:=gd H
 have hE_:=E
 obtain ⟨ad26,rfl⟩:=g0_0.addr c25.1 c25.2
 replace E:=hE_
 obtain ⟨cs28,rfl,hc29⟩:=g0_0.el qA.z x13 c25.1 c25.2
 refine plc E (.r 15 2<|.x 17 c25<|.r 18 1<|.c 19 (S.fc hc29 2)<|.r 20 4<|.nil) (fun a E=>pld ?_)
 exact J44 _ (by omega) _ ((nth qA.z x x13).f2 == z) _ _ E .of S H
 obtain ⟨c30,H⟩:=gd H
 have hE_:=E
 obtain ⟨ad31,rfl⟩:=g0_0.addr c30.1 c30.2
 replace E:=hE_
 obtain ⟨cs33,rfl,hc34⟩:=g0_0.el qA.z x13 c30.1 c30.2
 refine plc E (.r 3 2<|.x 5 c30<|.r 6 1<|.c 7 (S.fc hc34 1)<|.r 8 4<|.nil) (fun a E=>E.fk 27 H (fun c35 E H=>?_) fun c35 E H=>?_)
 refine plc E (.r 12 3 .nil) (fun a E=>E.fk 30 H (fun c36 E H=>?_) fun c36 E H=>?_)
 refine plc E (.r 15 9 .nil) (fun a E=>pld ?_)
 exact J44 _ (by omega) _ true _ _ E .of S H
 refine plc E (.r 15 2<|.x 17 c30<|.r 18 1<|.c 19 (S.fc hc34 2)<|.r 20 4<|.nil) (fun a E=>pld ?_)
 exact J44 _ (by omega) _ ((nth qA.z x x13).f2 == z) _ _ E .of S H
 refine plc E (.r 12 12 .nil) (fun a E=>pld ?_)
 exact J44 _ (by omega) _ false _ _ E .of S H
 refine wp_exit ?_
 refine hK7 _ _ (rr E fun a E=>(wp_ret ?_))
 obtain rfl:=si H
 exact rt1 E ⟨_,rfl,_,_,_,rfl,S⟩
mutual
def ql.l14:Nat→List qA→List Int→List qB→Int→Option (List qB)
 | 0,_,_,_,_=>none
 | k+1,x,y,l12,x13=>if x13≤999 then (ql.l29 k x y l12 x13 0 false 0) else (some l12)
def ql.l29:Nat→List qA→List Int→List qB→Int→Int→Bool→Int→Option (List qB)
 | 0,_,_,_,_,_,_,_=>none
 | k+1,x,y,l12,x13,x26,y27,x28=>if x28<(x.length:Int) then (if 0≤x28∧x28<(y.length:Int) then (if (nth 0 y x28)=x13 then (if 0≤x28∧x28<(x.length:Int) then ((qAy.f (nth qA.z x x28)).bind fun t51=>(ql.l29 k x y l12 x13 (w64 (x26+t51)) true (w64 (x28+1)))) else (none)) else (ql.l29 k x y l12 x13 x26 y27 (w64 (x28+1)))) else (none)) else (if x26>65536 then (ql.j57 k x y l12 x13 y27 65536) else (ql.j57 k x y l12 x13 y27 x26))
def ql.j57:Nat→List qA→List Int→List qB→Int→Bool→Int→Option (List qB)
 | 0,_,_,_,_,_,_=>none
 | k+1,x,y,l12,x13,y27,x56=>if y27=true then (if ((l12.length:Int)+((1:Nat):Int)) * 16≤140737488355328 then (ql.l14 k x y (l12++[(⟨x13,x56⟩:qB)]) (w64 (x13+1))) else (none)) else (ql.l14 k x y l12 (w64 (x13+1)))
end
theorem ql.l14_s k x y l12 x13:type_of% (ql.l14.eq_2 x y l12 x13 k):=ql.l14.eq_2 x y l12 x13 k
theorem ql.l29_s k x y l12 x13 x26 y27 x28:type_of% (ql.l29.eq_2 x y l12 x13 x26 y27 x28 k):=ql.l29.eq_2 x y l12 x13 x26 y27 x28 k
theorem ql.j57_s k x y l12 x13 y27 x56:type_of% (ql.j57.eq_2 x y l12 x13 y27 x56 k):=ql.j57.eq_2 x y l12 x13 y27 x56 k
def ql.f(k:Nat)(x:List qA)(y:List Int):Option (List qB):=ql.l14 k x y ([]:List qB) 1
def ql.Post(W F:World)(r:List qB)(v:Value)(w':World):Prop:=∃(F':World)(RA0_0:OA)(rc0_0:Nat),v = .slice RA0_0 r.length rc0_0∧Sm W F w' F' [row qB.k 139 (.slice RA0_0 r.length rc0_0) r]
theorem ql.calls(k:Nat)(x:List qA)(y:List Int)(A0_0:OA)(c0_0:Nat)(A1_0:OA)(c1_0:Nat)(r:List qB)(W F:World)(hown:Sub F W)(g0_0:Rd qA.k F A0_0 c0_0 x)(g1_0:Rd ki F A1_0 c1_0 y)(H:ql.f k x y=some r):
    Cr 143 #[.slice A0_0 x.length c0_0,.slice A1_0 y.length c1_0] W (ql.Post W F r):=by
 have S:=sT hown
 unfold ql.f at H
 refine ent 44 rfl rfl rfl (fun a E=>?_)
 refine rr E fun a E=>(sq fun K2 hK2=>pl0 (ple E (.lit (d:=qB.k) (e:=139) S ([]:List qB) (.nil)) ?_))
 rintro _ u3 a ⟨A4,c5,rfl,S,hg⟩ E
 refine plc E (.r 1 1 .nil) (fun a E=>pld (hK2 _ _ (sq fun K7 hK7=>rr E fun a E=>(wp_block ?_))))
 refine wp_loop_ghost (fun kq15 a w'=>∃(G:NV)(A10:OA)(c11:Nat)(l12:List qB)(x13:Int),kq15≤k∧Env 44 G a∧At G [(0,.slice A0_0 x.length c0_0),(1,.slice A1_0 y.length c1_0),(5,.slice A10 l12.length c11),(6,iv x13)]∧Sm W F w' F [row qB.k 139 (.slice A10 l12.length c11) l12]∧ql.l14 kq15 x y l12 x13=some r) k ⟨_,A4,c5,([]:List qB),1,Nat.le_refl _,E,.of,S,H⟩ ?_
 rintro kq15 a u17 ⟨G,A10,c11,l12,x13,hkq,E,A,S,H⟩
 obtain _ | k16:=kq15
 exact zz H
 rw [ql.l14_s]at H
 obtain ⟨J,E⟩:=E.at A
 refine sq fun K18 hK18=>rr E fun a E=>(E.ik 12 H (fun c20 E H=>?_) fun c20 E H=>?_)
 refine wp_skip (hK18 _ _ (sq fun K21 hK21=>wp_block (rr E fun a E=>(rr E fun a E=>(sq fun K24 hK24=>rr E fun a E=>(wp_block ?_))))))
 refine wp_loop_ghost (fun kq30 a w'=>∃(G:NV)(x26:Int)(y27:Bool)(x28:Int),kq30≤k16∧Env 44 G a∧At G [(0,.slice A0_0 x.length c0_0),(1,.slice A1_0 y.length c1_0),(5,.slice A10 l12.length c11),(6,iv x13),(7,iv x26),(8,.bool y27),(9,iv x28)]∧Sm W F w' F [row qB.k 139 (.slice A10 l12.length c11) l12]∧ql.l29 kq30 x y l12 x13 x26 y27 x28=some r) k16 ⟨_,0,false,0,Nat.le_refl _,E,.of,S,H⟩ ?_
 rintro kq30 a u32 ⟨G,x26,y27,x28,hkq,E,A,S,H⟩
 obtain _ | k31:=kq30
 exact zz H
 rw [ql.l29_s]at H
 obtain ⟨J,E⟩:=E.at A
 refine sq fun K33 hK33=>rr E fun a E=>(E.ik 18 H (fun c35 E H=>?_) fun c35 E H=>?_)
 refine wp_skip (hK33 _ _ (sq fun K36 hK36=>wp_block (sq fun K37 hK37=>pl0 ?_)))
 obtain ⟨c38,H⟩:=gd H
 have hE_:=E
 obtain ⟨ad39,rfl⟩:=g1_0.addr c38.1 c38.2
 replace E:=hE_
 obtain ⟨cs41,rfl,hc42⟩:=g1_0.el 0 x28 c38.1 c38.2
 refine plc E (.r 0 2<|.x 2 c38<|.c 3 (S.fc hc42 0)<|.r 4 2<|.nil) (fun a E=>pld (hK37 _ _ (E.ik 26 H (fun c43 E H=>?_) fun c43 E H=>?_)))
 refine sq fun K44 hK44=>pl0 ?_
 obtain ⟨c45,H⟩:=gd H
 have hE_:=E
 obtain ⟨ad46,rfl⟩:=g0_0.addr c45.1 c45.2
 replace E:=hE_
 obtain ⟨cs48,rfl,hc49⟩:=g0_0.el qA.z x28 c45.1 c45.2
 refine plc E (.r 0 3<|.x 3 c45<|.cs 4 (S.fcs hc49)<|.nil) (fun a E=>?_)
 obtain ⟨t51,h52,H⟩:=bd H
 refine plq E S en142 (qAy.calls (nth qA.z x x28) _ _ _ S.own.sub h52) fun u50 S a E=>plc E (.r 6 2 .nil) (fun a E=>pld (hK44 _ _ (pl0 (plc E (.r 0 1 .nil) (fun a E=>pld ?_)))))
 refine qCS ?_
 refine hK36 _ _ (pl0 (plc E (.r 0 3 .nil) (fun a E=>pld ?_)))
 exact qCT ⟨k31,by omega,_,(w64 (x26+t51)),true,(w64 (x28+1)),by omega,E,.of,S,H⟩
 refine wp_skip ?_
 refine qCS ?_
 refine hK36 _ _ (pl0 (plc E (.r 0 3 .nil) (fun a E=>pld ?_)))
 exact qCT ⟨k31,by omega,_,x26,y27,(w64 (x28+1)),by omega,E,.of,S,H⟩
 refine wp_exit ?_
 refine hK24 _ _ (sq fun K53 hK53=>?_)
 have J60:∀ kq58,kq58≤k31→∀(G:NV)(x56:Int)(a:Act)(w':World),Env 44 G a→At G [(0,.slice A0_0 x.length c0_0),(1,.slice A1_0 y.length c1_0),(5,.slice A10 l12.length c11),(6,iv x13),(7,iv x56),(8,.bool y27)]→Sm W F w' F [row qB.k 139 (.slice A10 l12.length c11) l12]→ql.j57 kq58 x y l12 x13 y27 x56=some r→K53 a w':=by
  intro kq58 hkq G x56 a u61 E A S H
  obtain _ | k59:=kq58
  exact zz H
  rw [ql.j57_s]at H
  obtain ⟨J,E⟩:=E.at A
  refine hK53 _ _ (rr E fun a E=>(E.ib 36 H (fun c63 E H=>?_) fun c63 E H=>?_))
  refine pl0 (plc E (.r 0 4 .nil) (fun a E=>ple E (.lit (d:=qB.k) (e:=139) S [(⟨x13,x56⟩:qB)] (.cons rfl .nil)) ?_))
  rintro _ u64 a ⟨A65,c66,rfl,S,hg⟩ E
  obtain ⟨c68,H⟩:=gd H
  replace S:=S.front 1 rfl
  refine ple E (.ap (d:=qB.k) 16 S (qCX (S.row_at (i:=1) rfl)) c68 c66) ?_
  rintro _ u71 a ⟨A69,c70,rfl,S,hz⟩ E
  refine plc E (.r 6 1 .nil) (fun a E=>pld ?_)
  refine qCS ?_
  refine hK21 _ _ (pl0 (plc E (.r 0 3 .nil) (fun a E=>pld ?_)))
  replace S:=S.pm [0] 2
  exact qCT ⟨k59,by omega,_,A69,c70,(l12++[(⟨x13,x56⟩:qB)]),(w64 (x13+1)),by omega,E,.of,S,H⟩
  refine wp_skip ?_
  refine qCS ?_
  refine hK21 _ _ (pl0 (plc E (.r 0 3 .nil) (fun a E=>pld ?_)))
  exact qCT ⟨k59,by omega,_,A10,c11,l12,(w64 (x13+1)),by omega,E,.of,S,H⟩
 refine rr E fun a E=>(E.ik 35 H (fun c55 E H=>?_) fun c55 E H=>?_)
 refine pl0 (plc E (.r 0 1 .nil) (fun a E=>pld ?_))
 exact J60 _ (by omega) _ 65536 _ _ E .of S H
 refine wp_skip ?_
 exact J60 _ (by omega) _ x26 _ _ E .of S H
 refine wp_exit ?_
 refine hK7 _ _ (rr E fun a E=>(wp_ret ?_))
 obtain rfl:=si H
 exact rt1 E ⟨_,rfl,_,_,_,rfl,S⟩
def qAS.l12:Nat→List qA→List Int→Int→Option (List qB)
 | 0,_,_,_=>none
 | k+1,x,l10,x11=>if x11<(x.length:Int) then (if 0≤x11∧x11<(x.length:Int) then (if 0≤x11∧x11<((List.replicate ((x.length:Int)).toNat (0:Int)).length:Int) then (qAS.l12 k x (l10.set (x11).toNat ((nth qA.z x x11).f1)) (w64 (x11+1))) else (none)) else (none)) else ((ql.f k x l10).bind fun t40=>(some t40))
theorem qAS.l12_s k x l10 x11:type_of% (qAS.l12.eq_2 x l10 x11 k):=qAS.l12.eq_2 x l10 x11 k
def qAS.f(k:Nat)(x:List qA):Option (List qB):=if 0≤(x.length:Int)∧(x.length:Int) * 8≤140737488355328 then (qAS.l12 k x (List.replicate ((x.length:Int)).toNat (0:Int)) 0) else (none)
def qAS.Post(W F:World)(r:List qB)(v:Value)(w':World):Prop:=∃(F':World)(RA0_0:OA)(rc0_0:Nat),v = .slice RA0_0 r.length rc0_0∧Sm W F w' F' [row qB.k 139 (.slice RA0_0 r.length rc0_0) r]
theorem qAS.calls(k:Nat)(x:List qA)(A0_0:OA)(c0_0:Nat)(r:List qB)(W F:World)(hown:Sub F W)(g0_0:Rd qA.k F A0_0 c0_0 x)(H:qAS.f k x=some r):
    Cr 117 #[.slice A0_0 x.length c0_0] W (qAS.Post W F r):=by
 have S:=sT hown
 unfold qAS.f at H
 refine ent 25 rfl rfl rfl (fun a E=>?_)
 refine rr E fun a E=>(sq fun K2 hK2=>pl0 (plc E (.r 0 2 .nil) (fun a E=>?_)))
 obtain ⟨c3,H⟩:=gd H
 refine ple E (.mk (d:=ki) (e:=3) 8 0 S c3 (by rw [zr3]; exact rfl)) ?_
 rintro _ u6 a ⟨A4,c5,rfl,S,hg⟩ E
 refine plc E (.r 3 1 .nil) (fun a E=>pld (hK2 _ _ (sq fun K8 hK8=>rr E fun a E=>(wp_block ?_))))
 refine wp_loop_ghost (fun kq13 a w'=>∃(G:NV)(l10:List Int)(x11:Int),kq13≤k∧Env 25 G a∧At G [(0,.slice A0_0 x.length c0_0),(3,.slice A4 ((List.replicate ((x.length:Int)).toNat (0:Int)).length) c5),(4,iv x11)]∧Sm W F w' F [row ki 3 (.slice A4 ((List.replicate ((x.length:Int)).toNat (0:Int)).length) c5) l10]∧qAS.l12 kq13 x l10 x11=some r) k ⟨_,(List.replicate ((x.length:Int)).toNat (0:Int)),0,Nat.le_refl _,E,.of,S,H⟩ ?_
 rintro kq13 a u15 ⟨G,l10,x11,hkq,E,A,S,H⟩
 obtain _ | k14:=kq13
 exact zz H
 rw [qAS.l12_s]at H
 obtain ⟨J,E⟩:=E.at A
 refine sq fun K16 hK16=>rr E fun a E=>(E.ik 11 H (fun c18 E H=>?_) fun c18 E H=>?_)
 refine wp_skip (hK16 _ _ (sq fun K19 hK19=>wp_block (pl0 ?_)))
 obtain ⟨c20,H⟩:=gd H
 have hE_:=E
 obtain ⟨ad21,rfl⟩:=g0_0.addr c20.1 c20.2
 replace E:=hE_
 obtain ⟨cs23,rfl,hc24⟩:=g0_0.el qA.z x11 c20.1 c20.2
 obtain ⟨c25,H⟩:=gd H
 have hr26:=S.ra 0
 have c27:0≤x11∧x11<(l10.length:Int):=by rw [← (qCU hr26).1]; exact c25
 have hE_:=E
 obtain ⟨b28,rfl⟩:=qCW hr26 c27.1 c27.2
 replace E:=hE_
 have hr_:=S.ra 0
 obtain ⟨cs30,rfl,hc31⟩:=qCV hr_ 0 x11 c27.1 c27.2
 refine plc E (.r 0 4<|.x 4 c20<|.r 5 1<|.c 6 (S.fc hc24 1)<|.x 7 c25<|.nil) (fun a E=>?_)
 obtain ⟨cs33,rfl,hc34⟩:=qCV (S.row_at (i:=0) rfl) 0 x11 c27.1 c27.2
 refine ple E (.set (d:=ki) (n:=(List.replicate ((x.length:Int)).toNat (0:Int)).length) (i:=x11) ((nth qA.z x x11).f1) (0) (ea0 _ _) S c27 [iv (nth 0 l10 x11)] hc34 [iv ((nth qA.z x x11).f1)] rfl) ?_
 rintro _ u32 a ⟨rfl,S,hz⟩ E
 refine pld ?_
 refine qCS ?_
 refine hK19 _ _ (pl0 (plc E (.r 0 3 .nil) (fun a E=>pld ?_)))
 exact qCT ⟨k14,by omega,_,(l10.set (x11).toNat ((nth qA.z x x11).f1)),(w64 (x11+1)),by omega,E,.of,S,H⟩
 refine wp_exit ?_
 refine hK8 _ _ (sq fun K35 hK35=>pl0 (plc E (.r 0 2 .nil) (fun a E=>?_)))
 have hn36:=(qCU (S.row_at (i:=0) rfl)).1
 replace E:=E.set (d:=3) (v:=.slice A4 l10.length c5) (Eq.trans (b:=.slice A4 ((List.replicate ((x.length:Int)).toNat (0:Int)).length) c5) (by kernel_rfl) (by rw [← hn36]))
 replace E:=E.set (d:=23) (v:=.slice A4 l10.length c5) (Eq.trans (b:=.slice A4 ((List.replicate ((x.length:Int)).toNat (0:Int)).length) c5) (by kernel_rfl) (by rw [← hn36]))
 replace S:Sm W F u15 F [row ki 3 (.slice A4 l10.length c5) l10]:=by rw [← hn36]; exact S
 obtain ⟨F37,hs,g38,S⟩:=S.give
 replace g0_0:=g0_0.mono hs
 obtain ⟨t40,h41,H⟩:=bd H
 refine ple E (.cl en143 (ql.calls k14 x l10 _ _ _ _ _ _ _ S.own.sub g0_0 g38 h41)) ?_
 rintro _ u39 a ⟨F42,A43,c44,rfl,hC⟩ E
 have hs:=hC.sub
 replace S:=S.called (X:=[]) hC
 replace g0_0:=g0_0.mono hs
 replace g38:=g38.mono hs
 refine plc E (.r 3 1 .nil) (fun a E=>pld (hK35 _ _ (wp_ret ?_)))
 obtain rfl:=si H
 exact rt1 E ⟨_,rfl,_,_,_,rfl,S⟩
def qAR.l12:Nat→List qA→Int→List Int→Int→Option (List qB)
 | 0,_,_,_,_=>none
 | k+1,x,y,l10,x11=>if x11<(x.length:Int) then (if 0≤x11∧x11<(x.length:Int) then (if (nth qA.z x x11).f1=y then (if 0≤x11∧x11<((List.replicate ((x.length:Int)).toNat (0:Int)).length:Int) then (qAR.l12 k x y (l10.set (x11).toNat ((nth qA.z x x11).f2)) (w64 (x11+1))) else (none)) else (qAR.l12 k x y l10 (w64 (x11+1)))) else (none)) else ((ql.f k x l10).bind fun t45=>(some t45))
theorem qAR.l12_s k x y l10 x11:type_of% (qAR.l12.eq_2 x y l10 x11 k):=qAR.l12.eq_2 x y l10 x11 k
def qAR.f(k:Nat)(x:List qA)(y:Int):Option (List qB):=if 0≤(x.length:Int)∧(x.length:Int) * 8≤140737488355328 then (qAR.l12 k x y (List.replicate ((x.length:Int)).toNat (0:Int)) 0) else (none)
def qAR.Post(W F:World)(r:List qB)(v:Value)(w':World):Prop:=∃(F':World)(RA0_0:OA)(rc0_0:Nat),v = .slice RA0_0 r.length rc0_0∧Sm W F w' F' [row qB.k 139 (.slice RA0_0 r.length rc0_0) r]
theorem qAR.calls(k:Nat)(x:List qA)(y:Int)(A0_0:OA)(c0_0:Nat)(r:List qB)(W F:World)(hown:Sub F W)(g0_0:Rd qA.k F A0_0 c0_0 x)(H:qAR.f k x y=some r):
    Cr 118 #[.slice A0_0 x.length c0_0,iv y] W (qAR.Post W F r):=by
 have S:=sT hown
 unfold qAR.f at H
 refine ent 34 rfl rfl rfl (fun a E=>?_)
 refine rr E fun a E=>(sq fun K2 hK2=>pl0 (plc E (.r 0 2 .nil) (fun a E=>?_)))
 obtain ⟨c3,H⟩:=gd H
 refine ple E (.mk (d:=ki) (e:=3) 8 0 S c3 (by rw [zr3]; exact rfl)) ?_
 rintro _ u6 a ⟨A4,c5,rfl,S,hg⟩ E
 refine plc E (.r 3 1 .nil) (fun a E=>pld (hK2 _ _ (sq fun K8 hK8=>rr E fun a E=>(wp_block ?_))))
 refine wp_loop_ghost (fun kq13 a w'=>∃(G:NV)(l10:List Int)(x11:Int),kq13≤k∧Env 34 G a∧At G [(0,.slice A0_0 x.length c0_0),(1,iv y),(5,.slice A4 ((List.replicate ((x.length:Int)).toNat (0:Int)).length) c5),(6,iv x11)]∧Sm W F w' F [row ki 3 (.slice A4 ((List.replicate ((x.length:Int)).toNat (0:Int)).length) c5) l10]∧qAR.l12 kq13 x y l10 x11=some r) k ⟨_,(List.replicate ((x.length:Int)).toNat (0:Int)),0,Nat.le_refl _,E,.of,S,H⟩ ?_
 rintro kq13 a u15 ⟨G,l10,x11,hkq,E,A,S,H⟩
 obtain _ | k14:=kq13
 exact zz H
 rw [qAR.l12_s]at H
 obtain ⟨J,E⟩:=E.at A
 refine sq fun K16 hK16=>rr E fun a E=>(E.ik 13 H (fun c18 E H=>?_) fun c18 E H=>?_)
 refine wp_skip (hK16 _ _ (sq fun K19 hK19=>wp_block (sq fun K20 hK20=>pl0 ?_)))
 obtain ⟨c21,H⟩:=gd H
 have hE_:=E
 obtain ⟨ad22,rfl⟩:=g0_0.addr c21.1 c21.2
 replace E:=hE_
 obtain ⟨cs24,rfl,hc25⟩:=g0_0.el qA.z x11 c21.1 c21.2
 refine plc E (.r 0 2<|.x 2 c21<|.r 3 1<|.c 4 (S.fc hc25 1)<|.r 5 2<|.nil) (fun a E=>pld (hK20 _ _ (E.ik 22 H (fun c26 E H=>?_) fun c26 E H=>?_)))
 refine pl0 ?_
 obtain ⟨c30,H⟩:=gd H
 have hr31:=S.ra 0
 have c32:0≤x11∧x11<(l10.length:Int):=by rw [← (qCU hr31).1]; exact c30
 have hE_:=E
 obtain ⟨b33,rfl⟩:=qCW hr31 c32.1 c32.2
 replace E:=hE_
 have hr_:=S.ra 0
 obtain ⟨cs35,rfl,hc36⟩:=qCV hr_ 0 x11 c32.1 c32.2
 refine plc E (.r 0 4<|.x 4 c21<|.r 5 1<|.c 6 (S.fc hc25 2)<|.x 7 c30<|.nil) (fun a E=>?_)
 obtain ⟨cs38,rfl,hc39⟩:=qCV (S.row_at (i:=0) rfl) 0 x11 c32.1 c32.2
 refine ple E (.set (d:=ki) (n:=(List.replicate ((x.length:Int)).toNat (0:Int)).length) (i:=x11) ((nth qA.z x x11).f2) (0) (ea0 _ _) S c32 [iv (nth 0 l10 x11)] hc39 [iv ((nth qA.z x x11).f2)] rfl) ?_
 rintro _ u37 a ⟨rfl,S,hz⟩ E
 refine pld ?_
 refine qCS ?_
 refine hK19 _ _ (pl0 (plc E (.r 0 3 .nil) (fun a E=>pld ?_)))
 exact qCT ⟨k14,by omega,_,(l10.set (x11).toNat ((nth qA.z x x11).f2)),(w64 (x11+1)),by omega,E,.of,S,H⟩
 refine wp_skip ?_
 refine qCS ?_
 refine hK19 _ _ (pl0 (plc E (.r 0 3 .nil) (fun a E=>pld ?_)))
 exact qCT ⟨k14,by omega,_,l10,(w64 (x11+1)),by omega,E,.of,S,H⟩
 refine wp_exit ?_
 refine hK8 _ _ (sq fun K40 hK40=>pl0 (plc E (.r 0 2 .nil) (fun a E=>?_)))
 have hn41:=(qCU (S.row_at (i:=0) rfl)).1
 replace E:=E.set (d:=5) (v:=.slice A4 l10.length c5) (Eq.trans (b:=.slice A4 ((List.replicate ((x.length:Int)).toNat (0:Int)).length) c5) (by kernel_rfl) (by rw [← hn41]))
 replace E:=E.set (d:=32) (v:=.slice A4 l10.length c5) (Eq.trans (b:=.slice A4 ((List.replicate ((x.length:Int)).toNat (0:Int)).length) c5) (by kernel_rfl) (by rw [← hn41]))
 replace S:Sm W F u15 F [row ki 3 (.slice A4 l10.length c5) l10]:=by rw [← hn41]; exact S
 obtain ⟨F42,hs,g43,S⟩:=S.give
 replace g0_0:=g0_0.mono hs
 obtain ⟨t45,h46,H⟩:=bd H
 refine ple E (.cl en143 (ql.calls k14 x l10 _ _ _ _ _ _ _ S.own.sub g0_0 g43 h46)) ?_
 rintro _ u44 a ⟨F47,A48,c49,rfl,hC⟩ E
 have hs:=hC.sub
 replace S:=S.called (X:=[]) hC
 replace g0_0:=g0_0.mono hs
 replace g43:=g43.mono hs
 refine plc E (.r 3 1 .nil) (fun a E=>pld (hK40 _ _ (wp_ret ?_)))
 obtain rfl:=si H
 exact rt1 E ⟨_,rfl,_,_,_,rfl,S⟩
def qAs.f(x:Int):Option Int:=some (IntKind.u64.wrap ((IntKind.u64.wrap ((IntKind.u64.wrap (x.tdiv 4294967296)) * 4294967296))+(IntKind.u64.wrap (((BitVec.ofInt 64 (x.tmod 4294967296) ^^^ BitVec.ofInt 64 (IntKind.u64.wrap (x.tdiv 4294967296))).toNat:Int)))))
def qAs.Post(W F:World)(r:Int)(v:Value)(w':World):Prop:=∃(F':World),v = .int .u64 r∧Sm W F w' F' []
theorem qAs.calls(x:Int)(r:Int)(W F:World)(hown:Sub F W)(H:qAs.f x=some r):
    Cr 168 #[.int .u64 x] W (qAs.Post W F r):=by
 have S:=sT hown
 unfold qAs.f at H
 refine ent 15 rfl rfl rfl (fun a E=>?_)
 refine rr E fun a E=>(rr E fun a E=>(rr E fun a E=>(wp_ret ?_)))
 obtain rfl:=si H
 exact rt1 E ⟨_,rfl,_,rfl,S⟩
def qBF.f(x:Int):Option Int:=(qAs.f x).bind fun t4=>((qAs.f (IntKind.u64.wrap (t4 * 15485907386658061715))).bind fun t8=>((qAs.f (IntKind.u64.wrap (t8 * 15485907386658061715))).bind fun t12=>(some t12)))
def qBF.Post(W F:World)(r:Int)(v:Value)(w':World):Prop:=∃(F':World),v = .int .u64 r∧Sm W F w' F' []
theorem qBF.calls(x:Int)(r:Int)(W F:World)(hown:Sub F W)(H:qBF.f x=some r):
    Cr 146 #[.int .u64 x] W (qBF.Post W F r):=by
 have S:=sT hown
 unfold qBF.f at H
 refine ent 11 rfl rfl rfl (fun a E=>?_)
 refine rr E fun a E=>(sq fun K2 hK2=>pl0 (plc E (.r 0 1 .nil) (fun a E=>?_)))
 obtain ⟨t4,h5,H⟩:=bd H
 refine plq E S en168 (qAs.calls x _ _ _ S.own.sub h5) fun u3 S a E=>plc E (.r 2 2 .nil) (fun a E=>pld (hK2 _ _ (sq fun K6 hK6=>pl0 (plc E (.r 0 1 .nil) (fun a E=>?_)))))
 obtain ⟨t8,h9,H⟩:=bd H
 refine plq E S en168 (qAs.calls (IntKind.u64.wrap (t4 * 15485907386658061715)) _ _ _ S.own.sub h9) fun u7 S a E=>plc E (.r 2 2 .nil) (fun a E=>pld (hK6 _ _ (sq fun K10 hK10=>pl0 (plc E (.r 0 1 .nil) (fun a E=>?_)))))
 obtain ⟨t12,h13,H⟩:=bd H
 refine plq E S en168 (qAs.calls (IntKind.u64.wrap (t8 * 15485907386658061715)) _ _ _ S.own.sub h13) fun u11 S a E=>plc E (.r 2 1 .nil) (fun a E=>pld (hK10 _ _ (wp_ret ?_)))
 obtain rfl:=si H
 exact rt1 E ⟨_,rfl,_,rfl,S⟩
def qAN.l10:Nat→List Int→Int→Int→Option Int
 | 0,_,_,_=>none
 | k+1,y,x8,x9=>if x9<(y.length:Int) then (if 0≤x9∧x9<(y.length:Int) then ((qBF.f (IntKind.u64.wrap ((IntKind.u64.wrap (((BitVec.ofInt 64 x8 ^^^ BitVec.ofInt 64 (nth 0 y x9)).toNat:Int)))+11400714819323198485))).bind fun t24=>(qAN.l10 k y t24 (w64 (x9+1)))) else (none)) else (some x8)
theorem qAN.l10_s k y x8 x9:type_of% (qAN.l10.eq_2 y x8 x9 k):=qAN.l10.eq_2 y x8 x9 k
def qAN.f(k:Nat)(x:Int)(y:List Int):Option Int:=(qBF.f x).bind fun t4=>(qAN.l10 k y t4 0)
def qAN.Post(W F:World)(r:Int)(v:Value)(w':World):Prop:=∃(F':World),v = .int .u64 r∧Sm W F w' F' []
theorem qAN.calls(k:Nat)(x:Int)(y:List Int)(A1_0:OA)(c1_0:Nat)(r:Int)(W F:World)(hown:Sub F W)(g1_0:Rd (Kn.int .u64) F A1_0 c1_0 y)(H:qAN.f k x y=some r):
    Cr 120 #[.int .u64 x,.slice A1_0 y.length c1_0] W (qAN.Post W F r):=by
 have S:=sT hown
 unfold qAN.f at H
 refine ent 24 rfl rfl rfl (fun a E=>?_)
 refine rr E fun a E=>(sq fun K2 hK2=>pl0 (plc E (.r 0 1 .nil) (fun a E=>?_)))
 obtain ⟨t4,h5,H⟩:=bd H
 refine plq E S en146 (qBF.calls x _ _ _ S.own.sub h5) fun u3 S a E=>plc E (.r 2 1 .nil) (fun a E=>pld (hK2 _ _ (sq fun K6 hK6=>rr E fun a E=>(wp_block ?_))))
 refine wp_loop_ghost (fun kq11 a w'=>∃(G:NV)(x8:Int)(x9:Int),kq11≤k∧Env 24 G a∧At G [(1,.slice A1_0 y.length c1_0),(5,.int .u64 x8),(6,iv x9)]∧Sm W F w' F []∧qAN.l10 kq11 y x8 x9=some r) k ⟨_,t4,0,Nat.le_refl _,E,.of,S,H⟩ ?_
 rintro kq11 a u13 ⟨G,x8,x9,hkq,E,A,S,H⟩
 obtain _ | k12:=kq11
 exact zz H
 rw [qAN.l10_s]at H
 obtain ⟨J,E⟩:=E.at A
 refine sq fun K14 hK14=>rr E fun a E=>(E.ik 12 H (fun c16 E H=>?_) fun c16 E H=>?_)
 refine wp_skip (hK14 _ _ (sq fun K17 hK17=>wp_block (pl0 ?_)))
 obtain ⟨c18,H⟩:=gd H
 have hE_:=E
 obtain ⟨ad19,rfl⟩:=g1_0.addr c18.1 c18.2
 replace E:=hE_
 obtain ⟨cs21,rfl,hc22⟩:=g1_0.el 0 x9 c18.1 c18.2
 refine plc E (.r 0 3<|.x 3 c18<|.c 4 (S.fc hc22 0)<|.r 5 2<|.nil) (fun a E=>?_)
 obtain ⟨t24,h25,H⟩:=bd H
 refine plq E S en146 (qBF.calls (IntKind.u64.wrap ((IntKind.u64.wrap (((BitVec.ofInt 64 x8 ^^^ BitVec.ofInt 64 (nth 0 y x9)).toNat:Int)))+11400714819323198485)) _ _ _ S.own.sub h25) fun u23 S a E=>plc E (.r 8 1 .nil) (fun a E=>pld ?_)
 refine qCS ?_
 refine hK17 _ _ (pl0 (plc E (.r 0 3 .nil) (fun a E=>pld ?_)))
 exact qCT ⟨k12,by omega,_,t24,(w64 (x9+1)),by omega,E,.of,S,H⟩
 refine wp_exit ?_
 refine hK6 _ _ (rr E fun a E=>(wp_ret ?_))
 obtain rfl:=si H
 exact rt1 E ⟨_,rfl,_,rfl,S⟩
mutual
def qk.j6:Nat→Int→Bool→Option Int
 | 0,_,_=>none
 | k+1,x,y5=>if y5=true then (some 0) else (if x≤32768 then ((qk.f k (w64 (2 * x))).bind fun t18=>(some (w64 (65536+t18)))) else (qk.l27 k (IntKind.u64.wrap ((IntKind.u64.wrap x) * 32768)) 0 0))
def qk.l27:Nat→Int→Int→Int→Option Int
 | 0,_,_,_=>none
 | k+1,x24,x25,x26=>if x26<16 then (if (IntKind.u64.wrap ((IntKind.u64.wrap (x24 * x24)).tdiv 2147483648))≤1073741824 then (qk.l27 k (IntKind.u64.wrap (2 * (IntKind.u64.wrap ((IntKind.u64.wrap (x24 * x24)).tdiv 2147483648)))) (w64 ((w64 (2 * x25))+1)) (w64 (x26+1))) else (qk.l27 k (IntKind.u64.wrap ((IntKind.u64.wrap (x24 * x24)).tdiv 2147483648)) (w64 (2 * x25)) (w64 (x26+1)))) else (some x25)
def qk.f:Nat→Int→Option Int
 | 0,_=>none
 | k+1,x=>if x<1 then (qk.j6 k x true) else (qk.j6 k x (decide (x>65536)))
end
theorem qk.j6_s k x y5:type_of% (qk.j6.eq_2 x y5 k):=qk.j6.eq_2 x y5 k
theorem qk.l27_s k x24 x25 x26:type_of% (qk.l27.eq_2 x24 x25 x26 k):=qk.l27.eq_2 x24 x25 x26 k
theorem qk.f_s k x:type_of% (qk.f.eq_2 x k):=qk.f.eq_2 x k
def qk.Post(W F:World)(r:Int)(v:Value)(w':World):Prop:=∃(F':World),v=iv r∧Sm W F w' F' []
theorem qk.calls:∀(k:Nat)(x:Int)(r:Int)(W F:World)(hown:Sub F W)(H:qk.f k x=some r),
    Cr 190 #[iv x] W (qk.Post W F r):=by
 intro k
 induction k using Nat.strongRecOn
 rename_i k ih
 intro x r W F hown H
 obtain _ | k1:=k
 exact zz H
 have S:=sT hown
 rw [qk.f_s]at H
 refine ent 38 rfl rfl rfl (fun a E=>?_)
 refine rr E fun a E=>(sq fun K2 hK2=>sq fun K3 hK3=>?_)
 have J9:∀ kq7,kq7≤k1→∀(G:NV)(y5:Bool)(a:Act)(w':World),Env 38 G a→At G [(0,iv x),(11,.bool y5)]→Sm W F w' F []→qk.j6 kq7 x y5=some r→K3 a w':=by
  intro kq7 hkq G y5 a u10 E A S H
  obtain _ | k8:=kq7
  exact zz H
  rw [qk.j6_s]at H
  obtain ⟨J,E⟩:=E.at A
  refine hK3 _ _ (E.ib 11 H (fun c11 E H=>?_) fun c11 E H=>?_)
  refine rr E fun a E=>(wp_ret (qCQ ?_))
  obtain rfl:=si H
  exact rt1 E ⟨_,rfl,_,rfl,S⟩
  refine wp_skip (hK2 _ _ (sq fun K13 hK13=>rr E fun a E=>(E.ik 13 H (fun c15 E H=>?_) fun c15 E H=>?_)))
  refine sq fun K16 hK16=>pl0 (plc E (.r 0 2 .nil) (fun a E=>?_))
  obtain ⟨t18,h19,H⟩:=bd H
  refine plq E S en190 (ih k8 (by omega) (w64 (2 * x)) _ _ _ S.own.sub h19) fun u17 S a E=>plc E (.r 3 2 .nil) (fun a E=>pld (hK16 _ _ (wp_ret (qCQ ?_))))
  obtain rfl:=si H
  exact rt1 E ⟨_,rfl,_,rfl,S⟩
  refine wp_skip (hK13 _ _ (rr E fun a E=>(rr E fun a E=>(sq fun K22 hK22=>rr E fun a E=>(wp_block ?_)))))
  refine wp_loop_ghost (fun kq28 a w'=>∃(G:NV)(x24:Int)(x25:Int)(x26:Int),kq28≤k8∧Env 38 G a∧At G [(3,.int .u64 x24),(4,iv x25),(5,iv x26)]∧Sm W F w' F []∧qk.l27 kq28 x24 x25 x26=some r) k8 ⟨_,(IntKind.u64.wrap ((IntKind.u64.wrap x) * 32768)),0,0,Nat.le_refl _,E,.of,S,H⟩ ?_
  rintro kq28 a u30 ⟨G,x24,x25,x26,hkq,E,A,S,H⟩
  obtain _ | k29:=kq28
  exact zz H
  rw [qk.l27_s]at H
  obtain ⟨J,E⟩:=E.at A
  refine sq fun K31 hK31=>rr E fun a E=>(E.ik 22 H (fun c33 E H=>?_) fun c33 E H=>?_)
  refine wp_skip (hK31 _ _ (sq fun K34 hK34=>wp_block (rr E fun a E=>(rr E fun a E=>(rr E fun a E=>(E.ik 32 H (fun c38 E H=>?_) fun c38 E H=>?_))))))
  refine rr E fun a E=>(pl0 (plc E (.r 0 3 .nil) (fun a E=>pld ?_)))
  refine qCS ?_
  refine hK34 _ _ (pl0 (plc E (.r 0 3 .nil) (fun a E=>pld ?_)))
  exact qCT ⟨k29,by omega,_,(IntKind.u64.wrap (2 * (IntKind.u64.wrap ((IntKind.u64.wrap (x24 * x24)).tdiv 2147483648)))),(w64 ((w64 (2 * x25))+1)),(w64 (x26+1)),by omega,E,.of,S,H⟩
  refine wp_skip ?_
  refine qCS ?_
  refine hK34 _ _ (pl0 (plc E (.r 0 3 .nil) (fun a E=>pld ?_)))
  exact qCT ⟨k29,by omega,_,(IntKind.u64.wrap ((IntKind.u64.wrap (x24 * x24)).tdiv 2147483648)),(w64 (2 * x25)),(w64 (x26+1)),by omega,E,.of,S,H⟩
  refine wp_exit ?_
  refine hK22 _ _ (rr E fun a E=>(wp_ret ?_))
  obtain rfl:=si H
  exact rt1 E ⟨_,rfl,_,rfl,S⟩
 refine pl0 (plc E (.r 0 3 .nil) (fun a E=>E.fk 8 H (fun c4 E H=>?_) fun c4 E H=>?_))
 refine plc E (.r 3 3 .nil) (fun a E=>pld ?_)
 exact J9 _ (by omega) _ true _ _ E .of S H
 refine plc E (.r 3 3 .nil) (fun a E=>pld ?_)
 exact J9 _ (by omega) _ (decide (x>65536)) _ _ E .of S H
def qBA.f(k:Nat)(x:Int)(y:Int):Option Int:=(qAN.f k x [(IntKind.u64.wrap y)]).bind fun t8=>((qk.f k (w64 (1+(w64 (IntKind.u64.wrap (t8.tdiv 281474976710656)))))).bind fun t11=>(some t11))
def qBA.Post(W F:World)(r:Int)(v:Value)(w':World):Prop:=∃(F':World),v=iv r∧Sm W F w' F' []
theorem qBA.calls(k:Nat)(x:Int)(y:Int)(r:Int)(W F:World)(hown:Sub F W)(H:qBA.f k x y=some r):
    Cr 167 #[.int .u64 x,iv y] W (qBA.Post W F r):=by
 have S:=sT hown
 unfold qBA.f at H
 refine ent 14 rfl rfl rfl (fun a E=>?_)
 refine rr E fun a E=>(sq fun K2 hK2=>pl0 (plc E (.r 0 3 .nil) (fun a E=>ple E (.lit (d:=(Kn.int .u64)) (e:=148) S [(IntKind.u64.wrap y)] (.cons rfl .nil)) ?_)))
 rintro _ u3 a ⟨A4,c5,rfl,S,hg⟩ E
 obtain ⟨t8,h9,H⟩:=bd H
 refine plq E S en120 (qAN.calls k x [(IntKind.u64.wrap y)] _ _ _ _ _ (Sub.refl _) (S.rd_at (i:=0) rfl) h9) fun u7 S a E=>plc E (.r 5 3 .nil) (fun a E=>?_)
 obtain ⟨t11,h12,H⟩:=bd H
 refine plq E S en190 (qk.calls k (w64 (1+(w64 (IntKind.u64.wrap (t8.tdiv 281474976710656))))) _ _ _ S.own.sub h12) fun u10 S a E=>plc E (.r 9 1 .nil) (fun a E=>pld (hK2 _ _ (wp_ret ?_)))
 replace S:=S.tail
 obtain rfl:=si H
 exact rt1 E ⟨_,rfl,_,rfl,S⟩
mutual
def qx.l7:Nat→Int→List qB→Int→Int→Option (Int × Bool)
 | 0,_,_,_,_=>none
 | k+1,x,y,x5,x6=>if x6<(y.length:Int) then (if 0≤x6∧x6<(y.length:Int) then (if (nth qB.z y x6).f1=0 then (qx.l7 k x y x5 (w64 (x6+1))) else (if x5<0 then (qx.j45 k x y x5 x6 true) else (if 0≤x5∧x5<(y.length:Int) then ((qBA.f k x ((nth qB.z y x6).f0)).bind fun t39=>((qBA.f k x ((nth qB.z y x5).f0)).bind fun t42=>(qx.j45 k x y x5 x6 (decide ((w64 (t39 * (nth qB.z y x5).f1))<(w64 (t42 * (nth qB.z y x6).f1))))))) else (none)))) else (none)) else (if x5<0 then (some (0,false)) else (if 0≤x5∧x5<(y.length:Int) then (some ((nth qB.z y x5).f0,true)) else (none)))
def qx.j45:Nat→Int→List qB→Int→Int→Bool→Option (Int × Bool)
 | 0,_,_,_,_,_=>none
 | k+1,x,y,x5,x6,y44=>if y44=true then (qx.l7 k x y x6 (w64 (x6+1))) else (qx.l7 k x y x5 (w64 (x6+1)))
end
theorem qx.l7_s k x y x5 x6:type_of% (qx.l7.eq_2 x y x5 x6 k):=qx.l7.eq_2 x y x5 x6 k
theorem qx.j45_s k x y x5 x6 y44:type_of% (qx.j45.eq_2 x y x5 x6 y44 k):=qx.j45.eq_2 x y x5 x6 y44 k
def qx.f(k:Nat)(x:Int)(y:List qB):Option (Int × Bool):=qx.l7 k x y (-1) 0
def qx.Post(W F:World)(r:Int × Bool)(v:Value)(w':World):Prop:=∃(F':World),v = .tuple #[iv r.1,.bool r.2]∧Sm W F w' F' []
theorem qx.calls(k:Nat)(x:Int)(y:List qB)(A1_0:OA)(c1_0:Nat)(r:Int × Bool)(W F:World)(hown:Sub F W)(g1_0:Rd qB.k F A1_0 c1_0 y)(H:qx.f k x y=some r):
    Cr 144 #[.int .u64 x,.slice A1_0 y.length c1_0] W (qx.Post W F r):=by
 have S:=sT hown
 unfold qx.f at H
 refine ent 59 rfl rfl rfl (fun a E=>?_)
 refine rr E fun a E=>(rr E fun a E=>(sq fun K3 hK3=>rr E fun a E=>(wp_block ?_)))
 refine wp_loop_ghost (fun kq8 a w'=>∃(G:NV)(x5:Int)(x6:Int),kq8≤k∧Env 59 G a∧At G [(0,.int .u64 x),(1,.slice A1_0 y.length c1_0),(6,iv x5),(7,iv x6)]∧Sm W F w' F []∧qx.l7 kq8 x y x5 x6=some r) k ⟨_,(-1),0,Nat.le_refl _,E,.of,S,H⟩ ?_
 rintro kq8 a u10 ⟨G,x5,x6,hkq,E,A,S,H⟩
 obtain _ | k9:=kq8
 exact zz H
 rw [qx.l7_s]at H
 obtain ⟨J,E⟩:=E.at A
 refine sq fun K11 hK11=>rr E fun a E=>(E.ik 11 H (fun c13 E H=>?_) fun c13 E H=>?_)
 refine wp_skip (hK11 _ _ (sq fun K14 hK14=>wp_block (sq fun K15 hK15=>sq fun K16 hK16=>pl0 ?_)))
 obtain ⟨c17,H⟩:=gd H
 have hE_:=E
 obtain ⟨ad18,rfl⟩:=g1_0.addr c17.1 c17.2
 replace E:=hE_
 obtain ⟨cs20,rfl,hc21⟩:=g1_0.el qB.z x6 c17.1 c17.2
 refine plc E (.r 0 2<|.x 2 c17<|.r 3 1<|.c 4 (S.fc hc21 1)<|.r 5 1<|.nil) (fun a E=>pld (hK16 _ _ (E.ik 19 H (fun c22 E H=>?_) fun c22 E H=>?_)))
 refine wp_exit ?_
 refine hK14 _ _ (pl0 (plc E (.r 0 3 .nil) (fun a E=>pld ?_)))
 exact qCT ⟨k9,by omega,_,x5,(w64 (x6+1)),by omega,E,.of,S,H⟩
 refine wp_skip (hK15 _ _ (sq fun K23 hK23=>?_))
 have J48:∀ kq46,kq46≤k9→∀(G:NV)(y44:Bool)(a:Act)(w':World),Env 59 G a→At G [(0,.int .u64 x),(1,.slice (some ad18) y.length c1_0),(6,iv x5),(7,iv x6),(50,.bool y44)]→Sm W F w' F []→qx.j45 kq46 x y x5 x6 y44=some r→K23 a w':=by
  intro kq46 hkq G y44 a u49 E A S H
  obtain _ | k47:=kq46
  exact zz H
  rw [qx.j45_s]at H
  obtain ⟨J,E⟩:=E.at A
  refine hK23 _ _ (E.ib 50 H (fun c50 E H=>?_) fun c50 E H=>?_)
  refine pl0 (plc E (.r 0 2 .nil) (fun a E=>pld ?_))
  refine qCS ?_
  refine hK14 _ _ (pl0 (plc E (.r 0 3 .nil) (fun a E=>pld ?_)))
  exact qCT ⟨k47,by omega,_,x6,(w64 (x6+1)),by omega,E,.of,S,H⟩
  refine wp_skip ?_
  refine qCS ?_
  refine hK14 _ _ (pl0 (plc E (.r 0 3 .nil) (fun a E=>pld ?_)))
  exact qCT ⟨k47,by omega,_,x5,(w64 (x6+1)),by omega,E,.of,S,H⟩
 refine drawn 31 ⟨[],[],fun q=>False⟩ mixed rfl (by kernel_rfl) (fun hst=>?_)
 replace S:=S.drew
 refine mny 28 hst E (.r 0 3 .nil) (fun a E=>?_)
 refine E.fk 22 H (fun c24 E H=>?_) fun c24 E H=>?_
 refine mny 0 hst E (.r 3 28 .nil) (fun a E=>?_)
 refine dn ?_
 exact J48 _ (by omega) _ true _ _ E .of S H
 obtain ⟨c28,H⟩:=gd H
 obtain ⟨cs30,rfl,hc31⟩:=g1_0.el qB.z x5 c28.1 c28.2
 refine mny 6 hst E (.r 3 3<|.x 6 c17<|.r 7 1<|.c 8 (S.fc hc21 0)<|.r 10 2<|.x 12 c28<|.r 13 1<|.c 14 (S.fc hc31 1)<|.r 16 3<|.x 19 c28<|.r 20 1<|.c 21 (S.fc hc31 0)<|.r 23 2<|.x 25 c17<|.r 26 1<|.c 27 (S.fc hc21 1)<|.nil) (fun a E=>?_)
 obtain ⟨t39,h40,H⟩:=bd H
 refine on1 9 E (.cl en167 (qBA.calls k9 x ((nth qB.z y x6).f0) _ _ _ S.own.sub h40)) ?_
 rintro _ u38 a ⟨_,rfl,hC⟩ E
 refine ⟨.of hC.agr,?_⟩
 replace S:=S.lent hC
 refine mny 4 hst E (.r 15 1 .nil) (fun a E=>?_)
 obtain ⟨t42,h43,H⟩:=bd H
 refine on1 22 E (.cl en167 (qBA.calls k9 x ((nth qB.z y x5).f0) _ _ _ S.own.sub h43)) ?_
 rintro _ u41 a ⟨_,rfl,hC⟩ E
 refine ⟨.of hC.agr,?_⟩
 replace S:=S.lent hC
 refine mny 0 hst E (.r 28 3 .nil) (fun a E=>?_)
 refine dn ?_
 exact J48 _ (by omega) _ (decide ((w64 (t39 * (nth qB.z y x5).f1))<(w64 (t42 * (nth qB.z y x6).f1)))) _ _ E .of S H
 refine wp_exit ?_
 refine hK3 _ _ (sq fun K51 hK51=>rr E fun a E=>(E.ik 53 H (fun c53 E H=>?_) fun c53 E H=>?_))
 refine rr E fun a E=>(wp_ret (qCQ ?_))
 obtain rfl:=si H
 exact rtN E ⟨_,rfl,_,rfl,S⟩
 refine wp_skip (hK51 _ _ (sq fun K55 hK55=>pl0 ?_))
 obtain ⟨c56,H⟩:=gd H
 have hE_:=E
 obtain ⟨ad57,rfl⟩:=g1_0.addr c56.1 c56.2
 replace E:=hE_
 obtain ⟨cs59,rfl,hc60⟩:=g1_0.el qB.z x5 c56.1 c56.2
 refine plc E (.r 0 2<|.x 2 c56<|.r 3 1<|.c 4 (S.fc hc60 0)<|.r 5 2<|.nil) (fun a E=>pld (hK55 _ _ (wp_ret ?_)))
 obtain rfl:=si H
 exact rtN E ⟨_,rfl,_,rfl,S⟩
end Go.Proofs.YthgfhlbjkmjlpaaGreat.PR
