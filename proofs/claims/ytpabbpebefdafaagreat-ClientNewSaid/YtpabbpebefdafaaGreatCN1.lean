import Derived.Test.YtpabbpebefdafaaGreatCN0
namespace Go.Proofs.YtpabbpebefdafaaGreat.CN
open Go Go.RowKit Go.Proofs.YtpabbpebefdafaaGreat.Sl
set_option linter.unusedVariables false
set_option linter.unusedSimpArgs false
set_option maxHeartbeats 4000000
set_option maxRecDepth 100000
mutual
def qS.l7:Nat→qF→Int→Option Bool
 | 0,_,_=>none
 | k+1,x,x6=>if x6<(x.f5.length:Int) then (qS.j15 k x x6 (decide (x6<20))) else (qS.j15 k x x6 false)
def qS.j15:Nat→qF→Int→Bool→Option Bool
 | 0,_,_,_=>none
 | k+1,x,x6,y14=>if y14=true then (if 0≤x6∧x6<(x.f5.length:Int) then (if (((nth qI.z x.f5 x6).f1).length:Int)>20 then (some false) else (qS.l7 k x (w64 (x6+1)))) else (none)) else (qS.l36 k x 0)
def qS.l36:Nat→qF→Int→Option Bool
 | 0,_,_=>none
 | k+1,x,x35=>if x35<(x.f6.length:Int) then (qS.j44 k x x35 (decide (x35<20))) else (qS.j44 k x x35 false)
def qS.j44:Nat→qF→Int→Bool→Option Bool
 | 0,_,_,_=>none
 | k+1,x,x35,y43=>if y43=true then (if 0≤x35∧x35<(x.f6.length:Int) then (if (((nth qC.z x.f6 x35).f1).length:Int)>20 then (some false) else (qS.l65 k x x35 0)) else (none)) else (if (x.f4.length:Int)≤30 then (if (x.f5.length:Int)≤20 then (some (decide ((x.f6.length:Int)≤20))) else (some false)) else (some false))
def qS.l65:Nat→qF→Int→Int→Option Bool
 | 0,_,_,_=>none
 | k+1,x,x35,x64=>if x64<(((nth qC.z x.f6 x35).f1).length:Int) then (if 0≤x64∧x64<(((nth qC.z x.f6 x35).f1).length:Int) then (if (((nth qL.z ((nth qC.z x.f6 x35).f1) x64).f1).length:Int)>20 then (some false) else (qS.l65 k x x35 (w64 (x64+1)))) else (none)) else (qS.l36 k x (w64 (x35+1)))
end
theorem qS.l7_s k x x6:type_of% (qS.l7.eq_2 x x6 k):=qS.l7.eq_2 x x6 k
theorem qS.j15_s k x x6 y14:type_of% (qS.j15.eq_2 x x6 y14 k):=qS.j15.eq_2 x x6 y14 k
theorem qS.l36_s k x x35:type_of% (qS.l36.eq_2 x x35 k):=qS.l36.eq_2 x x35 k
theorem qS.j44_s k x x35 y43:type_of% (qS.j44.eq_2 x x35 y43 k):=qS.j44.eq_2 x x35 y43 k
theorem qS.l65_s k x x35 x64:type_of% (qS.l65.eq_2 x x35 x64 k):=qS.l65.eq_2 x x35 x64 k
def qS.f(k:Nat)(x:qF):Option Bool:=qS.l7 k x 0
def qS.Post(W F:World)(r:Bool)(v:Value)(w':World):Prop:=∃(F':World),v = .bool r∧Sm W F w' F' []
theorem qS.calls(k:Nat)(x:qF)(A0_4:OA)(c0_4:Nat)(A0_5:OA)(c0_5:Nat)(A0_6:OA)(c0_6:Nat)(r:Bool)(W F:World)(hown:Sub F W)(g0_4:Rd qA.k F A0_4 c0_4 x.f4)(g0_5:Rd qI.k F A0_5 c0_5 x.f5)(g0_6:Rd qC.k F A0_6 c0_6 x.f6)(H:qS.f k x=some r):
    Cr 8 #[.agg #[iv x.f0,iv x.f1,iv x.f2,iv x.f3,.slice A0_4 x.f4.length c0_4,.slice A0_5 x.f5.length c0_5,.slice A0_6 x.f6.length c0_6]] W (qS.Post W F r):=by
 have S:=sT hown
 unfold qS.f at H
 refine ent 83 rfl rfl rfl (fun a E=>?_)
 refine sq fun K1 hK1=>pl0 (plx (t:=27) E S [iv x.f0,iv x.f1,iv x.f2,iv x.f3,.slice A0_4 x.f4.length c0_4,.slice A0_5 x.f5.length c0_5,.slice A0_6 x.f6.length c0_6] fun b2 u3 hb2 S a E=>plc E (.r 1 1 .nil) (fun a E=>pld (hK1 _ _ (sq fun K4 hK4=>rr E fun a E=>(wp_block ?_)))))
 refine wp_loop_ghost (fun kq8 a w'=>∃(G:NV)(x6:Int),kq8≤k∧Env 83 G a∧At G [(1,.pointer (pb b2)),(3,iv x6)]∧Sm W F w' F [box b2 #[iv x.f0,iv x.f1,iv x.f2,iv x.f3,.slice A0_4 x.f4.length c0_4,.slice A0_5 x.f5.length c0_5,.slice A0_6 x.f6.length c0_6] 27]∧qS.l7 kq8 x x6=some r) k ⟨_,0,Nat.le_refl _,E,.of,S,H⟩ ?_
 rintro kq8 a u10 ⟨G,x6,hkq,E,A,S,H⟩
 obtain _ | k9:=kq8
 exact zz H
 rw [qS.l7_s]at H
 obtain ⟨J,E⟩:=E.at A
 refine sq fun K11 hK11=>sq fun K12 hK12=>?_
 have J18:∀ kq16,kq16≤k9→∀(G:NV)(y14:Bool)(a:Act)(w':World),Env 83 G a→At G [(1,.pointer (pb b2)),(3,iv x6),(14,.bool y14)]→Sm W F w' F [box b2 #[iv x.f0,iv x.f1,iv x.f2,iv x.f3,.slice A0_4 x.f4.length c0_4,.slice A0_5 x.f5.length c0_5,.slice A0_6 x.f6.length c0_6] 27]→qS.j15 kq16 x x6 y14=some r→K12 a w':=by
  intro kq16 hkq G y14 a u19 E A S H
  obtain _ | k17:=kq16
  exact zz H
  rw [qS.j15_s]at H
  obtain ⟨J,E⟩:=E.at A
  refine hK12 _ _ (E.ib 14 H (fun c20 E H=>?_) fun c20 E H=>?_)
  refine wp_skip (hK11 _ _ (sq fun K21 hK21=>wp_block (sq fun K22 hK22=>pl0 ?_)))
  have hb2:=S.ba 0
  obtain ⟨c23,H⟩:=gd H
  have hE_:=E
  obtain ⟨ad24,rfl⟩:=g0_5.addr c23.1 c23.2
  replace E:=hE_
  obtain ⟨cs26,⟨A28,c29,rfl,g30⟩,hc27⟩:=g0_5.el qI.z x6 c23.1 c23.2
  refine plc E (.r 0 1<|.b 1 5 hb2<|.r 2 1<|.x 3 c23<|.r 4 1<|.c 5 (S.fc hc27 1)<|.r 6 2<|.nil) (fun a E=>pld (hK22 _ _ (E.ik 24 H (fun c31 E H=>?_) fun c31 E H=>?_)))
  refine rr E fun a E=>(wp_ret (qCK (qCJ (qCJ (qCK (qCJ ?_))))))
  replace S:=S.tail
  obtain rfl:=si H
  exact rt1 E ⟨_,rfl,_,rfl,S⟩
  refine wp_skip ?_
  refine qCL ?_
  refine hK21 _ _ (pl0 (plc E (.r 0 3 .nil) (fun a E=>pld ?_)))
  exact qCM ⟨k17,by omega,_,(w64 (x6+1)),by omega,E,.of,S,H⟩
  refine wp_exit ?_
  refine hK4 _ _ (sq fun K33 hK33=>rr E fun a E=>(wp_block ?_))
  refine wp_loop_ghost (fun kq37 a w'=>∃(G:NV)(x35:Int),kq37≤k17∧Env 83 G a∧At G [(1,.pointer (pb b2)),(4,iv x35)]∧Sm W F w' F [box b2 #[iv x.f0,iv x.f1,iv x.f2,iv x.f3,.slice A0_4 x.f4.length c0_4,.slice A0_5 x.f5.length c0_5,.slice A0_6 x.f6.length c0_6] 27]∧qS.l36 kq37 x x35=some r) k17 ⟨_,0,Nat.le_refl _,E,.of,S,H⟩ ?_
  rintro kq37 a u39 ⟨G,x35,hkq,E,A,S,H⟩
  obtain _ | k38:=kq37
  exact zz H
  rw [qS.l36_s]at H
  obtain ⟨J,E⟩:=E.at A
  refine sq fun K40 hK40=>sq fun K41 hK41=>?_
  have J47:∀ kq45,kq45≤k38→∀(G:NV)(y43:Bool)(a:Act)(w':World),Env 83 G a→At G [(1,.pointer (pb b2)),(4,iv x35),(33,.bool y43)]→Sm W F w' F [box b2 #[iv x.f0,iv x.f1,iv x.f2,iv x.f3,.slice A0_4 x.f4.length c0_4,.slice A0_5 x.f5.length c0_5,.slice A0_6 x.f6.length c0_6] 27]→qS.j44 kq45 x x35 y43=some r→K41 a w':=by
   intro kq45 hkq G y43 a u48 E A S H
   obtain _ | k46:=kq45
   exact zz H
   rw [qS.j44_s]at H
   obtain ⟨J,E⟩:=E.at A
   refine hK41 _ _ (E.ib 33 H (fun c49 E H=>?_) fun c49 E H=>?_)
   refine wp_skip (hK40 _ _ (sq fun K50 hK50=>wp_block (sq fun K51 hK51=>sq fun K52 hK52=>pl0 ?_)))
   have hb2:=S.ba 0
   obtain ⟨c53,H⟩:=gd H
   have hE_:=E
   obtain ⟨ad54,rfl⟩:=g0_6.addr c53.1 c53.2
   replace E:=hE_
   obtain ⟨cs56,⟨A58,c59,rfl,g60⟩,hc57⟩:=g0_6.el qC.z x35 c53.1 c53.2
   refine plc E (.r 0 1<|.b 1 6 hb2<|.r 2 1<|.x 3 c53<|.r 4 1<|.c 5 (S.fc hc57 1)<|.r 6 2<|.nil) (fun a E=>pld (hK52 _ _ (E.ik 43 H (fun c61 E H=>?_) fun c61 E H=>?_)))
   refine rr E fun a E=>(wp_ret (qCJ (qCK (qCJ (qCJ (qCK (qCJ ?_)))))))
   replace S:=S.tail
   obtain rfl:=si H
   exact rt1 E ⟨_,rfl,_,rfl,S⟩
   refine wp_skip (hK51 _ _ (rr E fun a E=>(wp_block ?_)))
   refine wp_loop_ghost (fun kq66 a w'=>∃(G:NV)(x64:Int),kq66≤k46∧Env 83 G a∧At G [(1,.pointer (pb b2)),(4,iv x35),(5,iv x64)]∧Sm W F w' F [box b2 #[iv x.f0,iv x.f1,iv x.f2,iv x.f3,.slice A0_4 x.f4.length c0_4,.slice A0_5 x.f5.length c0_5,.slice (some ad54) x.f6.length c0_6] 27]∧qS.l65 kq66 x x35 x64=some r) k46 ⟨_,0,Nat.le_refl _,E,.of,S,H⟩ ?_
   rintro kq66 a u68 ⟨G,x64,hkq,E,A,S,H⟩
   obtain _ | k67:=kq66
   exact zz H
   rw [qS.l65_s]at H
   obtain ⟨J,E⟩:=E.at A
   refine sq fun K69 hK69=>sq fun K70 hK70=>pl0 ?_
   have hb2:=S.ba 0
   obtain ⟨cs72,⟨A74,c75,rfl,g76⟩,hc73⟩:=g0_6.el qC.z x35 c53.1 c53.2
   refine plc E (.r 0 2<|.b 2 6 hb2<|.r 3 1<|.x 4 c53<|.r 5 1<|.c 6 (S.fc hc73 1)<|.r 7 2<|.nil) (fun a E=>pld (hK70 _ _ (E.ik 52 H (fun c77 E H=>?_) fun c77 E H=>?_)))
   refine wp_skip (hK69 _ _ (sq fun K78 hK78=>wp_block (sq fun K79 hK79=>pl0 ?_)))
   obtain ⟨c83,H⟩:=gd H
   have hE_:=E
   obtain ⟨ad84,rfl⟩:=g76.addr c83.1 c83.2
   replace E:=hE_
   obtain ⟨cs86,⟨A88,c89,rfl,g90⟩,hc87⟩:=g76.el qL.z x64 c83.1 c83.2
   refine plc E (.r 0 1<|.b 1 6 hb2<|.r 2 1<|.x 3 c53<|.r 4 1<|.c 5 (S.fc hc73 1)<|.r 6 1<|.x 7 c83<|.r 8 1<|.c 9 (S.fc hc87 1)<|.r 10 2<|.nil) (fun a E=>pld (hK79 _ _ (E.ik 66 H (fun c91 E H=>?_) fun c91 E H=>?_)))
   refine rr E fun a E=>(wp_ret (qCK (qCJ (qCJ (qCK (qCK (qCJ (qCJ (qCK (qCJ ?_))))))))))
   replace S:=S.tail
   obtain rfl:=si H
   exact rt1 E ⟨_,rfl,_,rfl,S⟩
   refine wp_skip ?_
   refine qCL ?_
   refine hK78 _ _ (pl0 (plc E (.r 0 3 .nil) (fun a E=>pld ?_)))
   exact qCM ⟨k67,by omega,_,(w64 (x64+1)),by omega,E,.of,S,H⟩
   refine wp_exit ?_
   refine hK50 _ _ (pl0 (plc E (.r 0 3 .nil) (fun a E=>pld ?_)))
   exact qCM ⟨k67,by omega,_,(w64 (x35+1)),by omega,E,.of,S,H⟩
   refine wp_exit ?_
   refine hK33 _ _ (sq fun K93 hK93=>pl0 ?_)
   have hb2:=S.ba 0
   refine plc E (.r 0 1<|.b 1 4 hb2<|.r 2 3<|.nil) (fun a E=>E.fk 71 H (fun c94 E H=>?_) fun c94 E H=>?_)
   refine plc E (.r 5 1<|.b 6 5 hb2<|.r 7 4<|.nil) (fun a E=>E.fk 77 H (fun c95 E H=>?_) fun c95 E H=>?_)
   refine plc E (.r 11 1<|.b 12 6 hb2<|.r 13 4<|.nil) (fun a E=>pld (hK93 _ _ (wp_ret ?_)))
   replace S:=S.tail
   obtain rfl:=si H
   exact rt1 E ⟨_,rfl,_,rfl,S⟩
   refine plc E (.r 11 6 .nil) (fun a E=>pld (hK93 _ _ (wp_ret ?_)))
   replace S:=S.tail
   obtain rfl:=si H
   exact rt1 E ⟨_,rfl,_,rfl,S⟩
   refine plc E (.r 5 12 .nil) (fun a E=>pld (hK93 _ _ (wp_ret ?_)))
   replace S:=S.tail
   obtain rfl:=si H
   exact rt1 E ⟨_,rfl,_,rfl,S⟩
  refine pl0 (plc E (.r 0 2<|.b 2 6 (S.ba 0)<|.r 3 3<|.nil) (fun a E=>E.fk 30 H (fun c42 E H=>?_) fun c42 E H=>?_))
  refine plc E (.r 6 3 .nil) (fun a E=>pld ?_)
  exact J47 _ (by omega) _ (decide (x35<20)) _ _ E .of S H
  refine plc E (.r 6 3 .nil) (fun a E=>pld ?_)
  exact J47 _ (by omega) _ false _ _ E .of S H
 refine pl0 (plc E (.r 0 2<|.b 2 5 (S.ba 0)<|.r 3 3<|.nil) (fun a E=>E.fk 11 H (fun c13 E H=>?_) fun c13 E H=>?_))
 refine plc E (.r 6 3 .nil) (fun a E=>pld ?_)
 exact J18 _ (by omega) _ (decide (x6<20)) _ _ E .of S H
 refine plc E (.r 6 3 .nil) (fun a E=>pld ?_)
 exact J18 _ (by omega) _ false _ _ E .of S H
def qBD.f(x:Int)(y:Int)(z:Int):Option Bool:=if x≥y then (some (decide (x≤z))) else (some false)
def qBD.Post(W F:World)(r:Bool)(v:Value)(w':World):Prop:=∃(F':World),v = .bool r∧Sm W F w' F' []
theorem qBD.calls(x:Int)(y:Int)(z:Int)(r:Bool)(W F:World)(hown:Sub F W)(H:qBD.f x y z=some r):
    Cr 94 #[iv x,iv y,iv z] W (qBD.Post W F r):=by
 have S:=sT hown
 unfold qBD.f at H
 refine ent 15 rfl rfl rfl (fun a E=>?_)
 refine rr E fun a E=>(sq fun K2 hK2=>pl0 (plc E (.r 0 4 .nil) (fun a E=>E.fk 10 H (fun c3 E H=>?_) fun c3 E H=>?_)))
 refine plc E (.r 4 5 .nil) (fun a E=>pld (hK2 _ _ (wp_ret ?_)))
 obtain rfl:=si H
 exact rt1 E ⟨_,rfl,_,rfl,S⟩
 refine plc E (.r 4 5 .nil) (fun a E=>pld (hK2 _ _ (wp_ret ?_)))
 obtain rfl:=si H
 exact rt1 E ⟨_,rfl,_,rfl,S⟩
def qBv.f(x:Int)(y:Int)(z:Int):Option Bool:=if x≥y then (some (decide (x≤z))) else (some false)
def qBv.Post(W F:World)(r:Bool)(v:Value)(w':World):Prop:=∃(F':World),v = .bool r∧Sm W F w' F' []
theorem qBv.calls(x:Int)(y:Int)(z:Int)(r:Bool)(W F:World)(hown:Sub F W)(H:qBv.f x y z=some r):
    Cr 150 #[iv x,iv y,iv z] W (qBv.Post W F r):=by
 have S:=sT hown
 unfold qBv.f at H
 refine ent 15 rfl rfl rfl (fun a E=>?_)
 refine rr E fun a E=>(sq fun K2 hK2=>pl0 (plc E (.r 0 4 .nil) (fun a E=>E.fk 10 H (fun c3 E H=>?_) fun c3 E H=>?_)))
 refine plc E (.r 4 5 .nil) (fun a E=>pld (hK2 _ _ (wp_ret ?_)))
 obtain rfl:=si H
 exact rt1 E ⟨_,rfl,_,rfl,S⟩
 refine plc E (.r 4 5 .nil) (fun a E=>pld (hK2 _ _ (wp_ret ?_)))
 obtain rfl:=si H
 exact rt1 E ⟨_,rfl,_,rfl,S⟩
mutual
def qAI.l9:Nat→List qA→Int→Option Int
 | 0,_,_=>none
 | k+1,x,x8=>if x8<(x.length:Int) then (if 0≤x8∧x8<(x.length:Int) then ((qBv.f ((nth qA.z x x8).f0) 1 999).bind fun t28=>(if t28=true then ((qBv.f ((nth qA.z x x8).f1) 1 9).bind fun t32=>(if t32=true then ((qBv.f ((nth qA.z x x8).f2) 1 9).bind fun t36=>(if t36=true then ((qBv.f ((nth qA.z x x8).f3) 0 65536).bind fun t40=>(if t40=true then (if x8>0 then (if 0≤(w64 (x8 - 1))∧(w64 (x8 - 1))<(x.length:Int) then (qAI.j49 k x x8 (decide ((nth qA.z x x8).f0≤(nth qA.z x (w64 (x8 - 1))).f0))) else (none)) else (qAI.j49 k x x8 false)) else (qAI.j49 k x x8 true))) else (qAI.j49 k x x8 true))) else (qAI.j49 k x x8 true))) else (qAI.j49 k x x8 true))) else (none)) else (some 0)
def qAI.j49:Nat→List qA→Int→Bool→Option Int
 | 0,_,_,_=>none
 | k+1,x,x8,y48=>if y48=true then (some 1) else (qAI.l9 k x (w64 (x8+1)))
end
theorem qAI.l9_s k x x8:type_of% (qAI.l9.eq_2 x x8 k):=qAI.l9.eq_2 x x8 k
theorem qAI.j49_s k x x8 y48:type_of% (qAI.j49.eq_2 x x8 y48 k):=qAI.j49.eq_2 x x8 y48 k
def qAI.f(k:Nat)(x:List qA):Option Int:=if (x.length:Int)>12 then (some 1) else (qAI.l9 k x 0)
def qAI.Post(W F:World)(r:Int)(v:Value)(w':World):Prop:=∃(F':World),v=iv r∧Sm W F w' F' []
theorem qAI.calls(k:Nat)(x:List qA)(A0_0:OA)(c0_0:Nat)(r:Int)(W F:World)(hown:Sub F W)(g0_0:Rd qA.k F A0_0 c0_0 x)(H:qAI.f k x=some r):
    Cr 95 #[.slice A0_0 x.length c0_0] W (qAI.Post W F r):=by
 have S:=sT hown
 unfold qAI.f at H
 refine ent 53 rfl rfl rfl (fun a E=>?_)
 refine rr E fun a E=>(sq fun K2 hK2=>rr E fun a E=>(E.ik 7 H (fun c4 E H=>?_) fun c4 E H=>?_))
 refine rr E fun a E=>(wp_ret (qCJ ?_))
 obtain rfl:=si H
 exact rt1 E ⟨_,rfl,_,rfl,S⟩
 refine wp_skip (hK2 _ _ (sq fun K6 hK6=>rr E fun a E=>(wp_block ?_)))
 refine wp_loop_ghost (fun kq10 a w'=>∃(G:NV)(x8:Int),kq10≤k∧Env 53 G a∧At G [(0,.slice A0_0 x.length c0_0),(8,.slice A0_0 x.length c0_0),(9,iv (x.length:Int)),(10,iv x8)]∧Sm W F w' F []∧qAI.l9 kq10 x x8=some r) k ⟨_,0,Nat.le_refl _,E,.of,S,H⟩ ?_
 rintro kq10 a u12 ⟨G,x8,hkq,E,A,S,H⟩
 obtain _ | k11:=kq10
 exact zz H
 rw [qAI.l9_s]at H
 obtain ⟨J,E⟩:=E.at A
 refine rr E fun a E=>(sq fun K14 hK14=>E.ik 11 H (fun c15 E H=>?_) fun c15 E H=>?_)
 refine wp_skip (hK14 _ _ (sq fun K16 hK16=>wp_block (sq fun K17 hK17=>pl0 ?_)))
 obtain ⟨c18,H⟩:=gd H
 have hE_:=E
 obtain ⟨ad19,rfl⟩:=g0_0.addr c18.1 c18.2
 replace E:=hE_
 obtain ⟨cs21,rfl,hc22⟩:=g0_0.el qA.z x8 c18.1 c18.2
 refine plc E (.r 0 1<|.x 1 c18<|.cs 2 (S.fcs hc22)<|.nil) (fun a E=>pla (t:=153) E S [iv 0,iv 0,iv 0,iv 0,.bool false,.bool false] fun b23 u24 hb23 S a E=>plc E (.r 4 1 .nil) (fun a E=>pls E S [iv ((nth qA.z x x8).f0),iv ((nth qA.z x x8).f1),iv ((nth qA.z x x8).f2),iv ((nth qA.z x x8).f3),.bool ((nth qA.z x x8).f4),.bool ((nth qA.z x x8).f5)] fun u25 hb23 S a E=>pld (hK17 _ _ (sq fun K26 hK26=>?_))))
 have J52:∀ kq50,kq50≤k11→∀(G:NV)(y48:Bool)(a:Act)(w':World),Env 53 G a→At G [(0,.slice (some ad19) x.length c0_0),(8,.slice (some ad19) x.length c0_0),(9,iv (x.length:Int)),(10,iv x8),(51,.bool y48)]→Sm W F w' F [box b23 #[iv ((nth qA.z x x8).f0),iv ((nth qA.z x x8).f1),iv ((nth qA.z x x8).f2),iv ((nth qA.z x x8).f3),.bool ((nth qA.z x x8).f4),.bool ((nth qA.z x x8).f5)] 153]→qAI.j49 kq50 x x8 y48=some r→K26 a w':=by
  intro kq50 hkq G y48 a u53 E A S H
  obtain _ | k51:=kq50
  exact zz H
  rw [qAI.j49_s]at H
  obtain ⟨J,E⟩:=E.at A
  refine hK26 _ _ (E.ib 51 H (fun c54 E H=>?_) fun c54 E H=>?_)
  refine rr E fun a E=>(wp_ret (qCK (qCJ (qCJ (qCK (qCJ ?_))))))
  replace S:=S.tail
  obtain rfl:=si H
  exact rt1 E ⟨_,rfl,_,rfl,S⟩
  refine wp_skip ?_
  refine qCL ?_
  refine hK16 _ _ (pl0 (plc E (.r 0 2 .nil) (fun a E=>pld ?_)))
  replace S:=S.tail
  exact qCM ⟨k51,by omega,_,(w64 (x8+1)),by omega,E,.of,S,H⟩
 refine drawn 37 ⟨[],[],fun q=>False⟩ mixed rfl (by kernel_rfl) (fun hst=>?_)
 replace S:=S.drew
 have hb23:=S.ba 0
 refine mny 35 hst E (.r 0 1<|.b 1 0 hb23<|.nil) (fun a E=>?_)
 obtain ⟨t28,h29,H⟩:=bd H
 refine on1 2 E (.cl en150 (qBv.calls ((nth qA.z x x8).f0) 1 999 _ _ _ S.own.sub h29)) ?_
 rintro _ u27 a ⟨_,rfl,hC⟩ E
 refine ⟨.of hC.agr,?_⟩
 replace S:=S.lent hC
 refine mny 32 hst E (.r 3 2 .nil) (fun a E=>?_)
 refine E.fbn 19 H (fun c30 E H=>?_) fun c30 E H=>?_
 have hb23:=S.ba 0
 refine mny 30 hst E (.r 5 1<|.b 6 1 hb23<|.nil) (fun a E=>?_)
 obtain ⟨t32,h33,H⟩:=bd H
 refine on1 7 E (.cl en150 (qBv.calls ((nth qA.z x x8).f1) 1 9 _ _ _ S.own.sub h33)) ?_
 rintro _ u31 a ⟨_,rfl,hC⟩ E
 refine ⟨.of hC.agr,?_⟩
 replace S:=S.lent hC
 refine mny 26 hst E (.r 8 3 .nil) (fun a E=>?_)
 refine E.fbn 25 H (fun c34 E H=>?_) fun c34 E H=>?_
 have hb23:=S.ba 0
 refine mny 24 hst E (.r 11 1<|.b 12 2 hb23<|.nil) (fun a E=>?_)
 obtain ⟨t36,h37,H⟩:=bd H
 refine on1 13 E (.cl en150 (qBv.calls ((nth qA.z x x8).f2) 1 9 _ _ _ S.own.sub h37)) ?_
 rintro _ u35 a ⟨_,rfl,hC⟩ E
 refine ⟨.of hC.agr,?_⟩
 replace S:=S.lent hC
 refine mny 20 hst E (.r 14 3 .nil) (fun a E=>?_)
 refine E.fbn 31 H (fun c38 E H=>?_) fun c38 E H=>?_
 have hb23:=S.ba 0
 refine mny 18 hst E (.r 17 1<|.b 18 3 hb23<|.nil) (fun a E=>?_)
 obtain ⟨t40,h41,H⟩:=bd H
 refine on1 19 E (.cl en150 (qBv.calls ((nth qA.z x x8).f3) 0 65536 _ _ _ S.own.sub h41)) ?_
 rintro _ u39 a ⟨_,rfl,hC⟩ E
 refine ⟨.of hC.agr,?_⟩
 replace S:=S.lent hC
 refine mny 14 hst E (.r 20 3 .nil) (fun a E=>?_)
 refine E.fbn 37 H (fun c42 E H=>?_) fun c42 E H=>?_
 refine mny 11 hst E (.r 23 3 .nil) (fun a E=>?_)
 refine E.fk 40 H (fun c43 E H=>?_) fun c43 E H=>?_
 have hb23:=S.ba 0
 obtain ⟨c44,H⟩:=gd H
 obtain ⟨cs46,rfl,hc47⟩:=g0_0.el qA.z (w64 (x8 - 1)) c44.1 c44.2
 refine mny 0 hst E (.r 26 1<|.b 27 0 hb23<|.r 28 3<|.x 31 c44<|.r 32 1<|.c 33 (S.fc hc47 0)<|.r 34 3<|.nil) (fun a E=>?_)
 refine dn ?_
 exact J52 _ (by omega) _ (decide ((nth qA.z x x8).f0≤(nth qA.z x (w64 (x8 - 1))).f0)) _ _ E .of S H
 refine mny 0 hst E (.r 26 11 .nil) (fun a E=>?_)
 refine dn ?_
 exact J52 _ (by omega) _ false _ _ E .of S H
 refine mny 0 hst E (.r 23 14 .nil) (fun a E=>?_)
 refine dn ?_
 exact J52 _ (by omega) _ true _ _ E .of S H
 refine mny 0 hst E (.r 17 20 .nil) (fun a E=>?_)
 refine dn ?_
 exact J52 _ (by omega) _ true _ _ E .of S H
 refine mny 0 hst E (.r 11 26 .nil) (fun a E=>?_)
 refine dn ?_
 exact J52 _ (by omega) _ true _ _ E .of S H
 refine mny 0 hst E (.r 5 32 .nil) (fun a E=>?_)
 refine dn ?_
 exact J52 _ (by omega) _ true _ _ E .of S H
 refine wp_exit ?_
 refine hK6 _ _ (rr E fun a E=>(wp_ret ?_))
 obtain rfl:=si H
 exact rt1 E ⟨_,rfl,_,rfl,S⟩
def qAB.l5:Nat→List Int→Int→Int→Option Int
 | 0,_,_,_=>none
 | k+1,x,y,x4=>if x4<(x.length:Int) then (if 0≤x4∧x4<(x.length:Int) then (if y=(nth 0 x x4) then (some x4) else (qAB.l5 k x y (w64 (x4+1)))) else (none)) else (some (-1))
theorem qAB.l5_s k x y x4:type_of% (qAB.l5.eq_2 x y x4 k):=qAB.l5.eq_2 x y x4 k
def qAB.f(k:Nat)(x:List Int)(y:Int):Option Int:=qAB.l5 k x y 0
def qAB.Post(W F:World)(r:Int)(v:Value)(w':World):Prop:=∃(F':World),v=iv r∧Sm W F w' F' []
theorem qAB.calls(k:Nat)(x:List Int)(y:Int)(A0_0:OA)(c0_0:Nat)(r:Int)(W F:World)(hown:Sub F W)(g0_0:Rd ki F A0_0 c0_0 x)(H:qAB.f k x y=some r):
    Cr 93 #[.slice A0_0 x.length c0_0,iv y] W (qAB.Post W F r):=by
 have S:=sT hown
 unfold qAB.f at H
 refine ent 19 rfl rfl rfl (fun a E=>?_)
 refine rr E fun a E=>(sq fun K2 hK2=>rr E fun a E=>(wp_block ?_))
 refine wp_loop_ghost (fun kq6 a w'=>∃(G:NV)(x4:Int),kq6≤k∧Env 19 G a∧At G [(0,.slice A0_0 x.length c0_0),(1,iv y),(7,iv (x.length:Int)),(8,iv x4)]∧Sm W F w' F []∧qAB.l5 kq6 x y x4=some r) k ⟨_,0,Nat.le_refl _,E,.of,S,H⟩ ?_
 rintro kq6 a u8 ⟨G,x4,hkq,E,A,S,H⟩
 obtain _ | k7:=kq6
 exact zz H
 rw [qAB.l5_s]at H
 obtain ⟨J,E⟩:=E.at A
 refine rr E fun a E=>(sq fun K10 hK10=>E.ik 9 H (fun c11 E H=>?_) fun c11 E H=>?_)
 refine wp_skip (hK10 _ _ (sq fun K12 hK12=>wp_block (rr E fun a E=>(sq fun K14 hK14=>pl0 ?_))))
 obtain ⟨c15,H⟩:=gd H
 have hE_:=E
 obtain ⟨ad16,rfl⟩:=g0_0.addr c15.1 c15.2
 replace E:=hE_
 obtain ⟨cs18,rfl,hc19⟩:=g0_0.el 0 x4 c15.1 c15.2
 refine plc E (.r 0 3<|.x 3 c15<|.c 4 (S.fc hc19 0)<|.r 5 1<|.nil) (fun a E=>pld (hK14 _ _ (E.ik 16 H (fun c20 E H=>?_) fun c20 E H=>?_)))
 refine rr E fun a E=>(wp_ret (qCK (qCJ (qCJ (qCK (qCJ ?_))))))
 obtain rfl:=si H
 exact rt1 E ⟨_,rfl,_,rfl,S⟩
 refine wp_skip ?_
 refine qCL ?_
 refine hK12 _ _ (pl0 (plc E (.r 0 2 .nil) (fun a E=>pld ?_)))
 exact qCM ⟨k7,by omega,_,(w64 (x4+1)),by omega,E,.of,S,H⟩
 refine wp_exit ?_
 refine hK2 _ _ (rr E fun a E=>(wp_ret ?_))
 obtain rfl:=si H
 exact rt1 E ⟨_,rfl,_,rfl,S⟩
def qAU.f(k:Nat)(x:List Int)(y:Int):Option Bool:=(qAB.f k x y).bind fun t4=>(some (decide (t4≥0)))
def qAU.Post(W F:World)(r:Bool)(v:Value)(w':World):Prop:=∃(F':World),v = .bool r∧Sm W F w' F' []
theorem qAU.calls(k:Nat)(x:List Int)(y:Int)(A0_0:OA)(c0_0:Nat)(r:Bool)(W F:World)(hown:Sub F W)(g0_0:Rd ki F A0_0 c0_0 x)(H:qAU.f k x y=some r):
    Cr 36 #[.slice A0_0 x.length c0_0,iv y] W (qAU.Post W F r):=by
 have S:=sT hown
 unfold qAU.f at H
 refine ent 9 rfl rfl rfl (fun a E=>?_)
 refine rr E fun a E=>(sq fun K2 hK2=>pl0 (plc E (.r 0 2 .nil) (fun a E=>?_)))
 obtain ⟨t4,h5,H⟩:=bd H
 refine plq E S en93 (qAB.calls k x y _ _ _ _ _ S.own.sub g0_0 h5) fun u3 S a E=>plc E (.r 3 2 .nil) (fun a E=>pld (hK2 _ _ (wp_ret ?_)))
 obtain rfl:=si H
 exact rt1 E ⟨_,rfl,_,rfl,S⟩
mutual
def qAM.l18:Nat→List qA→List Int→List Int→Int→Option Bool
 | 0,_,_,_,_=>none
 | k+1,x,y,l16,x17=>if x17<(y.length:Int) then (if 0≤x17∧x17<(y.length:Int) then (qAM.l35 k x y l16 x17 0) else (none)) else (some true)
def qAM.l35:Nat→List qA→List Int→List Int→Int→Int→Option Bool
 | 0,_,_,_,_,_=>none
 | k+1,x,y,l16,x17,x34=>if x34<(x.length:Int) then (if 0≤x34∧x34<(x.length:Int) then (if (nth qA.z x x34).f0=(nth 0 y x17) then ((qAU.f k l16 ((nth qA.z x x34).f1)).bind fun t55=>(qAM.j58 k x y l16 x17 x34 (!t55))) else (qAM.j58 k x y l16 x17 x34 false)) else (none)) else (some false)
def qAM.j58:Nat→List qA→List Int→List Int→Int→Int→Bool→Option Bool
 | 0,_,_,_,_,_,_=>none
 | k+1,x,y,l16,x17,x34,y57=>if y57=true then (if ((l16.length:Int)+((1:Nat):Int)) * 8≤140737488355328 then (qAM.l18 k x y (l16++[(nth qA.z x x34).f1]) (w64 (x17+1))) else (none)) else (qAM.l35 k x y l16 x17 (w64 (x34+1)))
end
theorem qAM.l18_s k x y l16 x17:type_of% (qAM.l18.eq_2 x y l16 x17 k):=qAM.l18.eq_2 x y l16 x17 k
theorem qAM.l35_s k x y l16 x17 x34:type_of% (qAM.l35.eq_2 x y l16 x17 x34 k):=qAM.l35.eq_2 x y l16 x17 x34 k
theorem qAM.j58_s k x y l16 x17 x34 y57:type_of% (qAM.j58.eq_2 x y l16 x17 x34 y57 k):=qAM.j58.eq_2 x y l16 x17 x34 y57 k
def qAM.f(k:Nat)(x:List qA)(y:List Int):Option Bool:=(qAI.f k x).bind fun t5=>(if t5=0 then (qAM.l18 k x y [] 0) else (some false))
def qAM.Post(W F:World)(r:Bool)(v:Value)(w':World):Prop:=∃(F':World),v = .bool r∧Sm W F w' F' []
theorem qAM.calls(k:Nat)(x:List qA)(y:List Int)(A0_0:OA)(c0_0:Nat)(A1_0:OA)(c1_0:Nat)(r:Bool)(W F:World)(hown:Sub F W)(g0_0:Rd qA.k F A0_0 c0_0 x)(g1_0:Rd ki F A1_0 c1_0 y)(H:qAM.f k x y=some r):
    Cr 96 #[.slice A0_0 x.length c0_0,.slice A1_0 y.length c1_0] W (qAM.Post W F r):=by
 have S:=sT hown
 unfold qAM.f at H
 refine ent 43 rfl rfl rfl (fun a E=>?_)
 refine rr E fun a E=>?_
 refine wp_scope_straight ?_
 refine sq fun K2 hK2=>sq fun K3 hK3=>pl0 (plc E (.r 0 1 .nil) (fun a E=>?_))
 obtain ⟨t5,h6,H⟩:=bd H
 refine plq E S en95 (qAI.calls k x _ _ _ _ _ S.own.sub g0_0 h6) fun u4 S a E=>plc E (.r 2 1 .nil) (fun a E=>pld (hK3 _ _ (E.ikn 12 H (fun c7 E H=>?_) fun c7 E H=>?_)))
 refine wp_skip (hK2 _ _ (rr E fun a E=>(sq fun K10 hK10=>?_)))
 refine wp_label ?_
 refine hK10 _ _ (sq fun K11 hK11=>rr E fun a E=>(wp_block ?_))
 replace S:=S.nilrow ki 3
 refine wp_loop_ghost (fun kq19 a w'=>∃(G:NV)(A14:OA)(c15:Nat)(l16:List Int)(x17:Int),kq19≤k∧Env 43 G a∧At G [(0,.slice A0_0 x.length c0_0),(5,.slice A14 l16.length c15),(13,.slice A1_0 y.length c1_0),(14,iv (y.length:Int)),(15,iv x17)]∧Sm W F w' F [row ki 3 (.slice A14 l16.length c15) l16]∧qAM.l18 kq19 x y l16 x17=some r) k ⟨_,none,0,[],0,Nat.le_refl _,E,.of,S,H⟩ ?_
 rintro kq19 a u21 ⟨G,A14,c15,l16,x17,hkq,E,A,S,H⟩
 obtain _ | k20:=kq19
 exact zz H
 rw [qAM.l18_s]at H
 obtain ⟨J,E⟩:=E.at A
 refine rr E fun a E=>(sq fun K23 hK23=>E.ik 16 H (fun c24 E H=>?_) fun c24 E H=>?_)
 refine wp_skip (hK23 _ _ (sq fun K25 hK25=>wp_block (sq fun K26 hK26=>pl0 ?_)))
 obtain ⟨c27,H⟩:=gd H
 have hE_:=E
 obtain ⟨ad28,rfl⟩:=g1_0.addr c27.1 c27.2
 replace E:=hE_
 obtain ⟨cs30,rfl,hc31⟩:=g1_0.el 0 x17 c27.1 c27.2
 refine plc E (.x 0 c27<|.c 1 (S.fc hc31 0)<|.r 2 1<|.nil) (fun a E=>pld (hK26 _ _ (sq fun K32 hK32=>rr E fun a E=>(wp_block ?_))))
 refine wp_loop_ghost (fun kq36 a w'=>∃(G:NV)(x34:Int),kq36≤k20∧Env 43 G a∧At G [(0,.slice A0_0 x.length c0_0),(5,.slice A14 l16.length c15),(7,iv (nth 0 y x17)),(13,.slice (some ad28) y.length c1_0),(14,iv (y.length:Int)),(15,iv x17),(19,.slice A0_0 x.length c0_0),(20,iv (x.length:Int)),(21,iv x34)]∧Sm W F w' F [row ki 3 (.slice A14 l16.length c15) l16]∧qAM.l35 kq36 x y l16 x17 x34=some r) k20 ⟨_,0,Nat.le_refl _,E,.of,S,H⟩ ?_
 rintro kq36 a u38 ⟨G,x34,hkq,E,A,S,H⟩
 obtain _ | k37:=kq36
 exact zz H
 rw [qAM.l35_s]at H
 obtain ⟨J,E⟩:=E.at A
 refine rr E fun a E=>(sq fun K40 hK40=>E.ik 22 H (fun c41 E H=>?_) fun c41 E H=>?_)
 refine wp_skip (hK40 _ _ (sq fun K42 hK42=>wp_block (sq fun K43 hK43=>pl0 ?_)))
 obtain ⟨c44,H⟩:=gd H
 have hE_:=E
 obtain ⟨ad45,rfl⟩:=g0_0.addr c44.1 c44.2
 replace E:=hE_
 obtain ⟨cs47,rfl,hc48⟩:=g0_0.el qA.z x34 c44.1 c44.2
 refine plc E (.x 0 c44<|.cs 1 (S.fcs hc48)<|.nil) (fun a E=>pla (t:=153) E S [iv 0,iv 0,iv 0,iv 0,.bool false,.bool false] fun b49 u50 hb49 S a E=>pls E S [iv ((nth qA.z x x34).f0),iv ((nth qA.z x x34).f1),iv ((nth qA.z x x34).f2),iv ((nth qA.z x x34).f3),.bool ((nth qA.z x x34).f4),.bool ((nth qA.z x x34).f5)] fun u51 hb49 S a E=>pld (hK43 _ _ (sq fun K52 hK52=>?_)))
 have J61:∀ kq59,kq59≤k37→∀(G:NV)(y57:Bool)(a:Act)(w':World),Env 43 G a→At G [(0,.slice (some ad45) x.length c0_0),(5,.slice A14 l16.length c15),(7,iv (nth 0 y x17)),(9,.pointer (pb b49)),(13,.slice (some ad28) y.length c1_0),(14,iv (y.length:Int)),(15,iv x17),(19,.slice (some ad45) x.length c0_0),(20,iv (x.length:Int)),(21,iv x34),(35,.bool y57)]→Sm W F w' F [box b49 #[iv ((nth qA.z x x34).f0),iv ((nth qA.z x x34).f1),iv ((nth qA.z x x34).f2),iv ((nth qA.z x x34).f3),.bool ((nth qA.z x x34).f4),.bool ((nth qA.z x x34).f5)] 153,row ki 3 (.slice A14 l16.length c15) l16]→qAM.j58 kq59 x y l16 x17 x34 y57=some r→K52 a w':=by
  intro kq59 hkq G y57 a u62 E A S H
  obtain _ | k60:=kq59
  exact zz H
  rw [qAM.j58_s]at H
  obtain ⟨J,E⟩:=E.at A
  refine hK52 _ _ (E.ib 35 H (fun c63 E H=>?_) fun c63 E H=>?_)
  refine sq fun K64 hK64=>pl0 (plc E (.r 0 2<|.b 2 1 (S.ba 0)<|.nil) (fun a E=>ple E (.lit (d:=ki) (e:=3) S [(nth qA.z x x34).f1] (.cons rfl .nil)) ?_))
  rintro _ u65 a ⟨A66,c67,rfl,S,hg⟩ E
  obtain ⟨c69,H⟩:=gd H
  replace S:=S.front 2 rfl
  refine ple E (.ap (d:=ki) 8 S (qCX (S.row_at (i:=1) rfl)) c69 c67) ?_
  rintro _ u72 a ⟨A70,c71,rfl,S,hz⟩ E
  refine plc E (.r 5 1 .nil) (fun a E=>pld (hK64 _ _ ?_))
  refine wp_exit ?_
  refine hK25 _ _ (pl0 (plc E (.r 0 2 .nil) (fun a E=>pld ?_)))
  replace S:=S.pm [0] 3
  exact qCM ⟨k60,by omega,_,A70,c71,(l16++[(nth qA.z x x34).f1]),(w64 (x17+1)),by omega,E,.of,S,H⟩
  refine wp_skip ?_
  refine qCL ?_
  refine hK42 _ _ (pl0 (plc E (.r 0 2 .nil) (fun a E=>pld ?_)))
  replace S:=S.tail
  exact qCM ⟨k60,by omega,_,(w64 (x34+1)),by omega,E,.of,S,H⟩
 refine pl0 (plc E (.r 0 1<|.b 1 0 hb49<|.r 2 3<|.nil) (fun a E=>E.fk 29 H (fun c53 E H=>?_) fun c53 E H=>?_))
 refine plc E (.r 5 2<|.b 7 1 hb49<|.nil) (fun a E=>?_)
 obtain ⟨t55,h56,H⟩:=bd H
 refine plq E S en36 (qAU.calls k37 l16 ((nth qA.z x x34).f1) _ _ _ _ _ (Sub.refl _) (S.rd_at (i:=1) rfl) h56) fun u54 S a E=>plc E (.r 9 2 .nil) (fun a E=>pld ?_)
 exact J61 _ (by omega) _ (!t55) _ _ E .of S H
 refine plc E (.r 5 6 .nil) (fun a E=>pld ?_)
 exact J61 _ (by omega) _ false _ _ E .of S H
 refine wp_exit ?_
 refine hK32 _ _ (rr E fun a E=>(wp_ret (qCK (qCJ (qCJ (qCK (qCJ (qDT ?_))))))))
 replace S:=S.tail
 obtain rfl:=si H
 exact rt1 E ⟨_,rfl,_,rfl,S⟩
 refine wp_exit ?_
 refine hK11 _ _ (rr E fun a E=>(wp_ret (qDT ?_)))
 replace S:=S.tail
 obtain rfl:=si H
 exact rt1 E ⟨_,rfl,_,rfl,S⟩
 refine rr E fun a E=>(wp_ret (qCJ (qDT ?_)))
 obtain rfl:=si H
 exact rt1 E ⟨_,rfl,_,rfl,S⟩
def qr.l9:Nat→List Int→List Int→Int→Option Bool
 | 0,_,_,_=>none
 | k+1,x,y,x8=>if x8<(x.length:Int) then (if 0≤x8∧x8<(x.length:Int) then (if 0≤x8∧x8<(y.length:Int) then (if (nth 0 x x8)=(nth 0 y x8) then (qr.l9 k x y (w64 (x8+1))) else (some false)) else (none)) else (none)) else (some true)
theorem qr.l9_s k x y x8:type_of% (qr.l9.eq_2 x y x8 k):=qr.l9.eq_2 x y x8 k
def qr.f(k:Nat)(x:List Int)(y:List Int):Option Bool:=if (x.length:Int)=(y.length:Int) then (qr.l9 k x y 0) else (some false)
def qr.Post(W F:World)(r:Bool)(v:Value)(w':World):Prop:=∃(F':World),v = .bool r∧Sm W F w' F' []
theorem qr.calls(k:Nat)(x:List Int)(y:List Int)(A0_0:OA)(c0_0:Nat)(A1_0:OA)(c1_0:Nat)(r:Bool)(W F:World)(hown:Sub F W)(g0_0:Rd ki F A0_0 c0_0 x)(g1_0:Rd ki F A1_0 c1_0 y)(H:qr.f k x y=some r):
    Cr 77 #[.slice A0_0 x.length c0_0,.slice A1_0 y.length c1_0] W (qr.Post W F r):=by
 have S:=sT hown
 unfold qr.f at H
 refine ent 26 rfl rfl rfl (fun a E=>?_)
 refine rr E fun a E=>(sq fun K2 hK2=>rr E fun a E=>(E.ikn 10 H (fun c4 E H=>?_) fun c4 E H=>?_))
 refine wp_skip (hK2 _ _ (sq fun K6 hK6=>rr E fun a E=>(wp_block ?_)))
 refine wp_loop_ghost (fun kq10 a w'=>∃(G:NV)(x8:Int),kq10≤k∧Env 26 G a∧At G [(0,.slice A0_0 x.length c0_0),(1,.slice A1_0 y.length c1_0),(12,iv (x.length:Int)),(13,iv x8)]∧Sm W F w' F []∧qr.l9 kq10 x y x8=some r) k ⟨_,0,Nat.le_refl _,E,.of,S,H⟩ ?_
 rintro kq10 a u12 ⟨G,x8,hkq,E,A,S,H⟩
 obtain _ | k11:=kq10
 exact zz H
 rw [qr.l9_s]at H
 obtain ⟨J,E⟩:=E.at A
 refine rr E fun a E=>(sq fun K14 hK14=>E.ik 14 H (fun c15 E H=>?_) fun c15 E H=>?_)
 refine wp_skip (hK14 _ _ (sq fun K16 hK16=>wp_block (rr E fun a E=>(sq fun K18 hK18=>?_))))
 refine drawn 9 ⟨[],[],fun q=>False⟩ mixed rfl (by kernel_rfl) (fun hst=>?_)
 replace S:=S.drew
 obtain ⟨c19,H⟩:=gd H
 have hE_:=E
 obtain ⟨ad20,rfl⟩:=g0_0.addr c19.1 c19.2
 replace E:=hE_
 obtain ⟨cs22,rfl,hc23⟩:=g0_0.el 0 x8 c19.1 c19.2
 obtain ⟨c24,H⟩:=gd H
 have hE_:=E
 obtain ⟨ad25,rfl⟩:=g1_0.addr c24.1 c24.2
 replace E:=hE_
 obtain ⟨cs27,rfl,hc28⟩:=g1_0.el 0 x8 c24.1 c24.2
 refine mny 0 hst E (.r 0 2<|.x 2 c19<|.c 3 (S.fc hc23 0)<|.r 4 2<|.x 6 c24<|.c 7 (S.fc hc28 0)<|.r 8 1<|.nil) (fun a E=>?_)
 refine dn ?_
 refine hK18 _ _ (E.ikn 24 H (fun c29 E H=>?_) fun c29 E H=>?_)
 refine wp_skip ?_
 refine qCL ?_
 refine hK16 _ _ (pl0 (plc E (.r 0 2 .nil) (fun a E=>pld ?_)))
 exact qCM ⟨k11,by omega,_,(w64 (x8+1)),by omega,E,.of,S,H⟩
 refine rr E fun a E=>(wp_ret (qCK (qCJ (qCJ (qCK (qCJ ?_))))))
 obtain rfl:=si H
 exact rt1 E ⟨_,rfl,_,rfl,S⟩
 refine wp_exit ?_
 refine hK6 _ _ (rr E fun a E=>(wp_ret ?_))
 obtain rfl:=si H
 exact rt1 E ⟨_,rfl,_,rfl,S⟩
 refine rr E fun a E=>(wp_ret (qCJ ?_))
 obtain rfl:=si H
 exact rt1 E ⟨_,rfl,_,rfl,S⟩
def qBj.f(k:Nat)(x:qL)(xf0_:qL):Option Bool:=(qr.f k x.f1 xf0_.f1).bind fun t6=>(some t6)
def qBj.Post(W F:World)(r:Bool)(v:Value)(w':World):Prop:=∃(F':World),v = .bool r∧Sm W F w' F' []
theorem qBj.calls(k:Nat)(x:qL)(xf0_:qL)(A0_1:OA)(c0_1:Nat)(pf0_:Nat)(Af0_1:OA)(cf0_1:Nat)(r:Bool)(W F:World)(hown:Sub F W)(g0_1:Rd ki F A0_1 c0_1 x.f1)(gf0_1:Rd ki F Af0_1 cf0_1 xf0_.f1)(hpf0_:F.heap[pf0_]? = some (.cells #[iv xf0_.f0,.slice Af0_1 xf0_.f1.length cf0_1] 89 (0,0)))(H:qBj.f k x xf0_=some r):
    Cr 191 #[.agg #[iv x.f0,.slice A0_1 x.f1.length c0_1],.pointer (pb pf0_)] W (qBj.Post W F r):=by
 have S:=sT hown
 unfold qBj.f at H
 refine ent 9 rfl rfl rfl (fun a E=>?_)
 refine sq fun K1 hK1=>pl0 (plx (t:=89) E S [iv x.f0,.slice A0_1 x.f1.length c0_1] fun b2 u3 hb2 S a E=>plc E (.r 1 1 .nil) (fun a E=>pld (hK1 _ _ (sq fun K4 hK4=>pl0 (plc E (.r 0 1<|.b 1 1 hb2<|.r 2 1<|.b 3 1 (S.own.sub _ _ _ _ hpf0_)<|.nil) (fun a E=>?_))))))
 obtain ⟨t6,h7,H⟩:=bd H
 refine plq E S en77 (qr.calls k x.f1 xf0_.f1 _ _ _ _ _ _ _ S.own.sub g0_1 gf0_1 h7) fun u5 S a E=>plc E (.r 5 1 .nil) (fun a E=>pld (hK4 _ _ (wp_ret ?_)))
 replace S:=S.tail
 obtain rfl:=si H
 exact rt1 E ⟨_,rfl,_,rfl,S⟩
def qT.l5:Nat→List qL→qL→Int→Option Int
 | 0,_,_,_=>none
 | k+1,x,x1c0_,x4=>if x4<(x.length:Int) then (if 0≤x4∧x4<(x.length:Int) then ((qBj.f k (nth qL.z x x4) x1c0_).bind fun t24=>(if t24=true then (some x4) else (qT.l5 k x x1c0_ (w64 (x4+1))))) else (none)) else (some (-1))
theorem qT.l5_s k x x1c0_ x4:type_of% (qT.l5.eq_2 x x1c0_ x4 k):=qT.l5.eq_2 x x1c0_ x4 k
def qT.f(k:Nat)(x:List qL)(x1c0_:qL):Option Int:=qT.l5 k x x1c0_ 0
def qT.Post(W F:World)(r:Int)(v:Value)(w':World):Prop:=∃(F':World),v=iv r∧Sm W F w' F' []
theorem qT.calls(k:Nat)(x:List qL)(x1c0_:qL)(A0_0:OA)(c0_0:Nat)(p1c0_:Nat)(A1c0_1:OA)(c1c0_1:Nat)(r:Int)(W F:World)(hown:Sub F W)(g0_0:Rd qL.k F A0_0 c0_0 x)(g1c0_1:Rd ki F A1c0_1 c1c0_1 x1c0_.f1)(hp1c0_:F.heap[p1c0_]? = some (.cells #[iv x1c0_.f0,.slice A1c0_1 x1c0_.f1.length c1c0_1] 89 (0,0)))(H:qT.f k x x1c0_=some r):
    Cr 229 #[.slice A0_0 x.length c0_0,.func (.func 191) #[] #[.pointer (pb p1c0_)]] W (qT.Post W F r):=by
 have S:=sT hown
 unfold qT.f at H
 refine ent 19 rfl rfl rfl (fun a E=>?_)
 refine rr E fun a E=>(sq fun K2 hK2=>rr E fun a E=>(wp_block ?_))
 refine wp_loop_ghost (fun kq6 a w'=>∃(G:NV)(x4:Int),kq6≤k∧Env 19 G a∧At G [(0,.slice A0_0 x.length c0_0),(1,.func (.func 191) #[] #[.pointer (pb p1c0_)]),(7,iv (x.length:Int)),(8,iv x4)]∧Sm W F w' F []∧qT.l5 kq6 x x1c0_ x4=some r) k ⟨_,0,Nat.le_refl _,E,.of,S,H⟩ ?_
 rintro kq6 a u8 ⟨G,x4,hkq,E,A,S,H⟩
 obtain _ | k7:=kq6
 exact zz H
 rw [qT.l5_s]at H
 obtain ⟨J,E⟩:=E.at A
 refine rr E fun a E=>(sq fun K10 hK10=>E.ik 9 H (fun c11 E H=>?_) fun c11 E H=>?_)
 refine wp_skip (hK10 _ _ (sq fun K12 hK12=>wp_block (rr E fun a E=>(sq fun K14 hK14=>pl0 ?_))))
 obtain ⟨c15,H⟩:=gd H
 have hE_:=E
 obtain ⟨ad16,rfl⟩:=g0_0.addr c15.1 c15.2
 replace E:=hE_
 obtain ⟨cs18,⟨A20,c21,rfl,g22⟩,hc19⟩:=g0_0.el qL.z x4 c15.1 c15.2
 refine plc E (.r 0 3<|.x 3 c15<|.cs 4 (S.fcs hc19)<|.nil) (fun a E=>?_)
 obtain ⟨t24,h25,H⟩:=bd H
 refine plq E S en191 (qBj.calls k7 (nth qL.z x x4) x1c0_ _ _ _ _ _ _ _ _ S.own.sub g22 g1c0_1 hp1c0_ h25) fun u23 S a E=>pld (hK14 _ _ (E.ib 16 H (fun c26 E H=>?_) fun c26 E H=>?_))
 refine rr E fun a E=>(wp_ret (qCK (qCJ (qCJ (qCK (qCJ ?_))))))
 obtain rfl:=si H
 exact rt1 E ⟨_,rfl,_,rfl,S⟩
 refine wp_skip ?_
 refine qCL ?_
 refine hK12 _ _ (pl0 (plc E (.r 0 2 .nil) (fun a E=>pld ?_)))
 exact qCM ⟨k7,by omega,_,(w64 (x4+1)),by omega,E,.of,S,H⟩
 refine wp_exit ?_
 refine hK2 _ _ (rr E fun a E=>(wp_ret ?_))
 obtain rfl:=si H
 exact rt1 E ⟨_,rfl,_,rfl,S⟩
def qm.f(k:Nat)(x:List qL)(x1c0_:qL):Option Bool:=(qT.f k x x1c0_).bind fun t4=>(some (decide (t4≥0)))
def qm.Post(W F:World)(r:Bool)(v:Value)(w':World):Prop:=∃(F':World),v = .bool r∧Sm W F w' F' []
theorem qm.calls(k:Nat)(x:List qL)(x1c0_:qL)(A0_0:OA)(c0_0:Nat)(p1c0_:Nat)(A1c0_1:OA)(c1c0_1:Nat)(r:Bool)(W F:World)(hown:Sub F W)(g0_0:Rd qL.k F A0_0 c0_0 x)(g1c0_1:Rd ki F A1c0_1 c1c0_1 x1c0_.f1)(hp1c0_:F.heap[p1c0_]? = some (.cells #[iv x1c0_.f0,.slice A1c0_1 x1c0_.f1.length c1c0_1] 89 (0,0)))(H:qm.f k x x1c0_=some r):
    Cr 190 #[.slice A0_0 x.length c0_0,.func (.func 191) #[] #[.pointer (pb p1c0_)]] W (qm.Post W F r):=by
 have S:=sT hown
 unfold qm.f at H
 refine ent 9 rfl rfl rfl (fun a E=>?_)
 refine rr E fun a E=>(sq fun K2 hK2=>pl0 (plc E (.r 0 2 .nil) (fun a E=>?_)))
 obtain ⟨t4,h5,H⟩:=bd H
 refine plq E S en229 (qT.calls k x x1c0_ _ _ _ _ _ _ _ _ S.own.sub g0_0 g1c0_1 hp1c0_ h5) fun u3 S a E=>plc E (.r 3 2 .nil) (fun a E=>pld (hK2 _ _ (wp_ret ?_)))
 obtain rfl:=si H
 exact rt1 E ⟨_,rfl,_,rfl,S⟩
mutual
def qAK.l9:Nat→qF→qC→Int→Option Bool
 | 0,_,_,_=>none
 | k+1,x,y,x8=>if x8<(y.f1.length:Int) then (if 0≤x8∧x8<(y.f1.length:Int) then ((qBD.f ((nth qL.z y.f1 x8).f0) 0 (w64 (y.f0 - 1))).bind fun t32=>(if t32=true then (if x8>0 then (if 0≤(w64 (x8 - 1))∧(w64 (x8 - 1))<(y.f1.length:Int) then (if (nth qL.z y.f1 x8).f0≤(nth qL.z y.f1 (w64 (x8 - 1))).f0 then (qAK.j51 k x y x8 true) else ((qBD.f (((nth qL.z y.f1 x8).f1).length:Int) x.f2 x.f1).bind fun t45=>(qAK.j51 k x y x8 (!t45)))) else (none)) else ((qBD.f (((nth qL.z y.f1 x8).f1).length:Int) x.f2 x.f1).bind fun t48=>(qAK.j51 k x y x8 (!t48)))) else (qAK.j51 k x y x8 true))) else (none)) else (some true)
def qAK.j51:Nat→qF→qC→Int→Bool→Option Bool
 | 0,_,_,_,_=>none
 | k+1,x,y,x8,y50=>if y50=true then (some false) else (qAK.l61 k x y x8 0)
def qAK.l61:Nat→qF→qC→Int→Int→Option Bool
 | 0,_,_,_,_=>none
 | k+1,x,y,x8,x60=>if x60<(((nth qL.z y.f1 x8).f1).length:Int) then (if 0≤x60∧x60<(((nth qL.z y.f1 x8).f1).length:Int) then ((qBD.f (nth 0 ((nth qL.z y.f1 x8).f1) x60) 1 999).bind fun t77=>(if t77=true then (if x60>0 then (if 0≤(w64 (x60 - 1))∧(w64 (x60 - 1))<(((nth qL.z y.f1 x8).f1).length:Int) then (qAK.j86 k x y x8 x60 (decide ((nth 0 ((nth qL.z y.f1 x8).f1) x60)≤(nth 0 ((nth qL.z y.f1 x8).f1) (w64 (x60 - 1)))))) else (none)) else (qAK.j86 k x y x8 x60 false)) else (qAK.j86 k x y x8 x60 true))) else (none)) else (if 0≤x8∧x8≤(y.f1.length:Int) then ((qm.f k (cutl y.f1 0 x8) (nth qL.z y.f1 x8)).bind fun t100=>(if t100=true then (some false) else (qAK.l9 k x y (w64 (x8+1))))) else (none))
def qAK.j86:Nat→qF→qC→Int→Int→Bool→Option Bool
 | 0,_,_,_,_,_=>none
 | k+1,x,y,x8,x60,y85=>if y85=true then (some false) else (qAK.l61 k x y x8 (w64 (x60+1)))
end
theorem qAK.l9_s k x y x8:type_of% (qAK.l9.eq_2 x y x8 k):=qAK.l9.eq_2 x y x8 k
theorem qAK.j51_s k x y x8 y50:type_of% (qAK.j51.eq_2 x y x8 y50 k):=qAK.j51.eq_2 x y x8 y50 k
theorem qAK.l61_s k x y x8 x60:type_of% (qAK.l61.eq_2 x y x8 x60 k):=qAK.l61.eq_2 x y x8 x60 k
theorem qAK.j86_s k x y x8 x60 y85:type_of% (qAK.j86.eq_2 x y x8 x60 y85 k):=qAK.j86.eq_2 x y x8 x60 y85 k
def qAK.f(k:Nat)(x:qF)(y:qC):Option Bool:=qAK.l9 k x y 0
def qAK.Post(W F:World)(r:Bool)(v:Value)(w':World):Prop:=∃(F':World),v = .bool r∧Sm W F w' F' []
theorem qAK.calls(k:Nat)(x:qF)(y:qC)(A0_4:OA)(c0_4:Nat)(A0_5:OA)(c0_5:Nat)(A0_6:OA)(c0_6:Nat)(A1_1:OA)(c1_1:Nat)(r:Bool)(W F:World)(hown:Sub F W)(g0_4:Rd qA.k F A0_4 c0_4 x.f4)(g0_5:Rd qI.k F A0_5 c0_5 x.f5)(g0_6:Rd qC.k F A0_6 c0_6 x.f6)(g1_1:Rd qL.k F A1_1 c1_1 y.f1)(H:qAK.f k x y=some r):
    Cr 151 #[.agg #[iv x.f0,iv x.f1,iv x.f2,iv x.f3,.slice A0_4 x.f4.length c0_4,.slice A0_5 x.f5.length c0_5,.slice A0_6 x.f6.length c0_6],.agg #[iv y.f0,.slice A1_1 y.f1.length c1_1]] W (qAK.Post W F r):=by
 have S:=sT hown
 unfold qAK.f at H
 refine ent 84 rfl rfl rfl (fun a E=>?_)
 refine sq fun K1 hK1=>pl0 (plx (t:=27) E S [iv x.f0,iv x.f1,iv x.f2,iv x.f3,.slice A0_4 x.f4.length c0_4,.slice A0_5 x.f5.length c0_5,.slice A0_6 x.f6.length c0_6] fun b2 u3 hb2 S a E=>plx (t:=87) E S [iv y.f0,.slice A1_1 y.f1.length c1_1] fun b4 u5 hb4 S a E=>plc E (.r 2 1 .nil) (fun a E=>pld (hK1 _ _ (sq fun K6 hK6=>rg E (.r 0 1<|.b 1 1 hb4<|.r 2 2<|.nil) fun a E=>(wp_block ?_)))))
 refine wp_loop_ghost (fun kq10 a w'=>∃(G:NV)(x8:Int),kq10≤k∧Env 84 G a∧At G [(2,.pointer (pb b2)),(3,.pointer (pb b4)),(10,.slice A1_1 y.f1.length c1_1),(11,iv (y.f1.length:Int)),(12,iv x8)]∧Sm W F w' F [box b4 #[iv y.f0,.slice A1_1 y.f1.length c1_1] 87,box b2 #[iv x.f0,iv x.f1,iv x.f2,iv x.f3,.slice A0_4 x.f4.length c0_4,.slice A0_5 x.f5.length c0_5,.slice A0_6 x.f6.length c0_6] 27]∧qAK.l9 kq10 x y x8=some r) k ⟨_,0,Nat.le_refl _,E,.of,S,H⟩ ?_
 rintro kq10 a u12 ⟨G,x8,hkq,E,A,S,H⟩
 obtain _ | k11:=kq10
 exact zz H
 rw [qAK.l9_s]at H
 obtain ⟨J,E⟩:=E.at A
 refine rr E fun a E=>(sq fun K14 hK14=>E.ik 13 H (fun c15 E H=>?_) fun c15 E H=>?_)
 refine wp_skip (hK14 _ _ (sq fun K16 hK16=>wp_block (sq fun K17 hK17=>pl0 ?_)))
 obtain ⟨c18,H⟩:=gd H
 have hE_:=E
 obtain ⟨ad19,rfl⟩:=g1_1.addr c18.1 c18.2
 replace E:=hE_
 obtain ⟨cs21,⟨A23,c24,rfl,g25⟩,hc22⟩:=g1_1.el qL.z x8 c18.1 c18.2
 refine plc E (.r 0 1<|.x 1 c18<|.cs 2 (S.fcs hc22)<|.nil) (fun a E=>pla (t:=89) E S [iv 0,.slice none 0 0] fun b26 u27 hb26 S a E=>plc E (.r 4 1 .nil) (fun a E=>pls E S [iv ((nth qL.z y.f1 x8).f0),.slice A23 (((nth qL.z y.f1 x8).f1).length) c24] fun u28 hb26 S a E=>pld (hK17 _ _ (sq fun K29 hK29=>sq fun K30 hK30=>?_))))
 have J54:∀ kq52,kq52≤k11→∀(G:NV)(y50:Bool)(a:Act)(w':World),Env 84 G a→At G [(2,.pointer (pb b2)),(3,.pointer (pb b4)),(5,iv x8),(6,.pointer (pb b26)),(10,.slice (some ad19) y.f1.length c1_1),(11,iv (y.f1.length:Int)),(12,iv x8),(50,.bool y50)]→Sm W F w' F [box b26 #[iv ((nth qL.z y.f1 x8).f0),.slice A23 (((nth qL.z y.f1 x8).f1).length) c24] 89,box b4 #[iv y.f0,.slice (some ad19) y.f1.length c1_1] 87,box b2 #[iv x.f0,iv x.f1,iv x.f2,iv x.f3,.slice A0_4 x.f4.length c0_4,.slice A0_5 x.f5.length c0_5,.slice A0_6 x.f6.length c0_6] 27]→qAK.j51 kq52 x y x8 y50=some r→K30 a w':=by
  intro kq52 hkq G y50 a u55 E A S H
  obtain _ | k53:=kq52
  exact zz H
  rw [qAK.j51_s]at H
  obtain ⟨J,E⟩:=E.at A
  refine hK30 _ _ (E.ib 50 H (fun c56 E H=>?_) fun c56 E H=>?_)
  refine rr E fun a E=>(wp_ret (qCJ (qCK (qCJ (qCJ (qCK (qCJ ?_)))))))
  replace S:=S.pm [] 3
  obtain rfl:=si H
  exact rt1 E ⟨_,rfl,_,rfl,S⟩
  refine wp_skip (hK29 _ _ (sq fun K58 hK58=>sq fun K59 hK59=>pl0 ?_))
  have hb26:=S.ba 0
  refine plc E (.r 0 1<|.b 1 1 hb26<|.r 2 2<|.nil) (fun a E=>pld (hK59 _ _ (wp_block ?_)))
  refine wp_loop_ghost (fun kq62 a w'=>∃(G:NV)(x60:Int),kq62≤k53∧Env 84 G a∧At G [(2,.pointer (pb b2)),(3,.pointer (pb b4)),(5,iv x8),(6,.pointer (pb b26)),(10,.slice (some ad19) y.f1.length c1_1),(11,iv (y.f1.length:Int)),(12,iv x8),(52,.slice A23 (((nth qL.z y.f1 x8).f1).length) c24),(53,iv (((nth qL.z y.f1 x8).f1).length:Int)),(54,iv x60)]∧Sm W F w' F [box b26 #[iv ((nth qL.z y.f1 x8).f0),.slice A23 (((nth qL.z y.f1 x8).f1).length) c24] 89,box b4 #[iv y.f0,.slice (some ad19) y.f1.length c1_1] 87,box b2 #[iv x.f0,iv x.f1,iv x.f2,iv x.f3,.slice A0_4 x.f4.length c0_4,.slice A0_5 x.f5.length c0_5,.slice A0_6 x.f6.length c0_6] 27]∧qAK.l61 kq62 x y x8 x60=some r) k53 ⟨_,0,Nat.le_refl _,E,.of,S,H⟩ ?_
  rintro kq62 a u64 ⟨G,x60,hkq,E,A,S,H⟩
  obtain _ | k63:=kq62
  exact zz H
  rw [qAK.l61_s]at H
  obtain ⟨J,E⟩:=E.at A
  refine rr E fun a E=>(sq fun K66 hK66=>E.ik 55 H (fun c67 E H=>?_) fun c67 E H=>?_)
  refine wp_skip (hK66 _ _ (sq fun K68 hK68=>wp_block (sq fun K69 hK69=>pl0 ?_)))
  obtain ⟨c70,H⟩:=gd H
  have hE_:=E
  obtain ⟨ad71,rfl⟩:=g25.addr c70.1 c70.2
  replace E:=hE_
  obtain ⟨cs73,rfl,hc74⟩:=g25.el 0 x60 c70.1 c70.2
  refine plc E (.r 0 1<|.x 1 c70<|.c 2 (S.fc hc74 0)<|.r 3 2<|.nil) (fun a E=>pld (hK69 _ _ (sq fun K75 hK75=>?_)))
  have J89:∀ kq87,kq87≤k63→∀(G:NV)(y85:Bool)(a:Act)(w':World),Env 84 G a→At G [(2,.pointer (pb b2)),(3,.pointer (pb b4)),(5,iv x8),(6,.pointer (pb b26)),(10,.slice (some ad19) y.f1.length c1_1),(11,iv (y.f1.length:Int)),(12,iv x8),(52,.slice (some ad71) (((nth qL.z y.f1 x8).f1).length) c24),(53,iv (((nth qL.z y.f1 x8).f1).length:Int)),(54,iv x60),(75,.bool y85)]→Sm W F w' F [box b26 #[iv ((nth qL.z y.f1 x8).f0),.slice (some ad71) (((nth qL.z y.f1 x8).f1).length) c24] 89,box b4 #[iv y.f0,.slice (some ad19) y.f1.length c1_1] 87,box b2 #[iv x.f0,iv x.f1,iv x.f2,iv x.f3,.slice A0_4 x.f4.length c0_4,.slice A0_5 x.f5.length c0_5,.slice A0_6 x.f6.length c0_6] 27]→qAK.j86 kq87 x y x8 x60 y85=some r→K75 a w':=by
   intro kq87 hkq G y85 a u90 E A S H
   obtain _ | k88:=kq87
   exact zz H
   rw [qAK.j86_s]at H
   obtain ⟨J,E⟩:=E.at A
   refine hK75 _ _ (E.ib 75 H (fun c91 E H=>?_) fun c91 E H=>?_)
   refine rr E fun a E=>(wp_ret (qCK (qCJ (qCJ (qCK (qCJ (qCK (qCJ (qCJ (qCK (qCJ ?_)))))))))))
   replace S:=S.pm [] 3
   obtain rfl:=si H
   exact rt1 E ⟨_,rfl,_,rfl,S⟩
   refine wp_skip ?_
   refine qCL ?_
   refine hK68 _ _ (pl0 (plc E (.r 0 2 .nil) (fun a E=>pld ?_)))
   exact qCM ⟨k88,by omega,_,(w64 (x60+1)),by omega,E,.of,S,H⟩
  refine pl0 (plc E (.r 0 1 .nil) (fun a E=>?_))
  obtain ⟨t77,h78,H⟩:=bd H
  refine plq E S en94 (qBD.calls (nth 0 ((nth qL.z y.f1 x8).f1) x60) 1 999 _ _ _ S.own.sub h78) fun u76 S a E=>plc E (.r 2 2 .nil) (fun a E=>E.fbn 62 H (fun c79 E H=>?_) fun c79 E H=>?_)
  refine plc E (.r 4 3 .nil) (fun a E=>E.fk 65 H (fun c80 E H=>?_) fun c80 E H=>?_)
  have hb26:=S.ba 0
  obtain ⟨c81,H⟩:=gd H
  obtain ⟨cs83,rfl,hc84⟩:=g25.el 0 (w64 (x60 - 1)) c81.1 c81.2
  refine plc E (.r 7 2<|.b 9 1 hb26<|.r 10 2<|.x 12 c81<|.c 13 (S.fc hc84 0)<|.r 14 3<|.nil) (fun a E=>pld ?_)
  exact J89 _ (by omega) _ (decide ((nth 0 ((nth qL.z y.f1 x8).f1) x60)≤(nth 0 ((nth qL.z y.f1 x8).f1) (w64 (x60 - 1))))) _ _ E .of S H
  refine plc E (.r 7 10 .nil) (fun a E=>pld ?_)
  exact J89 _ (by omega) _ false _ _ E .of S H
  refine plc E (.r 4 13 .nil) (fun a E=>pld ?_)
  exact J89 _ (by omega) _ true _ _ E .of S H
  refine wp_exit ?_
  refine hK58 _ _ (sq fun K93 hK93=>pl0 ?_)
  have hb4:=S.ba 1
  obtain ⟨c94,H⟩:=gd H
  obtain ⟨A95,c96,g97,hv98⟩:=qFl (P:=Tryz.prog) g1_1 ⟨Int.le_refl _,c94.1,c94.2⟩ sz89
  refine plc E (.r 0 1<|.b 1 1 hb4<|.r 2 1<|.y 3 (hv98 (by kernel_rfl))<|.r 4 1<|.nil) (fun a E=>?_)
  obtain ⟨t100,h101,H⟩:=bd H
  refine plq E S en190 (qm.calls k63 (cutl y.f1 0 x8) (nth qL.z y.f1 x8) _ _ _ _ _ _ _ _ (Sub.refl _) (g97.mono S.own.sub) (g25.mono S.own.sub) (S.ba 0) h101) fun u99 S a E=>pld (hK93 _ _ (E.ib 82 H (fun c102 E H=>?_) fun c102 E H=>?_))
  refine rr E fun a E=>(wp_ret (qCK (qCJ (qCJ (qCK (qCJ ?_))))))
  replace S:=S.pm [] 3
  obtain rfl:=si H
  exact rt1 E ⟨_,rfl,_,rfl,S⟩
  refine wp_skip ?_
  refine qCL ?_
  refine hK16 _ _ (pl0 (plc E (.r 0 2 .nil) (fun a E=>pld ?_)))
  replace S:=S.tail
  exact qCM ⟨k63,by omega,_,(w64 (x8+1)),by omega,E,.of,S,H⟩
 refine drawn 34 ⟨[],[],fun q=>False⟩ mixed rfl (by kernel_rfl) (fun hst=>?_)
 replace S:=S.drew
 have hb26:=S.ba 0
 have hb4:=S.ba 1
 refine mny 29 hst E (.r 0 1<|.b 1 0 hb26<|.r 2 1<|.b 3 0 hb4<|.r 4 1<|.nil) (fun a E=>?_)
 obtain ⟨t32,h33,H⟩:=bd H
 refine on1 5 E (.cl en94 (qBD.calls ((nth qL.z y.f1 x8).f0) 0 (w64 (y.f0 - 1)) _ _ _ S.own.sub h33)) ?_
 rintro _ u31 a ⟨_,rfl,hC⟩ E
 refine ⟨.of hC.agr,?_⟩
 replace S:=S.lent hC
 refine mny 26 hst E (.r 6 2 .nil) (fun a E=>?_)
 refine E.fbn 24 H (fun c34 E H=>?_) fun c34 E H=>?_
 refine mny 23 hst E (.r 8 3 .nil) (fun a E=>?_)
 refine E.fk 27 H (fun c35 E H=>?_) fun c35 E H=>?_
 have hb26:=S.ba 0
 have hb4:=S.ba 1
 obtain ⟨c36,H⟩:=gd H
 obtain ⟨cs38,⟨A40,c41,rfl,g42⟩,hc39⟩:=g1_1.el qL.z (w64 (x8 - 1)) c36.1 c36.2
 refine mny 10 hst E (.r 11 1<|.b 12 0 hb26<|.r 13 1<|.b 14 1 hb4<|.r 15 2<|.x 17 c36<|.r 18 1<|.c 19 (S.fc hc39 0)<|.r 20 4<|.nil) (fun a E=>?_)
 refine E.fk 40 H (fun c43 E H=>?_) fun c43 E H=>?_
 refine mny 0 hst E (.r 24 10 .nil) (fun a E=>?_)
 refine dn ?_
 exact J54 _ (by omega) _ true _ _ E .of S H
 have hb2:=S.ba 2
 refine mny 3 hst E (.r 24 1<|.b 25 1 hb26<|.r 26 2<|.b 28 2 hb2<|.r 29 1<|.b 30 1 hb2<|.nil) (fun a E=>?_)
 obtain ⟨t45,h46,H⟩:=bd H
 refine on1 31 E (.cl en94 (qBD.calls (((nth qL.z y.f1 x8).f1).length:Int) x.f2 x.f1 _ _ _ S.own.sub h46)) ?_
 rintro _ u44 a ⟨_,rfl,hC⟩ E
 refine ⟨.of hC.agr,?_⟩
 replace S:=S.lent hC
 refine mny 0 hst E (.r 32 2 .nil) (fun a E=>?_)
 refine dn ?_
 exact J54 _ (by omega) _ (!t45) _ _ E .of S H
 have hb26:=S.ba 0
 have hb2:=S.ba 2
 refine mny 3 hst E (.r 11 14<|.b 25 1 hb26<|.r 26 2<|.b 28 2 hb2<|.r 29 1<|.b 30 1 hb2<|.nil) (fun a E=>?_)
 obtain ⟨t48,h49,H⟩:=bd H
 refine on1 31 E (.cl en94 (qBD.calls (((nth qL.z y.f1 x8).f1).length:Int) x.f2 x.f1 _ _ _ S.own.sub h49)) ?_
 rintro _ u47 a ⟨_,rfl,hC⟩ E
 refine ⟨.of hC.agr,?_⟩
 replace S:=S.lent hC
 refine mny 0 hst E (.r 32 2 .nil) (fun a E=>?_)
 refine dn ?_
 exact J54 _ (by omega) _ (!t48) _ _ E .of S H
 refine mny 0 hst E (.r 8 26 .nil) (fun a E=>?_)
 refine dn ?_
 exact J54 _ (by omega) _ true _ _ E .of S H
 refine wp_exit ?_
 refine hK6 _ _ (rr E fun a E=>(wp_ret ?_))
 replace S:=S.pm [] 2
 obtain rfl:=si H
 exact rt1 E ⟨_,rfl,_,rfl,S⟩
mutual
def qAe.l11:Nat→qF→Int→Option Int
 | 0,_,_=>none
 | k+1,x,x10=>if x10<(x.f6.length:Int) then (if 0≤x10∧x10<(x.f6.length:Int) then ((qBD.f ((nth qC.z x.f6 x10).f0) 0 x.f0).bind fun t33=>(if t33=true then ((qAK.f k x (nth qC.z x.f6 x10)).bind fun t37=>(qAe.j40 k x x10 (!t37))) else (qAe.j40 k x x10 true))) else (none)) else (some 0)
def qAe.j40:Nat→qF→Int→Bool→Option Int
 | 0,_,_,_=>none
 | k+1,x,x10,y39=>if y39=true then (some 1) else (qAe.l11 k x (w64 (x10+1)))
end
theorem qAe.l11_s k x x10:type_of% (qAe.l11.eq_2 x x10 k):=qAe.l11.eq_2 x x10 k
theorem qAe.j40_s k x x10 y39:type_of% (qAe.j40.eq_2 x x10 y39 k):=qAe.j40.eq_2 x x10 y39 k
def qAe.f(k:Nat)(x:qF):Option Int:=if (x.f6.length:Int)=x.f3 then (qAe.l11 k x 0) else (some 1)
def qAe.Post(W F:World)(r:Int)(v:Value)(w':World):Prop:=∃(F':World),v=iv r∧Sm W F w' F' []
theorem qAe.calls(k:Nat)(x:qF)(A0_4:OA)(c0_4:Nat)(A0_5:OA)(c0_5:Nat)(A0_6:OA)(c0_6:Nat)(r:Int)(W F:World)(hown:Sub F W)(g0_4:Rd qA.k F A0_4 c0_4 x.f4)(g0_5:Rd qI.k F A0_5 c0_5 x.f5)(g0_6:Rd qC.k F A0_6 c0_6 x.f6)(H:qAe.f k x=some r):
    Cr 97 #[.agg #[iv x.f0,iv x.f1,iv x.f2,iv x.f3,.slice A0_4 x.f4.length c0_4,.slice A0_5 x.f5.length c0_5,.slice A0_6 x.f6.length c0_6]] W (qAe.Post W F r):=by
 have S:=sT hown
 unfold qAe.f at H
 refine ent 31 rfl rfl rfl (fun a E=>?_)
 refine sq fun K1 hK1=>pl0 (plx (t:=27) E S [iv x.f0,iv x.f1,iv x.f2,iv x.f3,.slice A0_4 x.f4.length c0_4,.slice A0_5 x.f5.length c0_5,.slice A0_6 x.f6.length c0_6] fun b2 u3 hb2 S a E=>plc E (.r 1 1 .nil) (fun a E=>pld (hK1 _ _ (sq fun K4 hK4=>rg E (.r 0 1<|.b 1 6 hb2<|.r 2 2<|.b 4 3 hb2<|.r 5 1<|.nil) fun a E=>(E.ikn 10 H (fun c6 E H=>?_) fun c6 E H=>?_)))))
 refine wp_skip (hK4 _ _ (sq fun K8 hK8=>rg E (.r 0 1<|.b 1 6 hb2<|.r 2 2<|.nil) fun a E=>(wp_block ?_)))
 refine wp_loop_ghost (fun kq12 a w'=>∃(G:NV)(x10:Int),kq12≤k∧Env 31 G a∧At G [(1,.pointer (pb b2)),(12,.slice A0_6 x.f6.length c0_6),(13,iv (x.f6.length:Int)),(14,iv x10)]∧Sm W F w' F [box b2 #[iv x.f0,iv x.f1,iv x.f2,iv x.f3,.slice A0_4 x.f4.length c0_4,.slice A0_5 x.f5.length c0_5,.slice A0_6 x.f6.length c0_6] 27]∧qAe.l11 kq12 x x10=some r) k ⟨_,0,Nat.le_refl _,E,.of,S,H⟩ ?_
 rintro kq12 a u14 ⟨G,x10,hkq,E,A,S,H⟩
 obtain _ | k13:=kq12
 exact zz H
 rw [qAe.l11_s]at H
 obtain ⟨J,E⟩:=E.at A
 refine rr E fun a E=>(sq fun K16 hK16=>E.ik 15 H (fun c17 E H=>?_) fun c17 E H=>?_)
 refine wp_skip (hK16 _ _ (sq fun K18 hK18=>wp_block (sq fun K19 hK19=>pl0 ?_)))
 obtain ⟨c20,H⟩:=gd H
 have hE_:=E
 obtain ⟨ad21,rfl⟩:=g0_6.addr c20.1 c20.2
 replace E:=hE_
 obtain ⟨cs23,⟨A25,c26,rfl,g27⟩,hc24⟩:=g0_6.el qC.z x10 c20.1 c20.2
 refine plc E (.x 0 c20<|.cs 1 (S.fcs hc24)<|.nil) (fun a E=>pla (t:=87) E S [iv 0,.slice none 0 0] fun b28 u29 hb28 S a E=>pls E S [iv ((nth qC.z x.f6 x10).f0),.slice A25 (((nth qC.z x.f6 x10).f1).length) c26] fun u30 hb28 S a E=>pld (hK19 _ _ (sq fun K31 hK31=>?_)))
 have J43:∀ kq41,kq41≤k13→∀(G:NV)(y39:Bool)(a:Act)(w':World),Env 31 G a→At G [(1,.pointer (pb b2)),(12,.slice (some ad21) x.f6.length c0_6),(13,iv (x.f6.length:Int)),(14,iv x10),(29,.bool y39)]→Sm W F w' F [box b28 #[iv ((nth qC.z x.f6 x10).f0),.slice A25 (((nth qC.z x.f6 x10).f1).length) c26] 87,box b2 #[iv x.f0,iv x.f1,iv x.f2,iv x.f3,.slice A0_4 x.f4.length c0_4,.slice A0_5 x.f5.length c0_5,.slice (some ad21) x.f6.length c0_6] 27]→qAe.j40 kq41 x x10 y39=some r→K31 a w':=by
  intro kq41 hkq G y39 a u44 E A S H
  obtain _ | k42:=kq41
  exact zz H
  rw [qAe.j40_s]at H
  obtain ⟨J,E⟩:=E.at A
  refine hK31 _ _ (E.ib 29 H (fun c45 E H=>?_) fun c45 E H=>?_)
  refine rr E fun a E=>(wp_ret (qCK (qCJ (qCJ (qCK (qCJ ?_))))))
  replace S:=S.pm [] 2
  obtain rfl:=si H
  exact rt1 E ⟨_,rfl,_,rfl,S⟩
  refine wp_skip ?_
  refine qCL ?_
  refine hK18 _ _ (pl0 (plc E (.r 0 2 .nil) (fun a E=>pld ?_)))
  replace S:=S.tail
  exact qCM ⟨k42,by omega,_,(w64 (x10+1)),by omega,E,.of,S,H⟩
 refine pl0 ?_
 have hb2:=S.ba 1
 refine plc E (.r 0 1<|.b 1 0 hb28<|.r 2 1<|.b 3 0 hb2<|.nil) (fun a E=>?_)
 obtain ⟨t33,h34,H⟩:=bd H
 refine plq E S en94 (qBD.calls ((nth qC.z x.f6 x10).f0) 0 x.f0 _ _ _ S.own.sub h34) fun u32 S a E=>plc E (.r 5 2 .nil) (fun a E=>E.fbn 24 H (fun c35 E H=>?_) fun c35 E H=>?_)
 refine plc E (.bn 7 0 7 (S.ba 1)<|.bn 8 0 2 (S.ba 0)<|.nil) (fun a E=>?_)
 obtain ⟨t37,h38,H⟩:=bd H
 refine plq E S en151 (qAK.calls k13 x (nth qC.z x.f6 x10) _ _ _ _ _ _ _ _ _ _ _ S.own.sub g0_4 g0_5 g0_6 g27 h38) fun u36 S a E=>plc E (.r 10 2 .nil) (fun a E=>pld ?_)
 exact J43 _ (by omega) _ (!t37) _ _ E .of S H
 refine plc E (.r 7 5 .nil) (fun a E=>pld ?_)
 exact J43 _ (by omega) _ true _ _ E .of S H
 refine wp_exit ?_
 refine hK8 _ _ (rr E fun a E=>(wp_ret ?_))
 replace S:=S.tail
 obtain rfl:=si H
 exact rt1 E ⟨_,rfl,_,rfl,S⟩
 refine rr E fun a E=>(wp_ret (qCJ ?_))
 replace S:=S.tail
 obtain rfl:=si H
 exact rt1 E ⟨_,rfl,_,rfl,S⟩
mutual
def qt.j26:Nat→qF→Bool→Option Int
 | 0,_,_=>none
 | k+1,x,y25=>if y25=true then (some 1) else (qt.l36 k x 0)
def qt.l36:Nat→qF→Int→Option Int
 | 0,_,_=>none
 | k+1,x,x35=>if x35<(x.f5.length:Int) then (if 0≤x35∧x35<(x.f5.length:Int) then ((qBD.f ((nth qI.z x.f5 x35).f0) 0 (w64 (x.f3 - 1))).bind fun t58=>(if t58=true then (if x35>0 then (if 0≤(w64 (x35 - 1))∧(w64 (x35 - 1))<(x.f5.length:Int) then (if (nth qI.z x.f5 x35).f0≤(nth qI.z x.f5 (w64 (x35 - 1))).f0 then (qt.j85 k x x35 true) else ((qBD.f (((nth qI.z x.f5 x35).f1).length:Int) 1 x.f1).bind fun t71=>(if t71=true then ((qAM.f k x.f4 ((nth qI.z x.f5 x35).f1)).bind fun t75=>(qt.j85 k x x35 (!t75))) else (qt.j85 k x x35 true)))) else (none)) else ((qBD.f (((nth qI.z x.f5 x35).f1).length:Int) 1 x.f1).bind fun t78=>(if t78=true then ((qAM.f k x.f4 ((nth qI.z x.f5 x35).f1)).bind fun t82=>(qt.j85 k x x35 (!t82))) else (qt.j85 k x x35 true)))) else (qt.j85 k x x35 true))) else (none)) else ((qAe.f k x).bind fun t94=>(some t94))
def qt.j85:Nat→qF→Int→Bool→Option Int
 | 0,_,_,_=>none
 | k+1,x,x35,y84=>if y84=true then (some 1) else (qt.l36 k x (w64 (x35+1)))
end
theorem qt.j26_s k x y25:type_of% (qt.j26.eq_2 x y25 k):=qt.j26.eq_2 x y25 k
theorem qt.l36_s k x x35:type_of% (qt.l36.eq_2 x x35 k):=qt.l36.eq_2 x x35 k
theorem qt.j85_s k x x35 y84:type_of% (qt.j85.eq_2 x x35 y84 k):=qt.j85.eq_2 x x35 y84 k
def qt.f(k:Nat)(x:qF):Option Int:=(qBD.f x.f0 0 2147483647).bind fun t7=>(if t7=true then ((qBD.f x.f1 1 3).bind fun t11=>(if t11=true then ((qBD.f x.f2 1 x.f1).bind fun t15=>(if t15=true then ((qBD.f x.f3 1 8).bind fun t19=>(if t19=true then ((qAI.f k x.f4).bind fun t23=>(qt.j26 k x (!(t23 == 0)))) else (qt.j26 k x true))) else (qt.j26 k x true))) else (qt.j26 k x true))) else (qt.j26 k x true))
def qt.Post(W F:World)(r:Int)(v:Value)(w':World):Prop:=∃(F':World),v=iv r∧Sm W F w' F' []
theorem qt.calls(k:Nat)(x:qF)(A0_4:OA)(c0_4:Nat)(A0_5:OA)(c0_5:Nat)(A0_6:OA)(c0_6:Nat)(r:Int)(W F:World)(hown:Sub F W)(g0_4:Rd qA.k F A0_4 c0_4 x.f4)(g0_5:Rd qI.k F A0_5 c0_5 x.f5)(g0_6:Rd qC.k F A0_6 c0_6 x.f6)(H:qt.f k x=some r):
    Cr 37 #[.agg #[iv x.f0,iv x.f1,iv x.f2,iv x.f3,.slice A0_4 x.f4.length c0_4,.slice A0_5 x.f5.length c0_5,.slice A0_6 x.f6.length c0_6]] W (qt.Post W F r):=by
 have S:=sT hown
 unfold qt.f at H
 refine ent 86 rfl rfl rfl (fun a E=>?_)
 refine sq fun K1 hK1=>pl0 (plx (t:=27) E S [iv x.f0,iv x.f1,iv x.f2,iv x.f3,.slice A0_4 x.f4.length c0_4,.slice A0_5 x.f5.length c0_5,.slice A0_6 x.f6.length c0_6] fun b2 u3 hb2 S a E=>plc E (.r 1 1 .nil) (fun a E=>pld (hK1 _ _ (sq fun K4 hK4=>sq fun K5 hK5=>?_))))
 have J29:∀ kq27,kq27≤k→∀(G:NV)(y25:Bool)(a:Act)(w':World),Env 86 G a→At G [(1,.pointer (pb b2)),(34,.bool y25)]→Sm W F w' F [box b2 #[iv x.f0,iv x.f1,iv x.f2,iv x.f3,.slice A0_4 x.f4.length c0_4,.slice A0_5 x.f5.length c0_5,.slice A0_6 x.f6.length c0_6] 27]→qt.j26 kq27 x y25=some r→K5 a w':=by
  intro kq27 hkq G y25 a u30 E A S H
  obtain _ | k28:=kq27
  exact zz H
  rw [qt.j26_s]at H
  obtain ⟨J,E⟩:=E.at A
  refine hK5 _ _ (E.ib 34 H (fun c31 E H=>?_) fun c31 E H=>?_)
  refine rr E fun a E=>(wp_ret (qCJ ?_))
  replace S:=S.tail
  obtain rfl:=si H
  exact rt1 E ⟨_,rfl,_,rfl,S⟩
  refine wp_skip (hK4 _ _ (sq fun K33 hK33=>sq fun K34 hK34=>pl0 ?_))
  have hb2:=S.ba 0
  refine plc E (.r 0 1<|.b 1 5 hb2<|.r 2 2<|.nil) (fun a E=>pld (hK34 _ _ (wp_block ?_)))
  refine wp_loop_ghost (fun kq37 a w'=>∃(G:NV)(x35:Int),kq37≤k28∧Env 86 G a∧At G [(1,.pointer (pb b2)),(36,.slice A0_5 x.f5.length c0_5),(37,iv (x.f5.length:Int)),(38,iv x35)]∧Sm W F w' F [box b2 #[iv x.f0,iv x.f1,iv x.f2,iv x.f3,.slice A0_4 x.f4.length c0_4,.slice A0_5 x.f5.length c0_5,.slice A0_6 x.f6.length c0_6] 27]∧qt.l36 kq37 x x35=some r) k28 ⟨_,0,Nat.le_refl _,E,.of,S,H⟩ ?_
  rintro kq37 a u39 ⟨G,x35,hkq,E,A,S,H⟩
  obtain _ | k38:=kq37
  exact zz H
  rw [qt.l36_s]at H
  obtain ⟨J,E⟩:=E.at A
  refine rr E fun a E=>(sq fun K41 hK41=>E.ik 39 H (fun c42 E H=>?_) fun c42 E H=>?_)
  refine wp_skip (hK41 _ _ (sq fun K43 hK43=>wp_block (sq fun K44 hK44=>pl0 ?_)))
  obtain ⟨c45,H⟩:=gd H
  have hE_:=E
  obtain ⟨ad46,rfl⟩:=g0_5.addr c45.1 c45.2
  replace E:=hE_
  obtain ⟨cs48,⟨A50,c51,rfl,g52⟩,hc49⟩:=g0_5.el qI.z x35 c45.1 c45.2
  refine plc E (.r 0 1<|.x 1 c45<|.cs 2 (S.fcs hc49)<|.nil) (fun a E=>pla (t:=84) E S [iv 0,.slice none 0 0] fun b53 u54 hb53 S a E=>plc E (.r 4 1 .nil) (fun a E=>pls E S [iv ((nth qI.z x.f5 x35).f0),.slice A50 (((nth qI.z x.f5 x35).f1).length) c51] fun u55 hb53 S a E=>pld (hK44 _ _ (sq fun K56 hK56=>?_))))
  have J88:∀ kq86,kq86≤k38→∀(G:NV)(y84:Bool)(a:Act)(w':World),Env 86 G a→At G [(1,.pointer (pb b2)),(36,.slice (some ad46) x.f5.length c0_5),(37,iv (x.f5.length:Int)),(38,iv x35),(82,.bool y84)]→Sm W F w' F [box b53 #[iv ((nth qI.z x.f5 x35).f0),.slice A50 (((nth qI.z x.f5 x35).f1).length) c51] 84,box b2 #[iv x.f0,iv x.f1,iv x.f2,iv x.f3,.slice A0_4 x.f4.length c0_4,.slice (some ad46) x.f5.length c0_5,.slice A0_6 x.f6.length c0_6] 27]→qt.j85 kq86 x x35 y84=some r→K56 a w':=by
   intro kq86 hkq G y84 a u89 E A S H
   obtain _ | k87:=kq86
   exact zz H
   rw [qt.j85_s]at H
   obtain ⟨J,E⟩:=E.at A
   refine hK56 _ _ (E.ib 82 H (fun c90 E H=>?_) fun c90 E H=>?_)
   refine rr E fun a E=>(wp_ret (qCK (qCJ (qCJ (qCK (qCJ ?_))))))
   replace S:=S.pm [] 2
   obtain rfl:=si H
   exact rt1 E ⟨_,rfl,_,rfl,S⟩
   refine wp_skip ?_
   refine qCL ?_
   refine hK43 _ _ (pl0 (plc E (.r 0 2 .nil) (fun a E=>pld ?_)))
   replace S:=S.tail
   exact qCM ⟨k87,by omega,_,(w64 (x35+1)),by omega,E,.of,S,H⟩
  refine drawn 40 ⟨[],[],fun q=>False⟩ mixed rfl (by kernel_rfl) (fun hst=>?_)
  replace S:=S.drew
  have hb53:=S.ba 0
  have hb2:=S.ba 1
  refine mny 35 hst E (.r 0 1<|.b 1 0 hb53<|.r 2 1<|.b 3 3 hb2<|.r 4 1<|.nil) (fun a E=>?_)
  obtain ⟨t58,h59,H⟩:=bd H
  refine on1 5 E (.cl en94 (qBD.calls ((nth qI.z x.f5 x35).f0) 0 (w64 (x.f3 - 1)) _ _ _ S.own.sub h59)) ?_
  rintro _ u57 a ⟨_,rfl,hC⟩ E
  refine ⟨.of hC.agr,?_⟩
  replace S:=S.lent hC
  refine mny 32 hst E (.r 6 2 .nil) (fun a E=>?_)
  refine E.fbn 50 H (fun c60 E H=>?_) fun c60 E H=>?_
  refine mny 29 hst E (.r 8 3 .nil) (fun a E=>?_)
  refine E.fk 53 H (fun c61 E H=>?_) fun c61 E H=>?_
  have hb53:=S.ba 0
  have hb2:=S.ba 1
  obtain ⟨c62,H⟩:=gd H
  obtain ⟨cs64,⟨A66,c67,rfl,g68⟩,hc65⟩:=g0_5.el qI.z (w64 (x35 - 1)) c62.1 c62.2
  refine mny 16 hst E (.r 11 1<|.b 12 0 hb53<|.r 13 1<|.b 14 5 hb2<|.r 15 2<|.x 17 c62<|.r 18 1<|.c 19 (S.fc hc65 0)<|.r 20 4<|.nil) (fun a E=>?_)
  refine E.fk 66 H (fun c69 E H=>?_) fun c69 E H=>?_
  refine mny 0 hst E (.r 24 16 .nil) (fun a E=>?_)
  refine dn ?_
  exact J88 _ (by omega) _ true _ _ E .of S H
  refine mny 11 hst E (.r 24 1<|.b 25 1 hb53<|.r 26 2<|.b 28 1 hb2<|.nil) (fun a E=>?_)
  obtain ⟨t71,h72,H⟩:=bd H
  refine on1 29 E (.cl en94 (qBD.calls (((nth qI.z x.f5 x35).f1).length:Int) 1 x.f1 _ _ _ S.own.sub h72)) ?_
  rintro _ u70 a ⟨_,rfl,hC⟩ E
  refine ⟨.of hC.agr,?_⟩
  replace S:=S.lent hC
  refine mny 7 hst E (.r 30 3 .nil) (fun a E=>?_)
  refine E.fbn 75 H (fun c73 E H=>?_) fun c73 E H=>?_
  have hb2:=S.ba 1
  have hb53:=S.ba 0
  refine mny 3 hst E (.r 33 1<|.b 34 4 hb2<|.r 35 1<|.b 36 1 hb53<|.nil) (fun a E=>?_)
  obtain ⟨t75,h76,H⟩:=bd H
  refine on1 37 E (.cl en96 (qAM.calls k38 x.f4 ((nth qI.z x.f5 x35).f1) _ _ _ _ _ _ _ S.own.sub g0_4 g52 h76)) ?_
  rintro _ u74 a ⟨_,rfl,hC⟩ E
  refine ⟨.of hC.agr,?_⟩
  replace S:=S.lent hC
  refine mny 0 hst E (.r 38 2 .nil) (fun a E=>?_)
  refine dn ?_
  exact J88 _ (by omega) _ (!t75) _ _ E .of S H
  refine mny 0 hst E (.r 33 7 .nil) (fun a E=>?_)
  refine dn ?_
  exact J88 _ (by omega) _ true _ _ E .of S H
  have hb53:=S.ba 0
  have hb2:=S.ba 1
  refine mny 11 hst E (.r 11 14<|.b 25 1 hb53<|.r 26 2<|.b 28 1 hb2<|.nil) (fun a E=>?_)
  obtain ⟨t78,h79,H⟩:=bd H
  refine on1 29 E (.cl en94 (qBD.calls (((nth qI.z x.f5 x35).f1).length:Int) 1 x.f1 _ _ _ S.own.sub h79)) ?_
  rintro _ u77 a ⟨_,rfl,hC⟩ E
  refine ⟨.of hC.agr,?_⟩
  replace S:=S.lent hC
  refine mny 7 hst E (.r 30 3 .nil) (fun a E=>?_)
  refine E.fbn 75 H (fun c80 E H=>?_) fun c80 E H=>?_
  have hb2:=S.ba 1
  have hb53:=S.ba 0
  refine mny 3 hst E (.r 33 1<|.b 34 4 hb2<|.r 35 1<|.b 36 1 hb53<|.nil) (fun a E=>?_)
  obtain ⟨t82,h83,H⟩:=bd H
  refine on1 37 E (.cl en96 (qAM.calls k38 x.f4 ((nth qI.z x.f5 x35).f1) _ _ _ _ _ _ _ S.own.sub g0_4 g52 h83)) ?_
  rintro _ u81 a ⟨_,rfl,hC⟩ E
  refine ⟨.of hC.agr,?_⟩
  replace S:=S.lent hC
  refine mny 0 hst E (.r 38 2 .nil) (fun a E=>?_)
  refine dn ?_
  exact J88 _ (by omega) _ (!t82) _ _ E .of S H
  refine mny 0 hst E (.r 33 7 .nil) (fun a E=>?_)
  refine dn ?_
  exact J88 _ (by omega) _ true _ _ E .of S H
  refine mny 0 hst E (.r 8 32 .nil) (fun a E=>?_)
  refine dn ?_
  exact J88 _ (by omega) _ true _ _ E .of S H
  refine wp_exit ?_
  refine hK33 _ _ (sq fun K92 hK92=>pl0 (plc E (.bn 0 0 7 (S.ba 0) .nil) (fun a E=>?_)))
  obtain ⟨t94,h95,H⟩:=bd H
  refine plq E S en97 (qAe.calls k38 x _ _ _ _ _ _ _ _ _ S.own.sub g0_4 g0_5 g0_6 h95) fun u93 S a E=>plc E (.r 2 1 .nil) (fun a E=>pld (hK92 _ _ (wp_ret ?_)))
  replace S:=S.tail
  obtain rfl:=si H
  exact rt1 E ⟨_,rfl,_,rfl,S⟩
 refine pl0 (plc E (.r 0 1<|.b 1 0 hb2<|.nil) (fun a E=>?_))
 obtain ⟨t7,h8,H⟩:=bd H
 refine plq E S en94 (qBD.calls x.f0 0 2147483647 _ _ _ S.own.sub h8) fun u6 S a E=>plc E (.r 3 2 .nil) (fun a E=>E.fbn 9 H (fun c9 E H=>?_) fun c9 E H=>?_)
 have hb2:=S.ba 0
 refine plc E (.r 5 1<|.b 6 1 hb2<|.nil) (fun a E=>?_)
 obtain ⟨t11,h12,H⟩:=bd H
 refine plq E S en94 (qBD.calls x.f1 1 3 _ _ _ S.own.sub h12) fun u10 S a E=>plc E (.r 8 3 .nil) (fun a E=>E.fbn 15 H (fun c13 E H=>?_) fun c13 E H=>?_)
 have hb2:=S.ba 0
 refine plc E (.r 11 1<|.b 12 2 hb2<|.r 13 1<|.b 14 1 hb2<|.nil) (fun a E=>?_)
 obtain ⟨t15,h16,H⟩:=bd H
 refine plq E S en94 (qBD.calls x.f2 1 x.f1 _ _ _ S.own.sub h16) fun u14 S a E=>plc E (.r 16 3 .nil) (fun a E=>E.fbn 23 H (fun c17 E H=>?_) fun c17 E H=>?_)
 have hb2:=S.ba 0
 refine plc E (.r 19 1<|.b 20 3 hb2<|.nil) (fun a E=>?_)
 obtain ⟨t19,h20,H⟩:=bd H
 refine plq E S en94 (qBD.calls x.f3 1 8 _ _ _ S.own.sub h20) fun u18 S a E=>plc E (.r 22 3 .nil) (fun a E=>E.fbn 29 H (fun c21 E H=>?_) fun c21 E H=>?_)
 refine plc E (.r 25 1<|.b 26 4 (S.ba 0)<|.nil) (fun a E=>?_)
 obtain ⟨t23,h24,H⟩:=bd H
 refine plq E S en95 (qAI.calls k x.f4 _ _ _ _ _ S.own.sub g0_4 h24) fun u22 S a E=>plc E (.r 28 2 .nil) (fun a E=>pld ?_)
 exact J29 _ (by omega) _ (!(t23 == 0)) _ _ E .of S H
 refine plc E (.r 25 5 .nil) (fun a E=>pld ?_)
 exact J29 _ (by omega) _ true _ _ E .of S H
 refine plc E (.r 19 11 .nil) (fun a E=>pld ?_)
 exact J29 _ (by omega) _ true _ _ E .of S H
 refine plc E (.r 11 19 .nil) (fun a E=>pld ?_)
 exact J29 _ (by omega) _ true _ _ E .of S H
 refine plc E (.r 5 25 .nil) (fun a E=>pld ?_)
 exact J29 _ (by omega) _ true _ _ E .of S H
def qCE.f(k:Nat)(x:Int)(y:Int)(z:Int):Option (qF × Int):=if 0≤(if (if 8<z then 8 else z)>0 then (if 8<z then 8 else z) else 0)∧(if (if 8<z then 8 else z)>0 then (if 8<z then 8 else z) else 0) * 32≤140737488355328 then ((qt.f k (⟨0,x,y,z,[],[],(List.replicate ((if (if 8<z then 8 else z)>0 then (if 8<z then 8 else z) else 0)).toNat (qC.z:qC))⟩:qF)).bind fun t16=>(if t16=0 then (some ((⟨0,x,y,z,[],[],(List.replicate ((if (if 8<z then 8 else z)>0 then (if 8<z then 8 else z) else 0)).toNat (qC.z:qC))⟩:qF),0)) else (some ((⟨0,0,0,0,[],[],[]⟩:qF),t16)))) else (none)
def qCE.Post(W F:World)(r:qF × Int)(v:Value)(w':World):Prop:=∃(F':World)(RA0_4:OA)(rc0_4:Nat)(RA0_5:OA)(rc0_5:Nat)(RA0_6:OA)(rc0_6:Nat),v = .tuple #[.agg #[iv r.1.f0,iv r.1.f1,iv r.1.f2,iv r.1.f3,.slice RA0_4 r.1.f4.length rc0_4,.slice RA0_5 r.1.f5.length rc0_5,.slice RA0_6 r.1.f6.length rc0_6],iv r.2]∧Sm W F w' F' [row qC.k 87 (.slice RA0_6 r.1.f6.length rc0_6) r.1.f6]∧Rd qA.k F' RA0_4 rc0_4 r.1.f4∧Rd qI.k F' RA0_5 rc0_5 r.1.f5
theorem qCE.calls(k:Nat)(x:Int)(y:Int)(z:Int)(r:qF × Int)(W F:World)(hown:Sub F W)(H:qCE.f k x y z=some r):
    Cr 112 #[iv x,iv y,iv z] W (qCE.Post W F r):=by
 have S:=sT hown
 unfold qCE.f at H
 refine ent 25 rfl rfl rfl (fun a E=>?_)
 refine sq fun K1 hK1=>pl0 (pla (t:=27) E S [iv 0,iv 0,iv 0,iv 0,.slice none 0 0,.slice none 0 0,.slice none 0 0] fun b2 u3 hb2 S a E=>plc E (.r 1 1 .nil) (fun a E=>pld (hK1 _ _ (sq fun K4 hK4=>pl0 (plc E (.r 0 6 .nil) (fun a E=>?_))))))
 obtain ⟨c5,H⟩:=gd H
 refine ple E (.mk (d:=qC.k) (e:=87) 32 qC.z S c5 (by rw [zr87]; exact ⟨none,0,rfl,Rd.nil _ _⟩)) ?_
 rintro _ u8 a ⟨A6,c7,rfl,S,hg⟩ E
 refine plc E (.r 7 1 .nil) (fun a E=>pla (t:=27) E S [iv 0,iv 0,iv 0,iv 0,.slice none 0 0,.slice none 0 0,.slice none 0 0] fun b10 u11 hb10 S a E=>pls E S [iv 0,iv x,iv y,iv z,.slice none 0 0,.slice none 0 0,.slice A6 ((List.replicate ((if (if 8<z then 8 else z)>0 then (if 8<z then 8 else z) else 0)).toNat (qC.z:qC)).length) c7] fun u12 hb10 S a E=>pld (hK4 _ _ (sq fun K13 hK13=>sq fun K14 hK14=>pl0 (plc E (.bn 0 0 7 hb10 .nil) (fun a E=>?_)))))
 obtain ⟨t16,h17,H⟩:=bd H
 refine plq E S en37 (qt.calls k (⟨0,x,y,z,[],[],(List.replicate ((if (if 8<z then 8 else z)>0 then (if 8<z then 8 else z) else 0)).toNat (qC.z:qC))⟩:qF) _ _ _ _ _ _ _ _ _ (Sub.refl _) (Rd.nil _ _) (Rd.nil _ _) (S.rd_at (i:=1) rfl) h17) fun u15 S a E=>plc E (.r 2 1 .nil) (fun a E=>pld (hK14 _ _ (rr E fun a E=>(E.ikn 21 H (fun c19 E H=>?_) fun c19 E H=>?_))))
 refine wp_skip (hK13 _ _ (sq fun K23 hK23=>pl0 (plc E (.bn 0 0 7 (S.ba 0) .nil) (fun a E=>?_))))
 replace S:=S.front 2 rfl
 refine pls E S [iv 0,iv x,iv y,iv z,.slice none 0 0,.slice none 0 0,.slice A6 ((List.replicate ((if (if 8<z then 8 else z)>0 then (if 8<z then 8 else z) else 0)).toNat (qC.z:qC)).length) c7] fun u24 hb2 S a E=>plc E (.r 2 1 .nil) (fun a E=>pld (hK23 _ _ (wp_ret ?_)))
 replace S:=S.pm [] 2
 obtain rfl:=si H
 exact rtm E (.b hb2 ag27 sz27 (.t .nil)) ⟨_,rfl,_,_,_,_,_,_,_,rfl,S,(Rd.nil _ _),(Rd.nil _ _)⟩
 refine sq fun K20 hK20=>pl0 (plc E (.r 0 2 .nil) (fun a E=>?_))
 replace S:=S.front 2 rfl
 refine pls E S [iv 0,iv 0,iv 0,iv 0,.slice none 0 0,.slice none 0 0,.slice none 0 0] fun u21 hb2 S a E=>plc E (.r 3 1 .nil) (fun a E=>pld (hK20 _ _ (wp_ret (qCJ ?_))))
 replace S:=S.nilrow qC.k 87
 replace S:=S.pm [0] 4
 obtain rfl:=si H
 exact rtm E (.b hb2 ag27 sz27 (.t .nil)) ⟨_,rfl,_,_,_,_,_,_,_,rfl,S,(Rd.nil _ _),(Rd.nil _ _)⟩
def qCD.f(x:qE):Option Bool:=if x.f0=1 then (if x.f5=0 then (some ((x.f6.length:Int) == 0)) else (some false)) else (if x.f0=2 then (if x.f2=0 then (if x.f3=0 then (if x.f5=0 then (some ((x.f6.length:Int) == 0)) else (some false)) else (some false)) else (some false)) else (if x.f0=10 then (if x.f1=0 then (if x.f2=0 then (if x.f3=0 then (some ((x.f6.length:Int) == 0)) else (some false)) else (some false)) else (some false)) else (if x.f0=8 then (if x.f1=0 then (if x.f2=0 then (if x.f3=0 then (some (x.f4 == 0)) else (some false)) else (some false)) else (some false)) else (if x.f2=0 then (if x.f3=0 then (if x.f4=0 then (if x.f5=0 then (if (x.f6.length:Int)=0 then (if x.f0=9 then (some (x.f1 == 0)) else (some true)) else (some false)) else (some false)) else (some false)) else (some false)) else (some false)))))
def qCD.Post(W F:World)(r:Bool)(v:Value)(w':World):Prop:=∃(F':World),v = .bool r∧Sm W F w' F' []
theorem qCD.calls(x:qE)(A0_6:OA)(c0_6:Nat)(r:Bool)(W F:World)(hown:Sub F W)(g0_6:Rd ki F A0_6 c0_6 x.f6)(H:qCD.f x=some r):
    Cr 144 #[.agg #[iv x.f0,iv x.f1,iv x.f2,iv x.f3,iv x.f4,iv x.f5,.slice A0_6 x.f6.length c0_6]] W (qCD.Post W F r):=by
 have S:=sT hown
 unfold qCD.f at H
 refine ent 112 rfl rfl rfl (fun a E=>?_)
 refine sq fun K1 hK1=>pl0 (plx (t:=96) E S [iv x.f0,iv x.f1,iv x.f2,iv x.f3,iv x.f4,iv x.f5,.slice A0_6 x.f6.length c0_6] fun b2 u3 hb2 S a E=>plc E (.r 1 1 .nil) (fun a E=>pld (hK1 _ _ (sq fun K4 hK4=>rg E (.r 0 1<|.b 1 0 hb2<|.nil) fun a E=>(wp_block (rr E fun a E=>(E.ik 5 H (fun c7 E H=>?_) fun c7 E H=>?_)))))))
 refine sq fun K8 hK8=>pl0 (plc E (.r 0 1<|.b 1 5 hb2<|.r 2 2<|.nil) (fun a E=>E.fk 10 H (fun c9 E H=>?_) fun c9 E H=>?_))
 refine plc E (.r 4 1<|.b 5 6 hb2<|.r 6 4<|.nil) (fun a E=>pld (hK8 _ _ (wp_ret (qCK (qCJ ?_)))))
 replace S:=S.tail
 obtain rfl:=si H
 exact rt1 E ⟨_,rfl,_,rfl,S⟩
 refine plc E (.r 4 6 .nil) (fun a E=>pld (hK8 _ _ (wp_ret (qCK (qCJ ?_)))))
 replace S:=S.tail
 obtain rfl:=si H
 exact rt1 E ⟨_,rfl,_,rfl,S⟩
 refine rr E fun a E=>(E.ik 16 H (fun c11 E H=>?_) fun c11 E H=>?_)
 refine sq fun K12 hK12=>pl0 (plc E (.r 0 1<|.b 1 2 hb2<|.r 2 2<|.nil) (fun a E=>E.fk 21 H (fun c13 E H=>?_) fun c13 E H=>?_))
 refine plc E (.r 4 1<|.b 5 3 hb2<|.r 6 3<|.nil) (fun a E=>E.fk 26 H (fun c14 E H=>?_) fun c14 E H=>?_)
 refine plc E (.r 9 1<|.b 10 5 hb2<|.r 11 3<|.nil) (fun a E=>E.fk 31 H (fun c15 E H=>?_) fun c15 E H=>?_)
 refine plc E (.r 14 1<|.b 15 6 hb2<|.r 16 4<|.nil) (fun a E=>pld (hK12 _ _ (wp_ret (qCK (qCJ ?_)))))
 replace S:=S.tail
 obtain rfl:=si H
 exact rt1 E ⟨_,rfl,_,rfl,S⟩
 refine plc E (.r 14 6 .nil) (fun a E=>pld (hK12 _ _ (wp_ret (qCK (qCJ ?_)))))
 replace S:=S.tail
 obtain rfl:=si H
 exact rt1 E ⟨_,rfl,_,rfl,S⟩
 refine plc E (.r 9 11 .nil) (fun a E=>pld (hK12 _ _ (wp_ret (qCK (qCJ ?_)))))
 replace S:=S.tail
 obtain rfl:=si H
 exact rt1 E ⟨_,rfl,_,rfl,S⟩
 refine plc E (.r 4 16 .nil) (fun a E=>pld (hK12 _ _ (wp_ret (qCK (qCJ ?_)))))
 replace S:=S.tail
 obtain rfl:=si H
 exact rt1 E ⟨_,rfl,_,rfl,S⟩
 refine rr E fun a E=>(E.ik 37 H (fun c17 E H=>?_) fun c17 E H=>?_)
 refine sq fun K18 hK18=>pl0 (plc E (.r 0 1<|.b 1 1 hb2<|.r 2 2<|.nil) (fun a E=>E.fk 42 H (fun c19 E H=>?_) fun c19 E H=>?_))
 refine plc E (.r 4 1<|.b 5 2 hb2<|.r 6 3<|.nil) (fun a E=>E.fk 47 H (fun c20 E H=>?_) fun c20 E H=>?_)
 refine plc E (.r 9 1<|.b 10 3 hb2<|.r 11 3<|.nil) (fun a E=>E.fk 52 H (fun c21 E H=>?_) fun c21 E H=>?_)
 refine plc E (.r 14 1<|.b 15 6 hb2<|.r 16 4<|.nil) (fun a E=>pld (hK18 _ _ (wp_ret (qCK (qCJ ?_)))))
 replace S:=S.tail
 obtain rfl:=si H
 exact rt1 E ⟨_,rfl,_,rfl,S⟩
 refine plc E (.r 14 6 .nil) (fun a E=>pld (hK18 _ _ (wp_ret (qCK (qCJ ?_)))))
 replace S:=S.tail
 obtain rfl:=si H
 exact rt1 E ⟨_,rfl,_,rfl,S⟩
 refine plc E (.r 9 11 .nil) (fun a E=>pld (hK18 _ _ (wp_ret (qCK (qCJ ?_)))))
 replace S:=S.tail
 obtain rfl:=si H
 exact rt1 E ⟨_,rfl,_,rfl,S⟩
 refine plc E (.r 4 16 .nil) (fun a E=>pld (hK18 _ _ (wp_ret (qCK (qCJ ?_)))))
 replace S:=S.tail
 obtain rfl:=si H
 exact rt1 E ⟨_,rfl,_,rfl,S⟩
 refine rr E fun a E=>(E.ik 58 H (fun c23 E H=>?_) fun c23 E H=>?_)
 refine sq fun K24 hK24=>pl0 (plc E (.r 0 1<|.b 1 1 hb2<|.r 2 2<|.nil) (fun a E=>E.fk 63 H (fun c25 E H=>?_) fun c25 E H=>?_))
 refine plc E (.r 4 1<|.b 5 2 hb2<|.r 6 3<|.nil) (fun a E=>E.fk 68 H (fun c26 E H=>?_) fun c26 E H=>?_)
 refine plc E (.r 9 1<|.b 10 3 hb2<|.r 11 3<|.nil) (fun a E=>E.fk 73 H (fun c27 E H=>?_) fun c27 E H=>?_)
 refine plc E (.r 14 1<|.b 15 4 hb2<|.r 16 3<|.nil) (fun a E=>pld (hK24 _ _ (wp_ret (qCK (qCJ ?_)))))
 replace S:=S.tail
 obtain rfl:=si H
 exact rt1 E ⟨_,rfl,_,rfl,S⟩
 refine plc E (.r 14 5 .nil) (fun a E=>pld (hK24 _ _ (wp_ret (qCK (qCJ ?_)))))
 replace S:=S.tail
 obtain rfl:=si H
 exact rt1 E ⟨_,rfl,_,rfl,S⟩
 refine plc E (.r 9 10 .nil) (fun a E=>pld (hK24 _ _ (wp_ret (qCK (qCJ ?_)))))
 replace S:=S.tail
 obtain rfl:=si H
 exact rt1 E ⟨_,rfl,_,rfl,S⟩
 refine plc E (.r 4 15 .nil) (fun a E=>pld (hK24 _ _ (wp_ret (qCK (qCJ ?_)))))
 replace S:=S.tail
 obtain rfl:=si H
 exact rt1 E ⟨_,rfl,_,rfl,S⟩
 refine wp_skip ?_
 refine qCL ?_
 refine hK4 _ _ (sq fun K28 hK28=>pl0 (plc E (.r 0 1<|.b 1 2 hb2<|.r 2 2<|.nil) (fun a E=>E.fk 81 H (fun c29 E H=>?_) fun c29 E H=>?_)))
 refine plc E (.r 4 1<|.b 5 3 hb2<|.r 6 3<|.nil) (fun a E=>E.fk 86 H (fun c30 E H=>?_) fun c30 E H=>?_)
 refine plc E (.r 9 1<|.b 10 4 hb2<|.r 11 3<|.nil) (fun a E=>E.fk 91 H (fun c31 E H=>?_) fun c31 E H=>?_)
 refine plc E (.r 14 1<|.b 15 5 hb2<|.r 16 3<|.nil) (fun a E=>E.fk 96 H (fun c32 E H=>?_) fun c32 E H=>?_)
 refine plc E (.r 19 1<|.b 20 6 hb2<|.r 21 4<|.nil) (fun a E=>E.fk 102 H (fun c33 E H=>?_) fun c33 E H=>?_)
 refine plc E (.r 25 1<|.b 26 0 hb2<|.r 27 2<|.nil) (fun a E=>E.fkn 106 H (fun c34 E H=>?_) fun c34 E H=>?_)
 refine plc E (.r 29 1<|.b 30 1 hb2<|.r 31 4<|.nil) (fun a E=>pld (hK28 _ _ (wp_ret ?_)))
 replace S:=S.tail
 obtain rfl:=si H
 exact rt1 E ⟨_,rfl,_,rfl,S⟩
 refine plc E (.r 29 6 .nil) (fun a E=>pld (hK28 _ _ (wp_ret ?_)))
 replace S:=S.tail
 obtain rfl:=si H
 exact rt1 E ⟨_,rfl,_,rfl,S⟩
 refine plc E (.r 25 10 .nil) (fun a E=>pld (hK28 _ _ (wp_ret ?_)))
 replace S:=S.tail
 obtain rfl:=si H
 exact rt1 E ⟨_,rfl,_,rfl,S⟩
 refine plc E (.r 19 16 .nil) (fun a E=>pld (hK28 _ _ (wp_ret ?_)))
 replace S:=S.tail
 obtain rfl:=si H
 exact rt1 E ⟨_,rfl,_,rfl,S⟩
 refine plc E (.r 14 21 .nil) (fun a E=>pld (hK28 _ _ (wp_ret ?_)))
 replace S:=S.tail
 obtain rfl:=si H
 exact rt1 E ⟨_,rfl,_,rfl,S⟩
 refine plc E (.r 9 26 .nil) (fun a E=>pld (hK28 _ _ (wp_ret ?_)))
 replace S:=S.tail
 obtain rfl:=si H
 exact rt1 E ⟨_,rfl,_,rfl,S⟩
 refine plc E (.r 4 31 .nil) (fun a E=>pld (hK28 _ _ (wp_ret ?_)))
 replace S:=S.tail
 obtain rfl:=si H
 exact rt1 E ⟨_,rfl,_,rfl,S⟩
def qAW.f(x:List qA):Option (List qA):=if ((([]:List qA).length:Int)+(x.length:Int)) * 40≤140737488355328 then (some (([]:List qA)++x)) else (none)
def qAW.Post(W F:World)(r:List qA)(v:Value)(w':World):Prop:=∃(F':World)(RA0_0:OA)(rc0_0:Nat),v = .slice RA0_0 r.length rc0_0∧Sm W F w' F' [row qA.k 153 (.slice RA0_0 r.length rc0_0) r]
theorem qAW.calls(x:List qA)(A0_0:OA)(c0_0:Nat)(r:List qA)(W F:World)(hown:Sub F W)(g0_0:Rd qA.k F A0_0 c0_0 x)(H:qAW.f x=some r):
    Cr 102 #[.slice A0_0 x.length c0_0] W (qAW.Post W F r):=by
 have S:=sT hown
 unfold qAW.f at H
 refine ent 8 rfl rfl rfl (fun a E=>?_)
 rcases A0_0 with _ | ad1
 have hnil:=g0_0.none_nil
 replace H:(some [])=some r:=by simpa [hnil] using H
 refine rr E fun a E=>(sq fun K3 hK3=>rr E fun a E=>(ct E (rr E fun a E=>(wp_ret (qCJ ?_)))))
 replace S:=S.nilrow qA.k 153
 obtain rfl:=si H
 exact rt1 E ⟨_,rfl,_,_,_,rfl,S⟩
 refine rr E fun a E=>(sq fun K8 hK8=>rr E fun a E=>(cf E (wp_skip (hK8 _ _ (sq fun K10 hK10=>pl0 (ple E (.lit (d:=qA.k) (e:=153) S ([]:List qA) (.nil)) ?_))))))
 rintro _ u11 a ⟨A12,c13,rfl,S,hg⟩ E
 refine plc E (.r 1 1 .nil) (fun a E=>?_)
 obtain ⟨c15,H⟩:=gd H
 refine ple E (.ap (d:=qA.k) 40 S (g0_0.src S.own.sub) c15 c0_0) ?_
 rintro _ u18 a ⟨A16,c17,rfl,S,hz⟩ E
 refine plc E (.r 3 1 .nil) (fun a E=>pld (hK10 _ _ (wp_ret ?_)))
 obtain rfl:=si H
 exact rt1 E ⟨_,rfl,_,_,_,rfl,S⟩
def qAX.f(x:List qI):Option (List qI):=if ((([]:List qI).length:Int)+(x.length:Int)) * 32≤140737488355328 then (some (([]:List qI)++x)) else (none)
def qAX.Post(W F:World)(r:List qI)(v:Value)(w':World):Prop:=∃(F':World)(RA0_0:OA)(rc0_0:Nat),v = .slice RA0_0 r.length rc0_0∧Sm W F w' F' [row qI.k 84 (.slice RA0_0 r.length rc0_0) r]
theorem qAX.calls(x:List qI)(A0_0:OA)(c0_0:Nat)(r:List qI)(W F:World)(hown:Sub F W)(g0_0:Rd qI.k F A0_0 c0_0 x)(H:qAX.f x=some r):
    Cr 103 #[.slice A0_0 x.length c0_0] W (qAX.Post W F r):=by
 have S:=sT hown
 unfold qAX.f at H
 refine ent 8 rfl rfl rfl (fun a E=>?_)
 rcases A0_0 with _ | ad1
 have hnil:=g0_0.none_nil
 replace H:(some [])=some r:=by simpa [hnil] using H
 refine rr E fun a E=>(sq fun K3 hK3=>rr E fun a E=>(ct E (rr E fun a E=>(wp_ret (qCJ ?_)))))
 replace S:=S.nilrow qI.k 84
 obtain rfl:=si H
 exact rt1 E ⟨_,rfl,_,_,_,rfl,S⟩
 refine rr E fun a E=>(sq fun K8 hK8=>rr E fun a E=>(cf E (wp_skip (hK8 _ _ (sq fun K10 hK10=>pl0 (ple E (.lit (d:=qI.k) (e:=84) S ([]:List qI) (.nil)) ?_))))))
 rintro _ u11 a ⟨A12,c13,rfl,S,hg⟩ E
 refine plc E (.r 1 1 .nil) (fun a E=>?_)
 obtain ⟨c15,H⟩:=gd H
 refine ple E (.ap (d:=qI.k) 32 S (g0_0.src S.own.sub) c15 c0_0) ?_
 rintro _ u18 a ⟨A16,c17,rfl,S,hz⟩ E
 refine plc E (.r 3 1 .nil) (fun a E=>pld (hK10 _ _ (wp_ret ?_)))
 obtain rfl:=si H
 exact rt1 E ⟨_,rfl,_,_,_,rfl,S⟩
def qAC.f(x:List Int):Option (List Int):=if ((([]:List Int).length:Int)+(x.length:Int)) * 8≤140737488355328 then (some (([]:List Int)++x)) else (none)
def qAC.Post(W F:World)(r:List Int)(v:Value)(w':World):Prop:=∃(F':World)(RA0_0:OA)(rc0_0:Nat),v = .slice RA0_0 r.length rc0_0∧Sm W F w' F' [row ki 3 (.slice RA0_0 r.length rc0_0) r]
theorem qAC.calls(x:List Int)(A0_0:OA)(c0_0:Nat)(r:List Int)(W F:World)(hown:Sub F W)(g0_0:Rd ki F A0_0 c0_0 x)(H:qAC.f x=some r):
    Cr 98 #[.slice A0_0 x.length c0_0] W (qAC.Post W F r):=by
 have S:=sT hown
 unfold qAC.f at H
 refine ent 8 rfl rfl rfl (fun a E=>?_)
 rcases A0_0 with _ | ad1
 have hnil:=g0_0.none_nil
 replace H:(some [])=some r:=by simpa [hnil] using H
 refine rr E fun a E=>(sq fun K3 hK3=>rr E fun a E=>(ct E (rr E fun a E=>(wp_ret (qCJ ?_)))))
 replace S:=S.nilrow ki 3
 obtain rfl:=si H
 exact rt1 E ⟨_,rfl,_,_,_,rfl,S⟩
 refine rr E fun a E=>(sq fun K8 hK8=>rr E fun a E=>(cf E (wp_skip (hK8 _ _ (sq fun K10 hK10=>pl0 (ple E (.lit (d:=ki) (e:=3) S ([]:List Int) (.nil)) ?_))))))
 rintro _ u11 a ⟨A12,c13,rfl,S,hg⟩ E
 refine plc E (.r 1 1 .nil) (fun a E=>?_)
 obtain ⟨c15,H⟩:=gd H
 refine ple E (.ap (d:=ki) 8 S (g0_0.src S.own.sub) c15 c0_0) ?_
 rintro _ u18 a ⟨A16,c17,rfl,S,hz⟩ E
 refine plc E (.r 3 1 .nil) (fun a E=>pld (hK10 _ _ (wp_ret ?_)))
 obtain rfl:=si H
 exact rt1 E ⟨_,rfl,_,_,_,rfl,S⟩
def qAF.f(x:List qC):Option (List qC):=if ((([]:List qC).length:Int)+(x.length:Int)) * 32≤140737488355328 then (some (([]:List qC)++x)) else (none)
def qAF.Post(W F:World)(r:List qC)(v:Value)(w':World):Prop:=∃(F':World)(RA0_0:OA)(rc0_0:Nat),v = .slice RA0_0 r.length rc0_0∧Sm W F w' F' [row qC.k 87 (.slice RA0_0 r.length rc0_0) r]
theorem qAF.calls(x:List qC)(A0_0:OA)(c0_0:Nat)(r:List qC)(W F:World)(hown:Sub F W)(g0_0:Rd qC.k F A0_0 c0_0 x)(H:qAF.f x=some r):
    Cr 104 #[.slice A0_0 x.length c0_0] W (qAF.Post W F r):=by
 have S:=sT hown
 unfold qAF.f at H
 refine ent 8 rfl rfl rfl (fun a E=>?_)
 rcases A0_0 with _ | ad1
 have hnil:=g0_0.none_nil
 replace H:(some [])=some r:=by simpa [hnil] using H
 refine rr E fun a E=>(sq fun K3 hK3=>rr E fun a E=>(ct E (rr E fun a E=>(wp_ret (qCJ ?_)))))
 replace S:=S.nilrow qC.k 87
 obtain rfl:=si H
 exact rt1 E ⟨_,rfl,_,_,_,rfl,S⟩
 refine rr E fun a E=>(sq fun K8 hK8=>rr E fun a E=>(cf E (wp_skip (hK8 _ _ (sq fun K10 hK10=>pl0 (ple E (.lit (d:=qC.k) (e:=87) S ([]:List qC) (.nil)) ?_))))))
 rintro _ u11 a ⟨A12,c13,rfl,S,hg⟩ E
 refine plc E (.r 1 1 .nil) (fun a E=>?_)
 obtain ⟨c15,H⟩:=gd H
 refine ple E (.ap (d:=qC.k) 32 S (g0_0.src S.own.sub) c15 c0_0) ?_
 rintro _ u18 a ⟨A16,c17,rfl,S,hz⟩ E
 refine plc E (.r 3 1 .nil) (fun a E=>pld (hK10 _ _ (wp_ret ?_)))
 obtain rfl:=si H
 exact rt1 E ⟨_,rfl,_,_,_,rfl,S⟩
def qAY.f(x:List qL):Option (List qL):=if ((([]:List qL).length:Int)+(x.length:Int)) * 32≤140737488355328 then (some (([]:List qL)++x)) else (none)
def qAY.Post(W F:World)(r:List qL)(v:Value)(w':World):Prop:=∃(F':World)(RA0_0:OA)(rc0_0:Nat),v = .slice RA0_0 r.length rc0_0∧Sm W F w' F' [row qL.k 89 (.slice RA0_0 r.length rc0_0) r]
theorem qAY.calls(x:List qL)(A0_0:OA)(c0_0:Nat)(r:List qL)(W F:World)(hown:Sub F W)(g0_0:Rd qL.k F A0_0 c0_0 x)(H:qAY.f x=some r):
    Cr 105 #[.slice A0_0 x.length c0_0] W (qAY.Post W F r):=by
 have S:=sT hown
 unfold qAY.f at H
 refine ent 8 rfl rfl rfl (fun a E=>?_)
 rcases A0_0 with _ | ad1
 have hnil:=g0_0.none_nil
 replace H:(some [])=some r:=by simpa [hnil] using H
 refine rr E fun a E=>(sq fun K3 hK3=>rr E fun a E=>(ct E (rr E fun a E=>(wp_ret (qCJ ?_)))))
 replace S:=S.nilrow qL.k 89
 obtain rfl:=si H
 exact rt1 E ⟨_,rfl,_,_,_,rfl,S⟩
 refine rr E fun a E=>(sq fun K8 hK8=>rr E fun a E=>(cf E (wp_skip (hK8 _ _ (sq fun K10 hK10=>pl0 (ple E (.lit (d:=qL.k) (e:=89) S ([]:List qL) (.nil)) ?_))))))
 rintro _ u11 a ⟨A12,c13,rfl,S,hg⟩ E
 refine plc E (.r 1 1 .nil) (fun a E=>?_)
 obtain ⟨c15,H⟩:=gd H
 refine ple E (.ap (d:=qL.k) 32 S (g0_0.src S.own.sub) c15 c0_0) ?_
 rintro _ u18 a ⟨A16,c17,rfl,S,hz⟩ E
 refine plc E (.r 3 1 .nil) (fun a E=>pld (hK10 _ _ (wp_ret ?_)))
 obtain rfl:=si H
 exact rt1 E ⟨_,rfl,_,_,_,rfl,S⟩
def qAy.l16:Nat→List qL→List qL→Int→Option (List qL)
 | 0,_,_,_=>none
 | k+1,t4,l13,x14=>if x14<(t4.length:Int) then (if 0≤x14∧x14<(t4.length:Int) then ((qAC.f ((nth qL.z l13 x14).f1)).bind fun t39=>(qAy.l16 k t4 (l13.set (x14).toNat (⟨(nth qL.z l13 x14).f0,t39⟩:qL)) (w64 (x14+1)))) else (none)) else (some l13)
theorem qAy.l16_s k t4 l13 x14:type_of% (qAy.l16.eq_2 t4 l13 x14 k):=qAy.l16.eq_2 t4 l13 x14 k
def qAy.f(k:Nat)(x:List qL):Option (List qL):=(qAY.f x).bind fun t4=>(qAy.l16 k t4 t4 0)
def qAy.Post(W F:World)(r:List qL)(v:Value)(w':World):Prop:=∃(F':World)(RA0_0:OA)(rc0_0:Nat),v = .slice RA0_0 r.length rc0_0∧Sm W F w' F' [row qL.k 89 (.slice RA0_0 r.length rc0_0) r]
theorem qAy.calls(k:Nat)(x:List qL)(A0_0:OA)(c0_0:Nat)(r:List qL)(W F:World)(hown:Sub F W)(g0_0:Rd qL.k F A0_0 c0_0 x)(H:qAy.f k x=some r):
    Cr 153 #[.slice A0_0 x.length c0_0] W (qAy.Post W F r):=by
 have S:=sT hown
 unfold qAy.f at H
 refine ent 23 rfl rfl rfl (fun a E=>?_)
 refine rr E fun a E=>(sq fun K2 hK2=>pl0 (plc E (.r 0 1 .nil) (fun a E=>?_)))
 obtain ⟨t4,h5,H⟩:=bd H
 refine ple E (.cl en105 (qAY.calls x _ _ _ _ _ S.own.sub g0_0 h5)) ?_
 rintro _ u3 a ⟨F6,A7,c8,rfl,hC⟩ E
 have hs:=hC.sub
 replace S:=S.called (X:=[]) hC
 replace g0_0:=g0_0.mono hs
 refine plc E (.r 2 1 .nil) (fun a E=>pld (hK2 _ _ (sq fun K11 hK11=>rr E fun a E=>(wp_block ?_))))
 refine wp_loop_ghost (fun kq17 a w'=>∃(G:NV)(l13:List qL)(x14:Int)(F15:World),kq17≤k∧Env 23 G a∧At G [(0,.slice A7 t4.length c8),(7,.slice A7 t4.length c8),(8,iv (t4.length:Int)),(9,iv x14)]∧Sm W F w' F15 [row qL.k 89 (.slice A7 t4.length c8) l13]∧qAy.l16 kq17 t4 l13 x14=some r) k ⟨_,t4,0,F6,Nat.le_refl _,E,.of,S,H⟩ ?_
 rintro kq17 a u19 ⟨G,l13,x14,F15,hkq,E,A,S,H⟩
 obtain _ | k18:=kq17
 exact zz H
 rw [qAy.l16_s]at H
 obtain ⟨J,E⟩:=E.at A
 refine rr E fun a E=>(sq fun K21 hK21=>E.ik 10 H (fun c22 E H=>?_) fun c22 E H=>?_)
 refine wp_skip (hK21 _ _ (sq fun K23 hK23=>wp_block (sq fun K24 hK24=>pl0 ?_)))
 obtain ⟨c25,H⟩:=gd H
 have hr26:=S.ra 0
 have c27:0≤x14∧x14<(l13.length:Int):=by rw [← (qCN hr26).1]; exact c25
 have hE_:=E
 obtain ⟨b28,rfl⟩:=qCP hr26 c27.1 c27.2
 replace E:=hE_
 have hr_:=S.ra 0
 obtain ⟨cs30,⟨A32,c33,rfl,g34⟩,hc31⟩:=qCO hr_ qL.z x14 c27.1 c27.2
 refine plc E (.r 0 1<|.x 1 c25<|.cs 2 hc31<|.nil) (fun a E=>pla (t:=89) E S [iv 0,.slice none 0 0] fun b35 u36 hb35 S a E=>plc E (.r 4 1 .nil) (fun a E=>pls E S [iv ((nth qL.z l13 x14).f0),.slice A32 (((nth qL.z l13 x14).f1).length) c33] fun u37 hb35 S a E=>pld (hK24 _ _ (pl0 (plc E (.r 0 3<|.b 3 1 hb35<|.nil) (fun a E=>?_))))))
 obtain ⟨t39,h40,H⟩:=bd H
 refine ple E (.cl en98 (qAC.calls ((nth qL.z l13 x14).f1) _ _ _ _ _ S.own.sub g34 h40)) ?_
 rintro _ u38 a ⟨F41,A42,c43,rfl,hC⟩ E
 have hs:=hC.sub
 replace S:=S.called (X:=[]) hC
 replace g34:=g34.mono hs
 have hr46:=S.ra 2
 have c47:0≤x14∧x14<(l13.length:Int):=by rw [← (qCN hr46).1]; exact c25
 have hr_:=S.ra 2
 obtain ⟨cs49,⟨A51,c52,rfl,g53⟩,hc50⟩:=qCO hr_ qL.z x14 c47.1 c47.2
 refine plc E (.x 5 c25<|.r 6 1<|.nil) (fun a E=>?_)
 obtain ⟨F55,hs,g56,S⟩:=S.give
 replace g34:=g34.mono hs
 replace S:=S.front 1 rfl
 obtain ⟨cs60,⟨A57,c58,rfl,g59⟩,hc61⟩:=qCO (S.row_at (i:=0) rfl) qL.z x14 c47.1 c47.2
 refine ple E (.set (d:=qL.k) (n:=t4.length) (i:=x14) (⟨(nth qL.z l13 x14).f0,t39⟩:qL) 1 (ea1 _ _ _) S c47 [iv ((nth qL.z l13 x14).f0),.slice A57 (((nth qL.z l13 x14).f1).length) c58] hc61 [iv ((nth qL.z l13 x14).f0),.slice A42 t39.length c43] ⟨_,_,rfl,g56⟩) ?_
 rintro _ u54 a ⟨rfl,S,hz⟩ E
 refine pld ?_
 refine qCL ?_
 refine hK23 _ _ (pl0 (plc E (.r 0 2 .nil) (fun a E=>pld ?_)))
 replace S:=S.pm [0] 2
 exact qCM ⟨k18,by omega,_,(l13.set (x14).toNat (⟨(nth qL.z l13 x14).f0,t39⟩:qL)),(w64 (x14+1)),F55,by omega,E,.of,S,H⟩
 refine wp_exit ?_
 refine hK11 _ _ (rr E fun a E=>(wp_ret ?_))
 have hn63:=(qCN (S.row_at (i:=0) rfl)).1
 replace E:=E.set (d:=2) (v:=.slice A7 l13.length c8) (Eq.trans (b:=.slice A7 t4.length c8) (by kernel_rfl) (by rw [← hn63]))
 replace S:Sm W F u19 F15 [row qL.k 89 (.slice A7 l13.length c8) l13]:=by rw [← hn63]; exact S
 obtain rfl:=si H
 exact rt1 E ⟨_,rfl,_,_,_,rfl,S⟩
mutual
def qAo.l30:Nat→qF→List qA→List qI→List qI→Int→Option qF
 | 0,_,_,_,_,_=>none
 | k+1,x,t8,t16,l27,x28=>if x28<(t16.length:Int) then (if 0≤x28∧x28<(t16.length:Int) then ((qAC.f ((nth qI.z l27 x28).f1)).bind fun t53=>(qAo.l30 k x t8 t16 (l27.set (x28).toNat (⟨(nth qI.z l27 x28).f0,t53⟩:qI)) (w64 (x28+1)))) else (none)) else ((qAF.f x.f6).bind fun t78=>(qAo.l91 k x t8 l27 t78 t78 0))
def qAo.l91:Nat→qF→List qA→List qI→List qC→List qC→Int→Option qF
 | 0,_,_,_,_,_,_=>none
 | k+1,x,t8,l27,t78,l88,x89=>if x89<(t78.length:Int) then (if 0≤x89∧x89<(t78.length:Int) then ((qAy.f k ((nth qC.z l88 x89).f1)).bind fun t114=>(qAo.l91 k x t8 l27 t78 (l88.set (x89).toNat (⟨(nth qC.z l88 x89).f0,t114⟩:qC)) (w64 (x89+1)))) else (none)) else (some (⟨x.f0,x.f1,x.f2,x.f3,t8,l27,l88⟩:qF))
end
theorem qAo.l30_s k x t8 t16 l27 x28:type_of% (qAo.l30.eq_2 x t8 t16 l27 x28 k):=qAo.l30.eq_2 x t8 t16 l27 x28 k
theorem qAo.l91_s k x t8 l27 t78 l88 x89:type_of% (qAo.l91.eq_2 x t8 l27 t78 l88 x89 k):=qAo.l91.eq_2 x t8 l27 t78 l88 x89 k
def qAo.f(k:Nat)(x:qF):Option qF:=(qAW.f x.f4).bind fun t8=>((qAX.f x.f5).bind fun t16=>(qAo.l30 k x t8 t16 t16 0))
def qAo.Post(W F:World)(r:qF)(v:Value)(w':World):Prop:=∃(F':World)(RA0_4:OA)(rc0_4:Nat)(RA0_5:OA)(rc0_5:Nat)(RA0_6:OA)(rc0_6:Nat),v = .agg #[iv r.f0,iv r.f1,iv r.f2,iv r.f3,.slice RA0_4 r.f4.length rc0_4,.slice RA0_5 r.f5.length rc0_5,.slice RA0_6 r.f6.length rc0_6]∧Sm W F w' F' [row qA.k 153 (.slice RA0_4 r.f4.length rc0_4) r.f4,row qI.k 84 (.slice RA0_5 r.f5.length rc0_5) r.f5,row qC.k 87 (.slice RA0_6 r.f6.length rc0_6) r.f6]
theorem qAo.calls(k:Nat)(x:qF)(A0_4:OA)(c0_4:Nat)(A0_5:OA)(c0_5:Nat)(A0_6:OA)(c0_6:Nat)(r:qF)(W F:World)(hown:Sub F W)(g0_4:Rd qA.k F A0_4 c0_4 x.f4)(g0_5:Rd qI.k F A0_5 c0_5 x.f5)(g0_6:Rd qC.k F A0_6 c0_6 x.f6)(H:qAo.f k x=some r):
    Cr 110 #[.agg #[iv x.f0,iv x.f1,iv x.f2,iv x.f3,.slice A0_4 x.f4.length c0_4,.slice A0_5 x.f5.length c0_5,.slice A0_6 x.f6.length c0_6]] W (qAo.Post W F r):=by
 have S:=sT hown
 unfold qAo.f at H
 refine ent 54 rfl rfl rfl (fun a E=>?_)
 refine sq fun K1 hK1=>pl0 (plx (t:=27) E S [iv x.f0,iv x.f1,iv x.f2,iv x.f3,.slice A0_4 x.f4.length c0_4,.slice A0_5 x.f5.length c0_5,.slice A0_6 x.f6.length c0_6] fun b2 u3 hb2 S a E=>pla (t:=27) E S [iv 0,iv 0,iv 0,iv 0,.slice none 0 0,.slice none 0 0,.slice none 0 0] fun b4 u5 hb4 S a E=>pld (hK1 _ _ (sq fun K6 hK6=>?_)))
 refine drawn 10 ⟨[7,9],[],fun q=>False⟩ mixed rfl (by kernel_rfl) (fun hst=>?_)
 replace S:=S.drew
 have hb2:=S.ba 1
 refine mny 6 hst E (.r 0 1<|.b 1 4 hb2<|.r 3 1<|.b 4 5 hb2<|.nil) (fun a E=>?_)
 obtain ⟨t8,h9,H⟩:=bd H
 refine on1 2 E (.cl en102 (qAW.calls x.f4 _ _ _ _ _ S.own.sub g0_4 h9)) ?_
 rintro _ u7 a ⟨F10,A11,c12,rfl,hC⟩ E
 refine ⟨.of hC.agr,?_⟩
 have hs:=hC.sub
 replace S:=S.called (X:=[]) hC
 replace g0_4:=g0_4.mono hs
 replace g0_5:=g0_5.mono hs
 replace g0_6:=g0_6.mono hs
 refine mny 4 hst E (.r 6 1 .nil) (fun a E=>?_)
 obtain ⟨t16,h17,H⟩:=bd H
 refine on1 5 E (.cl en103 (qAX.calls x.f5 _ _ _ _ _ S.own.sub g0_5 h17)) ?_
 rintro _ u15 a ⟨F18,A19,c20,rfl,hC⟩ E
 refine ⟨.of hC.agr,?_⟩
 have hs:=hC.sub
 replace S:=S.called (X:=[]) hC
 replace g0_4:=g0_4.mono hs
 replace g0_5:=g0_5.mono hs
 replace g0_6:=g0_6.mono hs
 replace S:=S.front 3 rfl
 refine on1 7 E (.sto S [iv x.f0,iv x.f1,iv x.f2,iv x.f3,.slice A11 t8.length c12,.slice A0_5 x.f5.length c0_5,.slice A0_6 x.f6.length c0_6]) ?_
 rintro _ u23 a ⟨rfl,hb2,S,hz⟩ E
 refine ⟨.d,?_⟩
 refine mny 1 hst E (.r 8 1 .nil) (fun a E=>?_)
 refine on1 9 E (.sto S [iv x.f0,iv x.f1,iv x.f2,iv x.f3,.slice A11 t8.length c12,.slice A19 t16.length c20,.slice A0_6 x.f6.length c0_6]) ?_
 rintro _ u24 a ⟨rfl,hb2,S,hz⟩ E
 refine ⟨.d,?_⟩
 refine dn ?_
 refine hK6 _ _ (sq fun K25 hK25=>rg E (.r 0 1<|.b 1 5 hb2<|.r 2 2<|.nil) fun a E=>(wp_block ?_))
 replace S:=S.pm [0,3,2,1] 4
 refine wp_loop_ghost (fun kq31 a w'=>∃(G:NV)(l27:List qI)(x28:Int)(F29:World),kq31≤k∧Env 54 G a∧At G [(1,.pointer (pb b2)),(2,.pointer (pb b4)),(16,.slice A19 t16.length c20),(17,iv (t16.length:Int)),(18,iv x28)]∧Sm W F w' F29 [box b2 #[iv x.f0,iv x.f1,iv x.f2,iv x.f3,.slice A11 t8.length c12,.slice A19 t16.length c20,.slice A0_6 x.f6.length c0_6] 27,box b4 #[iv 0,iv 0,iv 0,iv 0,.slice none 0 0,.slice none 0 0,.slice none 0 0] 27,row qA.k 153 (.slice A11 t8.length c12) t8,row qI.k 84 (.slice A19 t16.length c20) l27]∧Rd qC.k F29 A0_6 c0_6 x.f6∧qAo.l30 kq31 x t8 t16 l27 x28=some r) k ⟨_,t16,0,F18,Nat.le_refl _,E,.of,S,g0_6,H⟩ ?_
 rintro kq31 a u33 ⟨G,l27,x28,F29,hkq,E,A,S,g0_6,H⟩
 obtain _ | k32:=kq31
 exact zz H
 rw [qAo.l30_s]at H
 obtain ⟨J,E⟩:=E.at A
 refine rr E fun a E=>(sq fun K35 hK35=>E.ik 19 H (fun c36 E H=>?_) fun c36 E H=>?_)
 refine wp_skip (hK35 _ _ (sq fun K37 hK37=>wp_block (sq fun K38 hK38=>pl0 ?_)))
 obtain ⟨c39,H⟩:=gd H
 have hr40:=S.ra 3
 have c41:0≤x28∧x28<(l27.length:Int):=by rw [← (qCN hr40).1]; exact c39
 have hE_:=E
 obtain ⟨b42,rfl⟩:=qCP hr40 c41.1 c41.2
 replace E:=hE_
 have hr_:=S.ra 3
 obtain ⟨cs44,⟨A46,c47,rfl,g48⟩,hc45⟩:=qCO hr_ qI.z x28 c41.1 c41.2
 refine plc E (.r 0 1<|.x 1 c39<|.cs 2 hc45<|.nil) (fun a E=>pla (t:=84) E S [iv 0,.slice none 0 0] fun b49 u50 hb49 S a E=>plc E (.r 4 1 .nil) (fun a E=>pls E S [iv ((nth qI.z l27 x28).f0),.slice A46 (((nth qI.z l27 x28).f1).length) c47] fun u51 hb49 S a E=>pld (hK38 _ _ ?_)))
 refine drawn 9 ⟨[8],[],fun q=>False⟩ mixed rfl (by kernel_rfl) (fun hst=>?_)
 replace S:=S.drew
 have hb2:=S.ba 1
 have hb49:=S.ba 0
 refine mny 4 hst E (.r 0 1<|.b 1 5 hb2<|.r 2 2<|.b 4 1 hb49<|.nil) (fun a E=>?_)
 obtain ⟨t53,h54,H⟩:=bd H
 refine on1 5 E (.cl en98 (qAC.calls ((nth qI.z l27 x28).f1) _ _ _ _ _ S.own.sub g48 h54)) ?_
 rintro _ u52 a ⟨F55,A56,c57,rfl,hC⟩ E
 refine ⟨.of hC.agr,?_⟩
 have hs:=hC.sub
 replace S:=S.called (X:=[]) hC
 replace g48:=g48.mono hs
 replace g0_6:=g0_6.mono hs
 have hr60:=S.ra 5
 have c61:0≤x28∧x28<(l27.length:Int):=by rw [← (qCN hr60).1]; exact c39
 have hr_:=S.ra 5
 obtain ⟨cs63,⟨A65,c66,rfl,g67⟩,hc64⟩:=qCO hr_ qI.z x28 c61.1 c61.2
 refine mny 1 hst E (.x 6 c39<|.r 7 1<|.nil) (fun a E=>?_)
 obtain ⟨F69,hs,g70,S⟩:=S.give
 replace g48:=g48.mono hs
 replace g0_6:=g0_6.mono hs
 replace S:=S.front 4 rfl
 obtain ⟨cs74,⟨A71,c72,rfl,g73⟩,hc75⟩:=qCO (S.row_at (i:=0) rfl) qI.z x28 c61.1 c61.2
 refine on1 8 E (.set (d:=qI.k) (n:=t16.length) (i:=x28) (⟨(nth qI.z l27 x28).f0,t53⟩:qI) 1 (ea1 _ _ _) S c61 [iv ((nth qI.z l27 x28).f0),.slice A71 (((nth qI.z l27 x28).f1).length) c72] hc75 [iv ((nth qI.z l27 x28).f0),.slice A56 t53.length c57] ⟨_,_,rfl,g70⟩) ?_
 rintro _ u68 a ⟨rfl,S,hz⟩ E
 refine ⟨.d,?_⟩
 refine dn ?_
 refine qCL ?_
 refine hK37 _ _ (pl0 (plc E (.r 0 2 .nil) (fun a E=>pld ?_)))
 replace S:=S.pm [2,3,4,0] 5
 exact qCM ⟨k32,by omega,_,(l27.set (x28).toNat (⟨(nth qI.z l27 x28).f0,t53⟩:qI)),(w64 (x28+1)),F69,by omega,E,.of,S,g0_6,H⟩
 refine wp_exit ?_
 refine hK25 _ _ (sq fun K76 hK76=>pl0 (plc E (.r 0 1<|.b 1 6 (S.ba 0)<|.nil) (fun a E=>?_)))
 obtain ⟨t78,h79,H⟩:=bd H
 refine ple E (.cl en104 (qAF.calls x.f6 _ _ _ _ _ S.own.sub g0_6 h79)) ?_
 rintro _ u77 a ⟨F80,A81,c82,rfl,hC⟩ E
 have hs:=hC.sub
 replace S:=S.called (X:=[]) hC
 replace g0_6:=g0_6.mono hs
 refine plc E (.r 3 1 .nil) (fun a E=>?_)
 replace S:=S.front 1 rfl
 refine pls E S [iv x.f0,iv x.f1,iv x.f2,iv x.f3,.slice A11 t8.length c12,.slice A19 t16.length c20,.slice A81 t78.length c82] fun u85 hb2 S a E=>pld (hK76 _ _ (sq fun K86 hK86=>rg E (.r 0 1<|.b 1 6 hb2<|.r 2 2<|.nil) fun a E=>(wp_block ?_)))
 replace S:=S.pm [0,2,3,4,1] 5
 refine wp_loop_ghost (fun kq92 a w'=>∃(G:NV)(l88:List qC)(x89:Int)(F90:World),kq92≤k32∧Env 54 G a∧At G [(1,.pointer (pb b2)),(2,.pointer (pb b4)),(37,.slice A81 t78.length c82),(38,iv (t78.length:Int)),(39,iv x89)]∧Sm W F w' F90 [box b2 #[iv x.f0,iv x.f1,iv x.f2,iv x.f3,.slice A11 t8.length c12,.slice A19 t16.length c20,.slice A81 t78.length c82] 27,box b4 #[iv 0,iv 0,iv 0,iv 0,.slice none 0 0,.slice none 0 0,.slice none 0 0] 27,row qA.k 153 (.slice A11 t8.length c12) t8,row qI.k 84 (.slice A19 t16.length c20) l27,row qC.k 87 (.slice A81 t78.length c82) l88]∧qAo.l91 kq92 x t8 l27 t78 l88 x89=some r) k32 ⟨_,t78,0,F80,Nat.le_refl _,E,.of,S,H⟩ ?_
 rintro kq92 a u94 ⟨G,l88,x89,F90,hkq,E,A,S,H⟩
 obtain _ | k93:=kq92
 exact zz H
 rw [qAo.l91_s]at H
 obtain ⟨J,E⟩:=E.at A
 refine rr E fun a E=>(sq fun K96 hK96=>E.ik 40 H (fun c97 E H=>?_) fun c97 E H=>?_)
 refine wp_skip (hK96 _ _ (sq fun K98 hK98=>wp_block (sq fun K99 hK99=>pl0 ?_)))
 obtain ⟨c100,H⟩:=gd H
 have hr101:=S.ra 4
 have c102:0≤x89∧x89<(l88.length:Int):=by rw [← (qCN hr101).1]; exact c100
 have hE_:=E
 obtain ⟨b103,rfl⟩:=qCP hr101 c102.1 c102.2
 replace E:=hE_
 have hr_:=S.ra 4
 obtain ⟨cs105,⟨A107,c108,rfl,g109⟩,hc106⟩:=qCO hr_ qC.z x89 c102.1 c102.2
 refine plc E (.r 0 1<|.x 1 c100<|.cs 2 hc106<|.nil) (fun a E=>pla (t:=87) E S [iv 0,.slice none 0 0] fun b110 u111 hb110 S a E=>plc E (.r 4 1 .nil) (fun a E=>pls E S [iv ((nth qC.z l88 x89).f0),.slice A107 (((nth qC.z l88 x89).f1).length) c108] fun u112 hb110 S a E=>pld (hK99 _ _ ?_)))
 refine drawn 9 ⟨[8],[],fun q=>False⟩ mixed rfl (by kernel_rfl) (fun hst=>?_)
 replace S:=S.drew
 have hb2:=S.ba 1
 have hb110:=S.ba 0
 refine mny 4 hst E (.r 0 1<|.b 1 6 hb2<|.r 2 2<|.b 4 1 hb110<|.nil) (fun a E=>?_)
 obtain ⟨t114,h115,H⟩:=bd H
 refine on1 5 E (.cl en153 (qAy.calls k93 ((nth qC.z l88 x89).f1) _ _ _ _ _ S.own.sub g109 h115)) ?_
 rintro _ u113 a ⟨F116,A117,c118,rfl,hC⟩ E
 refine ⟨.of hC.agr,?_⟩
 have hs:=hC.sub
 replace S:=S.called (X:=[]) hC
 replace g109:=g109.mono hs
 have hr121:=S.ra 6
 have c122:0≤x89∧x89<(l88.length:Int):=by rw [← (qCN hr121).1]; exact c100
 have hr_:=S.ra 6
 obtain ⟨cs124,⟨A126,c127,rfl,g128⟩,hc125⟩:=qCO hr_ qC.z x89 c122.1 c122.2
 refine mny 1 hst E (.x 6 c100<|.r 7 1<|.nil) (fun a E=>?_)
 obtain ⟨F130,hs,g131,S⟩:=S.give
 replace g109:=g109.mono hs
 replace S:=S.front 5 rfl
 obtain ⟨cs135,⟨A132,c133,rfl,g134⟩,hc136⟩:=qCO (S.row_at (i:=0) rfl) qC.z x89 c122.1 c122.2
 refine on1 8 E (.set (d:=qC.k) (n:=t78.length) (i:=x89) (⟨(nth qC.z l88 x89).f0,t114⟩:qC) 1 (ea1 _ _ _) S c122 [iv ((nth qC.z l88 x89).f0),.slice A132 (((nth qC.z l88 x89).f1).length) c133] hc136 [iv ((nth qC.z l88 x89).f0),.slice A117 t114.length c118] ⟨_,_,rfl,g131⟩) ?_
 rintro _ u129 a ⟨rfl,S,hz⟩ E
 refine ⟨.d,?_⟩
 refine dn ?_
 refine qCL ?_
 refine hK98 _ _ (pl0 (plc E (.r 0 2 .nil) (fun a E=>pld ?_)))
 replace S:=S.pm [2,3,4,5,0] 6
 exact qCM ⟨k93,by omega,_,(l88.set (x89).toNat (⟨(nth qC.z l88 x89).f0,t114⟩:qC)),(w64 (x89+1)),F130,by omega,E,.of,S,H⟩
 refine wp_exit ?_
 refine hK86 _ _ (sq fun K137 hK137=>pl0 (plc E (.bn 0 0 7 (S.ba 0) .nil) (fun a E=>?_)))
 replace S:=S.front 1 rfl
 refine pls E S [iv x.f0,iv x.f1,iv x.f2,iv x.f3,.slice A11 t8.length c12,.slice A19 t16.length c20,.slice A81 t78.length c82] fun u138 hb4 S a E=>pld (hK137 _ _ (wp_ret ?_))
 have hn139:=(qCN (S.row_at (i:=3) rfl)).1
 replace S:Sm W F u138 F90 [box b4 #[iv x.f0,iv x.f1,iv x.f2,iv x.f3,.slice A11 t8.length c12,.slice A19 l27.length c20,.slice A81 t78.length c82] 27,box b2 #[iv x.f0,iv x.f1,iv x.f2,iv x.f3,.slice A11 t8.length c12,.slice A19 l27.length c20,.slice A81 t78.length c82] 27,row qA.k 153 (.slice A11 t8.length c12) t8,row qI.k 84 (.slice A19 l27.length c20) l27,row qC.k 87 (.slice A81 t78.length c82) l88]:=by rw [← hn139]; exact S
 have hn140:=(qCN (S.row_at (i:=4) rfl)).1
 replace S:Sm W F u138 F90 [box b4 #[iv x.f0,iv x.f1,iv x.f2,iv x.f3,.slice A11 t8.length c12,.slice A19 l27.length c20,.slice A81 l88.length c82] 27,box b2 #[iv x.f0,iv x.f1,iv x.f2,iv x.f3,.slice A11 t8.length c12,.slice A19 l27.length c20,.slice A81 l88.length c82] 27,row qA.k 153 (.slice A11 t8.length c12) t8,row qI.k 84 (.slice A19 l27.length c20) l27,row qC.k 87 (.slice A81 l88.length c82) l88]:=by rw [← hn140]; exact S
 have hb4:=S.ba 0
 replace S:=S.pm [] 2
 obtain rfl:=si H
 exact ret1 E rfl (.cell (by kernel_rfl) (qCW [iv x.f0,iv x.f1,iv x.f2,iv x.f3,.slice A11 t8.length c12,.slice A19 l27.length c20,.slice A81 l88.length c82] ag27 sz27 hb4 rfl) .nil) ⟨_,rfl,_,_,_,_,_,_,_,rfl,S⟩
def qBL.f(x:Int):Option Bool:=some (!(x == x))
def qBL.Post(W F:World)(r:Bool)(v:Value)(w':World):Prop:=∃(F':World),v = .bool r∧Sm W F w' F' []
theorem qBL.calls(x:Int)(r:Bool)(W F:World)(hown:Sub F W)(H:qBL.f x=some r):
    Cr 233 #[iv x] W (qBL.Post W F r):=by
 have S:=sT hown
 unfold qBL.f at H
 refine ent 6 rfl rfl rfl (fun a E=>?_)
 refine rr E fun a E=>(rr E fun a E=>(wp_ret ?_))
 obtain rfl:=si H
 exact rt1 E ⟨_,rfl,_,rfl,S⟩
end Go.Proofs.YtpabbpebefdafaaGreat.CN
