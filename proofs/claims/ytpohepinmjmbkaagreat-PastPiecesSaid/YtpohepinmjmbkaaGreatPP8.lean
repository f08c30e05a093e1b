import Derived.Test.YtpohepinmjmbkaaGreatPP7
namespace Go.Proofs.YtpohepinmjmbkaaGreat.PP
open Go Go.RowKit Go.Proofs.YtpohepinmjmbkaaGreat.Sl
set_option linter.unusedVariables false
set_option linter.unusedSimpArgs false
set_option maxHeartbeats 4000000
set_option maxRecDepth 100000
def qCH.f(k:Nat)(x:qF)(y:Int):Option (List Int):=(qCA.f k x y).bind fun t7=>(if t7.2=true then (if 0≤t7.1∧t7.1<(x.f5.length:Int) then ((qAX.f ((nth qD.z x.f5 t7.1).f1)).bind fun t21=>(some t21)) else (none)) else ((qCM.f k x.f4 y x.f1).bind fun t30=>(some t30)))
def qCH.Post(W F:World)(r:List Int)(v:Value)(w':World):Prop:=∃(F':World)(RA0_0:OA)(rc0_0:Nat),v = .slice RA0_0 r.length rc0_0∧Sm W F w' F' [row ki 3 (.slice RA0_0 r.length rc0_0) r]
theorem qCH.calls(k:Nat)(x:qF)(y:Int)(A0_4:OA)(c0_4:Nat)(A0_5:OA)(c0_5:Nat)(A0_6:OA)(c0_6:Nat)(r:List Int)(W F:World)(hown:Sub F W)(g0_4:Rd qA.k F A0_4 c0_4 x.f4)(g0_5:Rd qD.k F A0_5 c0_5 x.f5)(g0_6:Rd qC.k F A0_6 c0_6 x.f6)(H:qCH.f k x y=some r):
    Cr 71 #[.agg #[iv x.f0,iv x.f1,iv x.f2,iv x.f3,.slice A0_4 x.f4.length c0_4,.slice A0_5 x.f5.length c0_5,.slice A0_6 x.f6.length c0_6],iv y] W (qCH.Post W F r):=by
 have S:=St.start (Own.nil hown)
 unfold qCH.f at H
 refine ent 27 rfl rfl rfl (fun a E=>?_)
 refine sq fun K1 hK1=>pl0 (plx (t:=26) E S [iv x.f0,iv x.f1,iv x.f2,iv x.f3,.slice A0_4 x.f4.length c0_4,.slice A0_5 x.f5.length c0_5,.slice A0_6 x.f6.length c0_6] fun b2 u3 hb2 S a E=>plc E (.r 1 1 .nil) (fun a E=>pld (hK1 _ _ (sq fun K4 hK4=>sq fun K5 hK5=>pl0 (plc E (.bn 0 0 7 hb2<|.r 1 1<|.nil) (fun a E=>?_))))))
 obtain ⟨t7,h8,H⟩:=bd H
 refine plq E S en121 (qCA.calls k x y _ _ _ _ _ _ _ _ _ S.own.sub g0_4 g0_5 g0_6 h8) fun u6 S a E=>plc E (.r 3 5 .nil) (fun a E=>pld (hK5 _ _ (rr E fun a E=>(E.ib 13 H (fun c10 E H=>?_) fun c10 E H=>?_))))
 refine sq fun K11 hK11=>pl0 ?_
 have hb2:=S.ba 0
 obtain ⟨c12,H⟩:=gd H
 have hE_:=E
 obtain ⟨ad13,rfl⟩:=g0_5.addr c12.1 c12.2
 replace E:=hE_
 obtain ⟨cs15,⟨A17,c18,rfl,g19⟩,hc16⟩:=g0_5.el qD.z t7.1 c12.1 c12.2
 refine plc E (.r 0 1<|.b 1 5 hb2<|.r 2 1<|.x 3 c12<|.r 4 1<|.c 5 (S.fc hc16 1)<|.nil) (fun a E=>?_)
 obtain ⟨t21,h22,H⟩:=bd H
 refine ple E (.cl en112 (qAX.calls ((nth qD.z x.f5 t7.1).f1) _ _ _ _ _ S.own.sub g19 h22)) ?_
 rintro _ u20 a ⟨F23,A24,c25,rfl,hC⟩ E
 have hs:=hC.sub
 replace S:=S.called (X:=[]) hC
 replace g0_4:=g0_4.mono hs
 replace g0_5:=g0_5.mono hs
 replace g0_6:=g0_6.mono hs
 replace g19:=g19.mono hs
 refine plc E (.r 7 1 .nil) (fun a E=>pld (hK11 _ _ (wp_ret (qCV ?_))))
 replace S:=S.pm [0] 2
 obtain rfl:=si H
 exact rt1 E ⟨_,rfl,_,_,_,rfl,S⟩
 refine wp_skip (hK4 _ _ (sq fun K28 hK28=>pl0 ?_))
 have hb2:=S.ba 0
 refine plc E (.r 0 1<|.b 1 4 hb2<|.r 2 2<|.b 4 1 hb2<|.nil) (fun a E=>?_)
 obtain ⟨t30,h31,H⟩:=bd H
 refine ple E (.cl en122 (qCM.calls k x.f4 y x.f1 _ _ _ _ _ S.own.sub g0_4 h31)) ?_
 rintro _ u29 a ⟨F32,A33,c34,rfl,hC⟩ E
 have hs:=hC.sub
 replace S:=S.called (X:=[]) hC
 replace g0_4:=g0_4.mono hs
 replace g0_5:=g0_5.mono hs
 replace g0_6:=g0_6.mono hs
 refine plc E (.r 6 1 .nil) (fun a E=>pld (hK28 _ _ (wp_ret ?_)))
 replace S:=S.pm [0] 2
 obtain rfl:=si H
 exact rt1 E ⟨_,rfl,_,_,_,rfl,S⟩
def qBj.f(x:qA)(y:Int):Option Int:=(qBB.f x.f0 y).bind fun t6=>(some t6)
def qBj.Post(W F:World)(r:Int)(v:Value)(w':World):Prop:=∃(F':World),v=iv r∧Sm W F w' F' []
theorem qBj.calls(x:qA)(y:Int)(r:Int)(W F:World)(hown:Sub F W)(H:qBj.f x y=some r):
    Cr 174 #[.agg #[iv x.f0,iv x.f1,iv x.f2,iv x.f3,.bool x.f4,.bool x.f5],iv y] W (qBj.Post W F r):=by
 have S:=St.start (Own.nil hown)
 unfold qBj.f at H
 refine ent 9 rfl rfl rfl (fun a E=>?_)
 refine sq fun K1 hK1=>pl0 (plx (t:=104) E S [iv x.f0,iv x.f1,iv x.f2,iv x.f3,.bool x.f4,.bool x.f5] fun b2 u3 hb2 S a E=>plc E (.r 1 1 .nil) (fun a E=>pld (hK1 _ _ (sq fun K4 hK4=>pl0 (plc E (.r 0 1<|.b 1 0 hb2<|.r 2 1<|.nil) (fun a E=>?_))))))
 obtain ⟨t6,h7,H⟩:=bd H
 refine plq E S en161 (qBB.calls x.f0 y _ _ _ S.own.sub h7) fun u5 S a E=>plc E (.r 4 1 .nil) (fun a E=>pld (hK4 _ _ (wp_ret ?_)))
 replace S:=S.tail
 obtain rfl:=si H
 exact rt1 E ⟨_,rfl,_,rfl,S⟩
def qP.l7:Nat→List qA→Int→Int→Int→Option (Int × Bool)
 | 0,_,_,_,_=>none
 | k+1,x,y,x5,x6=>if x5<x6 then (if 0≤(w64 ((IntKind.u64.wrap (w64 (x5+x6))).fdiv 2))∧(w64 ((IntKind.u64.wrap (w64 (x5+x6))).fdiv 2))<(x.length:Int) then ((qBj.f (nth qA.z x (w64 ((IntKind.u64.wrap (w64 (x5+x6))).fdiv 2))) y).bind fun t22=>(if t22<0 then (qP.l7 k x y (w64 ((w64 ((IntKind.u64.wrap (w64 (x5+x6))).fdiv 2))+1)) x6) else (qP.l7 k x y x5 (w64 ((IntKind.u64.wrap (w64 (x5+x6))).fdiv 2))))) else (none)) else (if x5<(x.length:Int) then (if 0≤x5∧x5<(x.length:Int) then ((qBj.f (nth qA.z x x5) y).bind fun t33=>(some (x5,(t33 == 0)))) else (none)) else (some (x5,false)))
theorem qP.l7_s k x y x5 x6:type_of% (qP.l7.eq_2 x y x5 x6 k):=qP.l7.eq_2 x y x5 x6 k
def qP.f(k:Nat)(x:List qA)(y:Int):Option (Int × Bool):=qP.l7 k x y 0 (x.length:Int)
def qP.Post(W F:World)(r:Int × Bool)(v:Value)(w':World):Prop:=∃(F':World),v = .tuple #[iv r.1,.bool r.2]∧Sm W F w' F' []
theorem qP.calls(k:Nat)(x:List qA)(y:Int)(A0_0:OA)(c0_0:Nat)(r:Int × Bool)(W F:World)(hown:Sub F W)(g0_0:Rd qA.k F A0_0 c0_0 x)(H:qP.f k x y=some r):
    Cr 173 #[.slice A0_0 x.length c0_0,iv y,.func (.func 174) #[] #[]] W (qP.Post W F r):=by
 have S:=St.start (Own.nil hown)
 unfold qP.f at H
 refine ent 49 rfl rfl rfl (fun a E=>?_)
 refine rr E fun a E=>(rr E fun a E=>(rr E fun a E=>(sq fun K4 hK4=>wp_block ?_)))
 refine wp_loop_ghost (fun kq8 a w'=>∃(G:NV)(x5:Int)(x6:Int),kq8≤k∧Env 49 G a∧At G [(0,.slice A0_0 x.length c0_0),(1,iv y),(2,.func (.func 174) #[] #[]),(8,iv (x.length:Int)),(9,iv x5),(10,iv x6)]∧Sm W F w' F []∧qP.l7 kq8 x y x5 x6=some r) k ⟨_,0,(x.length:Int),Nat.le_refl _,E,.of,S,H⟩ ?_
 rintro kq8 a u10 ⟨G,x5,x6,hkq,E,A,S,H⟩
 obtain _ | k9:=kq8
 exact zz H
 rw [qP.l7_s]at H
 obtain ⟨J,E⟩:=E.at A
 refine sq fun K11 hK11=>rr E fun a E=>(E.ik 17 H (fun c13 E H=>?_) fun c13 E H=>?_)
 refine wp_skip (hK11 _ _ (wp_block (rr E fun a E=>(sq fun K15 hK15=>pl0 ?_))))
 obtain ⟨c16,H⟩:=gd H
 have hE_:=E
 obtain ⟨ad17,rfl⟩:=g0_0.addr c16.1 c16.2
 replace E:=hE_
 obtain ⟨cs19,rfl,hc20⟩:=g0_0.el qA.z (w64 ((IntKind.u64.wrap (w64 (x5+x6))).fdiv 2)) c16.1 c16.2
 refine plc E (.r 0 3<|.x 3 c16<|.cs 4 (S.fcs hc20)<|.r 5 1<|.nil) (fun a E=>?_)
 obtain ⟨t22,h23,H⟩:=bd H
 refine plq E S en174 (qBj.calls (nth qA.z x (w64 ((IntKind.u64.wrap (w64 (x5+x6))).fdiv 2))) y _ _ _ S.own.sub h23) fun u21 S a E=>plc E (.r 7 1 .nil) (fun a E=>pld (hK15 _ _ (E.ik 31 H (fun c24 E H=>?_) fun c24 E H=>?_)))
 refine pl0 (plc E (.r 0 3 .nil) (fun a E=>pld ?_))
 refine qCX ?_
 exact qCY ⟨k9,by omega,_,(w64 ((w64 ((IntKind.u64.wrap (w64 (x5+x6))).fdiv 2))+1)),x6,by omega,E,.of,S,H⟩
 refine pl0 (plc E (.r 0 2 .nil) (fun a E=>pld ?_))
 refine qCX ?_
 exact qCY ⟨k9,by omega,_,x5,(w64 ((IntKind.u64.wrap (w64 (x5+x6))).fdiv 2)),by omega,E,.of,S,H⟩
 refine wp_exit ?_
 refine hK4 _ _ (sq fun K25 hK25=>pl0 (plc E (.r 0 5 .nil) (fun a E=>E.fk 39 H (fun c26 E H=>?_) fun c26 E H=>?_)))
 obtain ⟨c27,H⟩:=gd H
 have hE_:=E
 obtain ⟨ad28,rfl⟩:=g0_0.addr c27.1 c27.2
 replace E:=hE_
 obtain ⟨cs30,rfl,hc31⟩:=g0_0.el qA.z x5 c27.1 c27.2
 refine plc E (.r 5 3<|.x 8 c27<|.cs 9 (S.fcs hc31)<|.r 10 1<|.nil) (fun a E=>?_)
 obtain ⟨t33,h34,H⟩:=bd H
 refine plq E S en174 (qBj.calls (nth qA.z x x5) y _ _ _ S.own.sub h34) fun u32 S a E=>plc E (.r 12 4 .nil) (fun a E=>pld (hK25 _ _ (wp_ret ?_)))
 obtain rfl:=si H
 exact rtN E ⟨_,rfl,_,rfl,S⟩
 refine plc E (.r 5 11 .nil) (fun a E=>pld (hK25 _ _ (wp_ret ?_)))
 obtain rfl:=si H
 exact rtN E ⟨_,rfl,_,rfl,S⟩
def qBZ.j15:Nat→List qA→Int × Bool→Bool→Option (qA × Bool)
 | 0,_,_,_=>none
 | k+1,x,t6,y14=>if y14=true then (some ((⟨0,0,0,0,false,false⟩:qA),false)) else (if 0≤t6.1∧t6.1<(x.length:Int) then (some ((nth qA.z x t6.1),true)) else (none))
theorem qBZ.j15_s k x t6 y14:type_of% (qBZ.j15.eq_2 x t6 y14 k):=qBZ.j15.eq_2 x t6 y14 k
def qBZ.f(k:Nat)(x:List qA)(y:Int):Option (qA × Bool):=(qP.f k x y).bind fun t6=>(if t6.2=true then ((qAV.f k x).bind fun t12=>(qBZ.j15 k x t6 (!(t12 == 0)))) else (qBZ.j15 k x t6 true))
def qBZ.Post(W F:World)(r:qA × Bool)(v:Value)(w':World):Prop:=∃(F':World),v = .tuple #[.agg #[iv r.1.f0,iv r.1.f1,iv r.1.f2,iv r.1.f3,.bool r.1.f4,.bool r.1.f5],.bool r.2]∧Sm W F w' F' []
theorem qBZ.calls(k:Nat)(x:List qA)(y:Int)(A0_0:OA)(c0_0:Nat)(r:qA × Bool)(W F:World)(hown:Sub F W)(g0_0:Rd qA.k F A0_0 c0_0 x)(H:qBZ.f k x y=some r):
    Cr 127 #[.slice A0_0 x.length c0_0,iv y] W (qBZ.Post W F r):=by
 have S:=St.start (Own.nil hown)
 unfold qBZ.f at H
 refine ent 26 rfl rfl rfl (fun a E=>?_)
 refine sq fun K1 hK1=>pl0 (pla (t:=104) E S [iv 0,iv 0,iv 0,iv 0,.bool false,.bool false] fun b2 u3 hb2 S a E=>plc E (.r 1 1 .nil) (fun a E=>pld (hK1 _ _ (sq fun K4 hK4=>pl0 (plc E (.r 0 2 .nil) (fun a E=>?_))))))
 obtain ⟨t6,h7,H⟩:=bd H
 refine plq E S en173 (qP.calls k x y _ _ _ _ _ S.own.sub g0_0 h7) fun u5 S a E=>plc E (.r 3 5 .nil) (fun a E=>pld (hK4 _ _ (sq fun K8 hK8=>sq fun K9 hK9=>?_)))
 have J18:∀ kq16,kq16≤k→∀(G:NV)(y14:Bool)(a:Act)(w':World),Env 26 G a→At G [(0,.slice A0_0 x.length c0_0),(4,.pointer (pb b2)),(6,iv t6.1),(20,.bool y14)]→Sm W F w' F [box b2 #[iv 0,iv 0,iv 0,iv 0,.bool false,.bool false] 104]→qBZ.j15 kq16 x t6 y14=some r→K9 a w':=by
  intro kq16 hkq G y14 a u19 E A S H
  obtain _ | k17:=kq16
  exact zz H
  rw [qBZ.j15_s]at H
  obtain ⟨J,E⟩:=E.at A
  refine hK9 _ _ (E.ib 20 H (fun c20 E H=>?_) fun c20 E H=>?_)
  refine sq fun K21 hK21=>pl0 (plc E (.r 0 1 .nil) (fun a E=>pls E S [iv 0,iv 0,iv 0,iv 0,.bool false,.bool false] fun u22 hb2 S a E=>plc E (.r 2 1 .nil) (fun a E=>pld (hK21 _ _ (wp_ret (qCV ?_))))))
  replace S:=S.tail
  obtain rfl:=si H
  exact rtm E (.b hb2 ag104 sz104 (.t .nil)) ⟨_,rfl,_,rfl,S⟩
  refine wp_skip (hK8 _ _ (sq fun K23 hK23=>pl0 ?_))
  obtain ⟨c24,H⟩:=gd H
  have hE_:=E
  obtain ⟨ad25,rfl⟩:=g0_0.addr c24.1 c24.2
  replace E:=hE_
  obtain ⟨cs27,rfl,hc28⟩:=g0_0.el qA.z t6.1 c24.1 c24.2
  refine plc E (.r 0 2<|.x 2 c24<|.cs 3 (S.fcs hc28)<|.nil) (fun a E=>pls E S [iv ((nth qA.z x t6.1).f0),iv ((nth qA.z x t6.1).f1),iv ((nth qA.z x t6.1).f2),iv ((nth qA.z x t6.1).f3),.bool ((nth qA.z x t6.1).f4),.bool ((nth qA.z x t6.1).f5)] fun u29 hb2 S a E=>plc E (.r 5 1 .nil) (fun a E=>pld (hK23 _ _ (wp_ret ?_))))
  replace S:=S.tail
  obtain rfl:=si H
  exact rtm E (.b hb2 ag104 sz104 (.t .nil)) ⟨_,rfl,_,rfl,S⟩
 refine pl0 (plc E (.r 0 3 .nil) (fun a E=>E.fbn 16 H (fun c10 E H=>?_) fun c10 E H=>?_))
 refine plc E (.r 3 1 .nil) (fun a E=>?_)
 obtain ⟨t12,h13,H⟩:=bd H
 refine plq E S en80 (qAV.calls k x _ _ _ _ _ S.own.sub g0_0 h13) fun u11 S a E=>plc E (.r 5 2 .nil) (fun a E=>pld ?_)
 exact J18 _ (by omega) _ (!(t12 == 0)) _ _ E .of S H
 refine plc E (.r 3 4 .nil) (fun a E=>pld ?_)
 exact J18 _ (by omega) _ true _ _ E .of S H
def qBq.f(k:Nat)(x:Int)(xf0_:qF):Option Bool:=(qBZ.f k xf0_.f4 x).bind fun t4=>(some (!t4.1.f4))
def qBq.Post(W F:World)(r:Bool)(v:Value)(w':World):Prop:=∃(F':World),v = .bool r∧Sm W F w' F' []
theorem qBq.calls(k:Nat)(x:Int)(xf0_:qF)(pf0_:Nat)(Af0_4:OA)(cf0_4:Nat)(Af0_5:OA)(cf0_5:Nat)(Af0_6:OA)(cf0_6:Nat)(r:Bool)(W F:World)(hown:Sub F W)(gf0_4:Rd qA.k F Af0_4 cf0_4 xf0_.f4)(gf0_5:Rd qD.k F Af0_5 cf0_5 xf0_.f5)(gf0_6:Rd qC.k F Af0_6 cf0_6 xf0_.f6)(hpf0_:F.heap[pf0_]? = some (.cells #[iv xf0_.f0,iv xf0_.f1,iv xf0_.f2,iv xf0_.f3,.slice Af0_4 xf0_.f4.length cf0_4,.slice Af0_5 xf0_.f5.length cf0_5,.slice Af0_6 xf0_.f6.length cf0_6] 26 (0,0)))(H:qBq.f k x xf0_=some r):
    Cr 126 #[iv x,.pointer (pb pf0_)] W (qBq.Post W F r):=by
 have S:=St.start (Own.nil hown)
 unfold qBq.f at H
 refine ent 16 rfl rfl rfl (fun a E=>?_)
 refine rr E fun a E=>(sq fun K2 hK2=>pl0 (plc E (.r 0 1<|.b 1 4 (S.own.sub _ _ _ _ hpf0_)<|.r 2 1<|.nil) (fun a E=>?_)))
 obtain ⟨t4,h5,H⟩:=bd H
 refine plq E S en127 (qBZ.calls k xf0_.f4 x _ _ _ _ _ S.own.sub gf0_4 h5) fun u3 S a E=>plc E (.r 4 3 .nil) (fun a E=>pla (t:=104) E S [iv 0,iv 0,iv 0,iv 0,.bool false,.bool false] fun b6 u7 hb6 S a E=>pls E S [iv t4.1.f0,iv t4.1.f1,iv t4.1.f2,iv t4.1.f3,.bool t4.1.f4,.bool t4.1.f5] fun u8 hb6 S a E=>plc E (.r 9 1 .nil) (fun a E=>pld (hK2 _ _ (rg E (.r 0 1<|.b 1 4 hb6<|.r 2 2<|.nil) fun a E=>(wp_ret ?_)))))
 replace S:=S.tail
 obtain rfl:=si H
 exact rt1 E ⟨_,rfl,_,rfl,S⟩
def qk.l5:Nat→List Int→qF→Int→Option Int
 | 0,_,_,_=>none
 | k+1,x,x1c0_,x4=>if x4<(x.length:Int) then (if 0≤x4∧x4<(x.length:Int) then ((qBq.f k (nth 0 x x4) x1c0_).bind fun t21=>(if t21=true then (some x4) else (qk.l5 k x x1c0_ (w64 (x4+1))))) else (none)) else (some (-1))
theorem qk.l5_s k x x1c0_ x4:type_of% (qk.l5.eq_2 x x1c0_ x4 k):=qk.l5.eq_2 x x1c0_ x4 k
def qk.f(k:Nat)(x:List Int)(x1c0_:qF):Option Int:=qk.l5 k x x1c0_ 0
def qk.Post(W F:World)(r:Int)(v:Value)(w':World):Prop:=∃(F':World),v=iv r∧Sm W F w' F' []
theorem qk.calls(k:Nat)(x:List Int)(x1c0_:qF)(A0_0:OA)(c0_0:Nat)(p1c0_:Nat)(A1c0_4:OA)(c1c0_4:Nat)(A1c0_5:OA)(c1c0_5:Nat)(A1c0_6:OA)(c1c0_6:Nat)(r:Int)(W F:World)(hown:Sub F W)(g0_0:Rd ki F A0_0 c0_0 x)(g1c0_4:Rd qA.k F A1c0_4 c1c0_4 x1c0_.f4)(g1c0_5:Rd qD.k F A1c0_5 c1c0_5 x1c0_.f5)(g1c0_6:Rd qC.k F A1c0_6 c1c0_6 x1c0_.f6)(hp1c0_:F.heap[p1c0_]? = some (.cells #[iv x1c0_.f0,iv x1c0_.f1,iv x1c0_.f2,iv x1c0_.f3,.slice A1c0_4 x1c0_.f4.length c1c0_4,.slice A1c0_5 x1c0_.f5.length c1c0_5,.slice A1c0_6 x1c0_.f6.length c1c0_6] 26 (0,0)))(H:qk.f k x x1c0_=some r):
    Cr 157 #[.slice A0_0 x.length c0_0,.func (.func 126) #[] #[.pointer (pb p1c0_)]] W (qk.Post W F r):=by
 have S:=St.start (Own.nil hown)
 unfold qk.f at H
 refine ent 19 rfl rfl rfl (fun a E=>?_)
 refine rr E fun a E=>(sq fun K2 hK2=>rr E fun a E=>(wp_block ?_))
 refine wp_loop_ghost (fun kq6 a w'=>∃(G:NV)(x4:Int),kq6≤k∧Env 19 G a∧At G [(0,.slice A0_0 x.length c0_0),(1,.func (.func 126) #[] #[.pointer (pb p1c0_)]),(7,iv (x.length:Int)),(8,iv x4)]∧Sm W F w' F []∧qk.l5 kq6 x x1c0_ x4=some r) k ⟨_,0,Nat.le_refl _,E,.of,S,H⟩ ?_
 rintro kq6 a u8 ⟨G,x4,hkq,E,A,S,H⟩
 obtain _ | k7:=kq6
 exact zz H
 rw [qk.l5_s]at H
 obtain ⟨J,E⟩:=E.at A
 refine rr E fun a E=>(sq fun K10 hK10=>E.ik 9 H (fun c11 E H=>?_) fun c11 E H=>?_)
 refine wp_skip (hK10 _ _ (sq fun K12 hK12=>wp_block (rr E fun a E=>(sq fun K14 hK14=>pl0 ?_))))
 obtain ⟨c15,H⟩:=gd H
 have hE_:=E
 obtain ⟨ad16,rfl⟩:=g0_0.addr c15.1 c15.2
 replace E:=hE_
 obtain ⟨cs18,rfl,hc19⟩:=g0_0.el 0 x4 c15.1 c15.2
 refine plc E (.r 0 3<|.x 3 c15<|.c 4 (S.fc hc19 0)<|.nil) (fun a E=>?_)
 obtain ⟨t21,h22,H⟩:=bd H
 refine plq E S en126 (qBq.calls k7 (nth 0 x x4) x1c0_ _ _ _ _ _ _ _ _ _ _ S.own.sub g1c0_4 g1c0_5 g1c0_6 hp1c0_ h22) fun u20 S a E=>pld (hK14 _ _ (E.ib 16 H (fun c23 E H=>?_) fun c23 E H=>?_))
 refine rr E fun a E=>(wp_ret (qCW (qCV (qCV (qCW (qCV ?_))))))
 obtain rfl:=si H
 exact rt1 E ⟨_,rfl,_,rfl,S⟩
 refine wp_skip ?_
 refine qCX ?_
 refine hK12 _ _ (pl0 (plc E (.r 0 2 .nil) (fun a E=>pld ?_)))
 exact qCY ⟨k7,by omega,_,(w64 (x4+1)),by omega,E,.of,S,H⟩
 refine wp_exit ?_
 refine hK2 _ _ (rr E fun a E=>(wp_ret ?_))
 obtain rfl:=si H
 exact rt1 E ⟨_,rfl,_,rfl,S⟩
def qi.l15:Nat→List Int→qF→List Int→Int→Int→Option (List Int)
 | 0,_,_,_,_,_=>none
 | k+1,x,x1c0_,l12,x13,x14=>if x14<(x.length:Int) then (if 0≤x14∧x14<(x.length:Int) then ((qBq.f k (nth 0 l12 x14) x1c0_).bind fun t33=>(if t33=true then (qi.l15 k x x1c0_ l12 x13 (w64 (x14+1))) else (if 0≤x13∧x13<(x.length:Int) then (qi.l15 k x x1c0_ (l12.set (x13).toNat (nth 0 l12 x14)) (w64 (x13+1)) (w64 (x14+1))) else (none)))) else (none)) else (if 0≤x13∧x13≤(x.length:Int) then (some (cutl (l12.take (x13).toNat++List.replicate (x.length - (x13).toNat) 0) 0 x13)) else (none))
theorem qi.l15_s k x x1c0_ l12 x13 x14:type_of% (qi.l15.eq_2 x x1c0_ l12 x13 x14 k):=qi.l15.eq_2 x x1c0_ l12 x13 x14 k
def qi.f(k:Nat)(x:List Int)(x1c0_:qF):Option (List Int):=(qk.f k x x1c0_).bind fun t4=>(if t4=(-1) then (some x) else (qi.l15 k x x1c0_ x t4 (w64 (t4+1))))
def qi.Post(x:List Int)(x1c0_:qF)(A0_0:OA)(c0_0:Nat)(p1c0_:Nat)(A1c0_4:OA)(c1c0_4:Nat)(A1c0_5:OA)(c1c0_5:Nat)(A1c0_6:OA)(c1c0_6:Nat)(W F:World)(r:List Int)(v:Value)(w':World):Prop:=∃(F':World)(RA0_0:OA)(rc0_0:Nat),v = .slice RA0_0 r.length rc0_0∧St W (mine W [row ki 3 (.slice A0_0 x.length c0_0) x]) F w' F' [row ki 3 (.slice RA0_0 r.length rc0_0) r]
theorem qi.calls(k:Nat)(x:List Int)(x1c0_:qF)(A0_0:OA)(c0_0:Nat)(p1c0_:Nat)(A1c0_4:OA)(c1c0_4:Nat)(A1c0_5:OA)(c1c0_5:Nat)(A1c0_6:OA)(c1c0_6:Nat)(r:List Int)(W F:World)(hown:Own W F [row ki 3 (.slice A0_0 x.length c0_0) x])(g1c0_4:Rd qA.k F A1c0_4 c1c0_4 x1c0_.f4)(g1c0_5:Rd qD.k F A1c0_5 c1c0_5 x1c0_.f5)(g1c0_6:Rd qC.k F A1c0_6 c1c0_6 x1c0_.f6)(hp1c0_:F.heap[p1c0_]? = some (.cells #[iv x1c0_.f0,iv x1c0_.f1,iv x1c0_.f2,iv x1c0_.f3,.slice A1c0_4 x1c0_.f4.length c1c0_4,.slice A1c0_5 x1c0_.f5.length c1c0_5,.slice A1c0_6 x1c0_.f6.length c1c0_6] 26 (0,0)))(H:qi.f k x x1c0_=some r):
    Cr 125 #[.slice A0_0 x.length c0_0,.func (.func 126) #[] #[.pointer (pb p1c0_)]] W (qi.Post x x1c0_ A0_0 c0_0 p1c0_ A1c0_4 c1c0_4 A1c0_5 c1c0_5 A1c0_6 c1c0_6 W F r):=by
 have S:=St.start hown
 obtain ⟨N,hN⟩:∃ N,N=mine W [row ki 3 (.slice A0_0 x.length c0_0) x]:=⟨_,rfl⟩
 rw [← hN]at S
 unfold qi.f at H
 refine ent 42 rfl rfl rfl (fun a E=>?_)
 refine rr E fun a E=>(sq fun K2 hK2=>pl0 (plc E (.r 0 2 .nil) (fun a E=>?_)))
 obtain ⟨t4,h5,H⟩:=bd H
 refine plq E S en157 (qk.calls k x x1c0_ _ _ _ _ _ _ _ _ _ _ _ _ (Sub.refl _) (S.rd_at (i:=0) rfl) (g1c0_4.mono S.own.sub) (g1c0_5.mono S.own.sub) (g1c0_6.mono S.own.sub) (S.own.sub _ _ _ _ hp1c0_) h5) fun u3 S a E=>plc E (.r 3 1 .nil) (fun a E=>pld (hK2 _ _ (sq fun K6 hK6=>rr E fun a E=>(E.ik 12 H (fun c8 E H=>?_) fun c8 E H=>?_))))
 refine rr E fun a E=>(wp_ret (qCV ?_))
 rw [hN]at S
 obtain rfl:=si H
 exact rt1 E ⟨_,rfl,_,_,_,rfl,S⟩
 refine wp_skip (hK6 _ _ (sq fun K10 hK10=>rr E fun a E=>(wp_block ?_)))
 refine wp_loop_ghost (fun kq16 a w'=>∃(G:NV)(l12:List Int)(x13:Int)(x14:Int),kq16≤k∧Env 42 G a∧At G [(0,.slice A0_0 x.length c0_0),(1,.func (.func 126) #[] #[.pointer (pb p1c0_)]),(5,iv x13),(6,iv x14)]∧St W N F w' F [row ki 3 (.slice A0_0 x.length c0_0) l12]∧qi.l15 kq16 x x1c0_ l12 x13 x14=some r) k ⟨_,x,t4,(w64 (t4+1)),Nat.le_refl _,E,.of,S,H⟩ ?_
 rintro kq16 a u18 ⟨G,l12,x13,x14,hkq,E,A,S,H⟩
 obtain _ | k17:=kq16
 exact zz H
 rw [qi.l15_s]at H
 obtain ⟨J,E⟩:=E.at A
 refine sq fun K19 hK19=>rr E fun a E=>(E.ik 19 H (fun c21 E H=>?_) fun c21 E H=>?_)
 refine wp_skip (hK19 _ _ (sq fun K22 hK22=>wp_block (sq fun K23 hK23=>pl0 ?_)))
 obtain ⟨c24,H⟩:=gd H
 have hr25:=S.ra 0
 have c26:0≤x14∧x14<(l12.length:Int):=by rw [← (qCZ hr25).1]; exact c24
 have hE_:=E
 obtain ⟨b27,rfl⟩:=qCc hr25 c26.1 c26.2
 replace E:=hE_
 have hr_:=S.ra 0
 obtain ⟨cs29,rfl,hc30⟩:=qCa hr_ 0 x14 c26.1 c26.2
 refine plc E (.r 0 2<|.x 2 c24<|.c 3 (hc30 0 _ rfl)<|.r 4 1<|.nil) (fun a E=>pld (hK23 _ _ (sq fun K31 hK31=>pl0 (plc E (.r 0 2 .nil) (fun a E=>?_)))))
 obtain ⟨t33,h34,H⟩:=bd H
 refine plq E S en126 (qBq.calls k17 (nth 0 l12 x14) x1c0_ _ _ _ _ _ _ _ _ _ _ S.own.sub g1c0_4 g1c0_5 g1c0_6 hp1c0_ h34) fun u32 S a E=>plc E (.r 3 1 .nil) (fun a E=>pld (hK31 _ _ (E.ibn 29 H (fun c35 E H=>?_) fun c35 E H=>?_)))
 refine wp_skip ?_
 refine qCX ?_
 refine hK22 _ _ (pl0 (plc E (.r 0 3 .nil) (fun a E=>pld ?_)))
 exact qCY ⟨k17,by omega,_,l12,x13,(w64 (x14+1)),by omega,E,.of,S,H⟩
 refine sq fun K36 hK36=>pl0 ?_
 obtain ⟨c37,H⟩:=gd H
 have hr38:=S.ra 0
 have c39:0≤x13∧x13<(l12.length:Int):=by rw [← (qCZ hr38).1]; exact c37
 have hr_:=S.ra 0
 obtain ⟨cs41,rfl,hc42⟩:=qCa hr_ 0 x13 c39.1 c39.2
 refine plc E (.r 0 3<|.x 3 c37<|.nil) (fun a E=>?_)
 obtain ⟨cs44,rfl,hc45⟩:=qCa (S.row_at (i:=0) rfl) 0 x13 c39.1 c39.2
 refine ple E (.set (d:=ki) (n:=x.length) (i:=x13) (nth 0 l12 x14) (0) (ea0 _ _) S c39 [iv (nth 0 l12 x13)] hc45 [iv (nth 0 l12 x14)] rfl) ?_
 rintro _ u43 a ⟨rfl,S,hz⟩ E
 refine pld (hK36 _ _ (pl0 (plc E (.r 0 3 .nil) (fun a E=>pld ?_))))
 refine qCX ?_
 refine hK22 _ _ (pl0 (plc E (.r 0 3 .nil) (fun a E=>pld ?_)))
 exact qCY ⟨k17,by omega,_,(l12.set (x13).toNat (nth 0 l12 x14)),(w64 (x13+1)),(w64 (x14+1)),by omega,E,.of,S,H⟩
 refine wp_exit ?_
 refine hK10 _ _ (sq fun K46 hK46=>pl0 ?_)
 obtain ⟨c47,H⟩:=gd H
 obtain ⟨A48,c49,hA50,hv51⟩:=y_suf (P:=Tryz.prog) (k:=.i64) (S.row_at (i:=0) rfl) c47
 refine plc E (.r 0 2<|.y 2 (hv51 (by kernel_rfl))<|.nil) (fun a E=>ple E (.clr (d:=ki) (n:=x.length) (c':=c49) (lo:=x13) 8 0 S c47 hA50 (by rw [zr3]; exact rfl)) ?_)
 rintro _ u52 a ⟨rfl,S,hz⟩ E
 refine pld (hK46 _ _ (sq fun K53 hK53=>pl0 ?_))
 have hv54:=S.ra 0
 replace S:=S.shrink c47
 refine plc E (.r 0 2<|.y 2 (y_pre (k:=.i64) hv54 c47)<|.r 3 1<|.nil) (fun a E=>pld (hK53 _ _ (wp_ret ?_)))
 rw [hN]at S
 obtain rfl:=si H
 exact rt1 E ⟨_,rfl,_,_,_,rfl,S⟩
def qCP.f(k:Nat)(x:qF)(y:List Int):Option (List Int):=(qi.f k y x).bind fun t8=>(some t8)
def qCP.Post(x:qF)(y:List Int)(A0_4:OA)(c0_4:Nat)(A0_5:OA)(c0_5:Nat)(A0_6:OA)(c0_6:Nat)(A1_0:OA)(c1_0:Nat)(W F:World)(r:List Int)(v:Value)(w':World):Prop:=∃(F':World)(RA0_0:OA)(rc0_0:Nat),v = .slice RA0_0 r.length rc0_0∧St W (mine W [row ki 3 (.slice A1_0 y.length c1_0) y]) F w' F' [row ki 3 (.slice RA0_0 r.length rc0_0) r]
theorem qCP.calls(k:Nat)(x:qF)(y:List Int)(A0_4:OA)(c0_4:Nat)(A0_5:OA)(c0_5:Nat)(A0_6:OA)(c0_6:Nat)(A1_0:OA)(c1_0:Nat)(r:List Int)(W F:World)(hown:Own W F [row ki 3 (.slice A1_0 y.length c1_0) y])(g0_4:Rd qA.k F A0_4 c0_4 x.f4)(g0_5:Rd qD.k F A0_5 c0_5 x.f5)(g0_6:Rd qC.k F A0_6 c0_6 x.f6)(H:qCP.f k x y=some r):
    Cr 74 #[.agg #[iv x.f0,iv x.f1,iv x.f2,iv x.f3,.slice A0_4 x.f4.length c0_4,.slice A0_5 x.f5.length c0_5,.slice A0_6 x.f6.length c0_6],.slice A1_0 y.length c1_0] W (qCP.Post x y A0_4 c0_4 A0_5 c0_5 A0_6 c0_6 A1_0 c1_0 W F r):=by
 have S:=St.start hown
 obtain ⟨N,hN⟩:∃ N,N=mine W [row ki 3 (.slice A1_0 y.length c1_0) y]:=⟨_,rfl⟩
 rw [← hN]at S
 unfold qCP.f at H
 refine ent 8 rfl rfl rfl (fun a E=>?_)
 refine sq fun K1 hK1=>pl0 (plx (t:=26) E S [iv x.f0,iv x.f1,iv x.f2,iv x.f3,.slice A0_4 x.f4.length c0_4,.slice A0_5 x.f5.length c0_5,.slice A0_6 x.f6.length c0_6] fun b2 u3 hb2 S a E=>plc E (.r 1 1 .nil) (fun a E=>pld (hK1 _ _ (sq fun K4 hK4=>pl0 (plc E (.r 0 2 .nil) (fun a E=>?_))))))
 obtain ⟨F5,hs,g6,S⟩:=S.giveb
 replace g0_4:=g0_4.mono hs
 replace g0_5:=g0_5.mono hs
 replace g0_6:=g0_6.mono hs
 obtain ⟨t8,h9,H⟩:=bd H
 refine ple E (.cl en125 (qi.calls k y x _ _ _ _ _ _ _ _ _ _ _ _ (Own.left (X:=[row ki 3 (.slice A1_0 y.length c1_0) y]) S.own) g0_4 g0_5 g0_6 g6 h9)) ?_
 rintro _ u7 a ⟨F10,A11,c12,rfl,hC⟩ E
 have hs:=hC.sub
 replace S:=S.called (X:=[row ki 3 (.slice A1_0 y.length c1_0) y]) hC
 replace g0_4:=g0_4.mono hs
 replace g0_5:=g0_5.mono hs
 replace g0_6:=g0_6.mono hs
 replace g6:=hs _ _ _ _ g6
 refine plc E (.r 3 1 .nil) (fun a E=>pld (hK4 _ _ (wp_ret ?_)))
 rw [hN]at S
 obtain rfl:=si H
 exact rt1 E ⟨_,rfl,_,_,_,rfl,S⟩
theorem qHo:Enters Tryz.prog 186:=enters_of Tryz.func186 (by kernel_rfl) rfl
set_option maxHeartbeats 1000000 in
theorem qGv(F:Fence)(n:Nat)(h5:F.fn 138)(hro:F.round=none)(a:Option Addr)(len cap:Nat)(w:World):
  CallsIn F n Tryz.prog 138 #[.slice a len cap] w fun e w'=>e = .returned (.func (.func 186) #[] #[.pointer (some ⟨w.heap.size,0,none⟩)])∧w'=w.alloc (.cells #[.slice a len cap] 36):=by
 refine callsIn_of_wp Tryz.func138 rfl h5 ?_ hro
 simp only [Tryz.ntmps138,List.size_toArray,List.length_cons,List.length_nil,Nat.reduceAdd,Nat.reduceSub,Array.replicate_succ,Array.replicate_zero,List.push_toArray,List.append_toArray,List.nil_append,List.cons_append]
 gi_wp2
 go_ret
 exact ⟨rfl,rfl⟩
theorem qCI.calls(x0_:List Int)(A0_0:Option Addr)(c0_0:Nat)(W F:World)(hown:Sub F W):
  Calls Tryz.prog 138 #[.slice A0_0 x0_.length c0_0] W fun e w'=>∃ v,e = .returned v∧∃ p,v = .func (.func 186) #[] #[.pointer (some ⟨p,0,none⟩)]∧St W (mine W []) F w' F [box p #[.slice A0_0 x0_.length c0_0] 36]:=by
 refine (callsIn_wide.1 (qGv Fence.wide 1 trivial rfl A0_0 x0_.length c0_0 W)).mono ?_
 rintro e w' ⟨rfl,rfl⟩
 exact ⟨_,rfl,_,rfl,(St.start (Own.nil hown)).box _ _⟩
def upto{α : Type}(f:Nat→α)(k:Nat):List α:=(List.range k).map f
theorem qGw{α : Type}(f:Nat→α)(k:Nat):upto f (k+1)=upto f k++[f k]:=by simp [upto,List.range_succ]
theorem qFd{α : Type}(f:Nat→α)(k:Nat):(upto f k).length=k:=by simp [upto]
theorem qHp(zs:List Int):upto (fun j=>zs[j]?.getD 0) zs.length=zs:=by
 apply List.ext_getElem
 ·simp [upto]
 ·intro i h1 h2
  simp [upto,h2]
section
attribute [local go_sem] Oper.semAt_some
set_option maxRecDepth 100000 in
set_option maxHeartbeats 2000000 in
theorem qGT (F:Fence) (n:Nat) (h7:F.fn 186) (hro:F.round=none) (hn:1≤n) (l Bs n₀ b off cap:Nat) (zs:List Int) (hreach:zs.length * 8≤140737488351232) (hb:b<n₀) (J:List Int→World→Prop)
  (hY:∀ pre x W,J pre W→pre.length<zs.length→YieldAt F (n - 1) Tryz.prog l #[.int .i64 x] W fun e W'=>e = .returned (.bool true)∧J (pre++[x]) W'∧Below n₀ W W')
  (W:World) (hBs:W.cell? ⟨Bs,0,none⟩=some (.slice (some ⟨b,off,none⟩) zs.length cap)) (hc:∀ j,j<zs.length→W.cell? ⟨b,off+j,none⟩=some (.int .i64 (zs[j]?.getD 0))) (h0:J [] W) :
  CallsIn F n Tryz.prog 186 #[.func (.yield l) #[] #[],.pointer (some ⟨Bs,0,none⟩)] W fun e W'=>(∃ v,e = .returned v)∧J zs W':=by
 obtain ⟨len,hlen⟩:∃ len,Hid (zs.length=len):=⟨_,rfl⟩
 rw [hlen.out]at hreach hBs hc hY
 refine callsIn_of_wp Tryz.func186 rfl h7 ?_ hro
 simp only [Tryz.ntmps186,List.size_toArray,List.length_cons,List.length_nil,Nat.reduceAdd,Nat.reduceSub,Array.replicate_succ,Array.replicate_zero,List.push_toArray,List.append_toArray,List.nil_append,List.cons_append]
 gi_wp2
 gi_loopw [7] (fun i wr=>∃ k:Nat,k≤len∧i = .int .i64 k∧J (upto (fun j=>zs[j]?.getD 0) k) wr∧Below n₀ W wr)
  (fun i _=>len - (Sl.intOf' i).toNat)
 case atStart=>exact ⟨0,Nat.zero_le _,rfl,h0,Below.refl _ _⟩
 case round =>
  obtain ⟨k,hk,rfl,hJs,hnx⟩:=hrel
  have hcx:k<len→wr.cell? ⟨b,off+k,none⟩=some (.int .i64 (zs[k]?.getD 0)):=fun h=>(hnx.cell (p:=⟨b,off+k,none⟩) hb).trans (hc k h)
  by_cases hlt:k<len
  ·obtain ⟨fn,tmps,assign,body,hy,hR⟩:=hY _ (zs[k]?.getD 0) wr hJs (by rw [qFd]; exact hlt)
   have hcx':=hcx hlt
   gi_wp2
   refine hR.mono ?_
   rintro e W3 ⟨rfl,hJ3,hk3⟩
   gi_wp2
   go_roundw
   case rel=>exact ⟨k+1,by omega,by simp,by rw [qGw]; exact hJ3,hnx.trans hk3⟩
   case measure=>simp [Sl.intOf']; omega
  ·obtain rfl:k=len:=by omega
   gi_wp2
   go_end0
   refine ⟨⟨_,rfl⟩,?_⟩
   rw [← hlen.out,qHp]at hJs
   exact hJs
set_option maxRecDepth 100000 in
set_option maxHeartbeats 1000000 in
theorem qEJ(F:Fence)(n:Nat)(h7:F.fn 186)(hro:F.round=none)(l Bs:Nat)(A:Option Addr)(cap:Nat)(J:List Int→World→Prop)(W:World)(hBs:W.cell? ⟨Bs,0,none⟩=some (.slice A 0 cap))(h0:J [] W):
  CallsIn F n Tryz.prog 186 #[.func (.yield l) #[] #[],.pointer (some ⟨Bs,0,none⟩)] W fun e W'=>(∃ v,e = .returned v)∧J [] W':=by
 refine callsIn_of_wp Tryz.func186 rfl h7 ?_ hro
 simp only [Tryz.ntmps186,List.size_toArray,List.length_cons,List.length_nil,Nat.reduceAdd,Nat.reduceSub,Array.replicate_succ,Array.replicate_zero,List.push_toArray,List.append_toArray,List.nil_append,List.cons_append]
 gi_wp2
 gi_loopw [7] (fun i wr=>i = .int .i64 0∧J [] wr) (fun _ _=>0)
 case atStart=>exact ⟨rfl,h0⟩
 case round =>
  obtain ⟨rfl,hJs⟩:=hrel
  gi_wp2
  go_end0
  exact ⟨⟨_,rfl⟩,hJs⟩
end
theorem qFG(n:Nat)(hn:1≤n){A:Option Addr}{c p:Nat}{xs:List Int}{F W:World}(hs:Sub F W)(hr:Rd (Kn.int .i64) F A c xs)(hp:F.heap[p]? = some (.cells #[.slice A xs.length c] 36 (0,0)))(hreach:xs.length * 8≤140737488351232):GivesD Fence.wide n Tryz.prog 186 #[.pointer (some ⟨p,0,none⟩)] xs W:=by
 intro l J W1 hW hY h0
 have hpW:=hs _ _ _ _ hp
 have hB:W.cell? ⟨p,0,none⟩=some (.slice A xs.length c):=by simp [World.cell?,hpW]
 have hB1:=(hW.cell (p:=⟨p,0,none⟩) (qCg hpW)).trans hB
 rcases Nat.eq_zero_or_pos xs.length with h | h
 ·obtain rfl:xs=[]:=List.eq_nil_of_length_eq_zero h
  exact qEJ Fence.wide n trivial rfl l p A c J W1 hB1 h0
 ·obtain ⟨ad,rfl,hc⟩:=hr.2.2 h
  have hcell:∀ j (hj:j<xs.length),W.cell? (ad.add (j * 1+0))=some (.int .i64 xs[j]):=fun j hj=>by
   obtain ⟨cs,hK,hcs⟩:=hc j xs[j] (List.getElem?_eq_getElem hj)
   have e:cs=[.int .i64 xs[j]]:=hK
   exact hs.cell (hcs 0 _ (by rw [e]; rfl))
  have ha:=qEj (hcell 0 h)
  have e0:ad.add (0 * 1+0)=ad:=rfl
  rw [e0]at ha
  obtain ⟨b,off,s⟩:=ad
  obtain rfl:s=none:=congrArg Addr.spot ha.1
  refine qGT Fence.wide n trivial rfl hn l p W.heap.size b off c xs hreach ha.2 J hY W1 hB1 (fun j hj=>?_) h0
  have hj1:=hcell j hj
  have e1:(⟨b,off,none⟩:Addr).add (j * 1+0)=⟨b,off+j,none⟩:=by
   unfold Addr.add
   rw [Nat.mul_one,Nat.add_zero]
   split
   ·rename_i h; rw [h]; rfl
   ·rfl
  rw [e1]at hj1
  rw [(hW.cell (p:=⟨b,off+j,none⟩) ha.2).trans hj1,List.getElem?_eq_getElem hj]
  rfl
def qAO.f(x0c0_:List Int):Option (List Int):=if x0c0_.length≤1000000 then some x0c0_ else none
def qAO.Post(W F:World)(r:List Int)(v:Value)(w':World):Prop:=∃(F':World)(RA0_0:Option Addr)(rc0_0:Nat),v = .slice RA0_0 r.length rc0_0∧St W (mine W []) F w' F' [row (Kn.int .i64) 3 (.slice RA0_0 r.length rc0_0) r]
theorem qAO.calls(x0c0_:List Int)(p0c0_:Nat)(A0c0_0:Option Addr)(c0c0_0:Nat)(r:List Int)(W F:World)(hown:Sub F W)(g0c0_0:Rd (Kn.int .i64) F A0c0_0 c0c0_0 x0c0_)(hp0c0_:F.heap[p0c0_]? = some (.cells #[.slice A0c0_0 x0c0_.length c0c0_0] 36 (0,0)))(H:qAO.f x0c0_=some r):
  Calls Tryz.prog 185 #[.func (.func 186) #[] #[.pointer (some ⟨p0c0_,0,none⟩)]] W fun e w'=>∃ v,e = .returned v∧qAO.Post W F r v w':=by
 have hS:=St.start (Own.nil hown)
 unfold qAO.f at H
 split at H
 ·rename_i hmax
  injection H with H
  subst H
  refine (callsIn_wide.1 (collectD Tryz.collectI Fence.wide 5 trivial trivial rfl (by omega) 186 #[.pointer (some ⟨p0c0_,0,none⟩)] trivial qHo x0c0_ (Nat.le_trans hmax (by decide)) (by omega) W (qFG 3 (by omega) hown g0c0_0 hp0c0_ (by omega)))).mono ?_
  rintro e w' ⟨v,rfl,hr,hb,hd⟩
  have h1:=collected hS hr hb hd
  rcases hr.2 with ⟨rfl,h0⟩ | ⟨g,cap,cur,rfl,_⟩
  ·refine ⟨_,rfl,F,none,0,by rw [h0],?_⟩
   rw [h0]
   exact h1
  ·exact ⟨_,rfl,F,some ⟨g,0,none⟩,cap,rfl,h1⟩
 ·cases H
def qBV.f(x0_:List Int):Option (List Int):=sortI x0_
def qBV.Post(x0_:List Int)(A0_0:Option Addr)(c0_0:Nat)(W F:World)(r:List Int)(v:Value)(w':World):Prop:=∃(F':World),v = .tuple #[]∧St W (mine W [row ki 3 (.slice A0_0 x0_.length c0_0) x0_]) F w' F' [row ki 3 (.slice A0_0 x0_.length c0_0) r]
theorem qBV.calls(x0_:List Int)(A0_0:Option Addr)(c0_0:Nat)(r:List Int)(W F:World)(hown:Own W F [row ki 3 (.slice A0_0 x0_.length c0_0) x0_])(H:qBV.f x0_=some r):
  Calls Tryz.prog 110 #[.slice A0_0 x0_.length c0_0] W fun e w'=>∃ v,e = .returned v∧qBV.Post x0_ A0_0 c0_0 W F r v w':=qFb Tryz.sortI hown H
def qAG.f(x0c0_:List Int):Option (List Int):=(qAO.f x0c0_).bind fun t4=>((qBV.f t4).bind fun t13=>(some t13))
def qAG.Post(W F:World)(r:List Int)(v:Value)(w':World):Prop:=∃(F':World)(RA0_0:OA)(rc0_0:Nat),v = .slice RA0_0 r.length rc0_0∧Sm W F w' F' [row ki 3 (.slice RA0_0 r.length rc0_0) r]
theorem qAG.calls(x0c0_:List Int)(p0c0_:Nat)(A0c0_0:OA)(c0c0_0:Nat)(r:List Int)(W F:World)(hown:Sub F W)(g0c0_0:Rd ki F A0c0_0 c0c0_0 x0c0_)(hp0c0_:F.heap[p0c0_]? = some (.cells #[.slice A0c0_0 x0c0_.length c0c0_0] 36 (0,0)))(H:qAG.f x0c0_=some r):
    Cr 137 #[.func (.func 186) #[] #[.pointer (pb p0c0_)]] W (qAG.Post W F r):=by
 have S:=St.start (Own.nil hown)
 unfold qAG.f at H
 refine ent 9 rfl rfl rfl (fun a E=>?_)
 refine rr E fun a E=>(sq fun K2 hK2=>pl0 (plc E (.r 0 1 .nil) (fun a E=>?_)))
 obtain ⟨t4,h5,H⟩:=bd H
 refine ple E (.cl en185 (qAO.calls x0c0_ _ _ _ _ _ _ S.own.sub g0c0_0 hp0c0_ h5)) ?_
 rintro _ u3 a ⟨F6,A7,c8,rfl,hC⟩ E
 have hs:=hC.sub
 replace S:=S.called (X:=[]) hC
 replace g0c0_0:=g0c0_0.mono hs
 replace hp0c0_:=hs _ _ _ _ hp0c0_
 refine plc E (.r 2 1 .nil) (fun a E=>pld (hK2 _ _ (sq fun K11 hK11=>pl0 (plc E (.r 0 1 .nil) (fun a E=>?_)))))
 obtain ⟨t13,h14,H⟩:=bd H
 refine ple E (.cl en110 (qBV.calls t4 _ _ _ _ _ (Own.left (X:=[row ki 3 (.slice A7 t4.length c8) t4]) S.own) h14)) ?_
 rintro _ u12 a ⟨F15,rfl,hC⟩ E
 have hs:=hC.sub
 replace S:=S.called (X:=[row ki 3 (.slice A7 t4.length c8) t4]) hC
 replace g0c0_0:=g0c0_0.mono hs
 replace hp0c0_:=hs _ _ _ _ hp0c0_
 refine pld (hK11 _ _ (rr E fun a E=>(wp_ret ?_)))
 have hn17:=(qCZ (S.row_at (i:=0) rfl)).1
 replace E:=E.set (d:=2) (v:=.slice A7 t13.length c8) (Eq.trans (b:=.slice A7 t4.length c8) (by kernel_rfl) (by rw [← hn17]))
 replace S:Sm W F u12 F15 [row ki 3 (.slice A7 t13.length c8) t13]:=by rw [← hn17]; exact S
 obtain rfl:=si H
 exact rt1 E ⟨_,rfl,_,_,_,rfl,S⟩
def qBU.f(k:Nat)(x:qG)(xf0_:qG):Option Bool:=(qx.f k x.f1 xf0_.f1).bind fun t6=>(some t6)
def qBU.Post(W F:World)(r:Bool)(v:Value)(w':World):Prop:=∃(F':World),v = .bool r∧Sm W F w' F' []
theorem qBU.calls(k:Nat)(x:qG)(xf0_:qG)(A0_1:OA)(c0_1:Nat)(pf0_:Nat)(Af0_1:OA)(cf0_1:Nat)(r:Bool)(W F:World)(hown:Sub F W)(g0_1:Rd ki F A0_1 c0_1 x.f1)(gf0_1:Rd ki F Af0_1 cf0_1 xf0_.f1)(hpf0_:F.heap[pf0_]? = some (.cells #[iv xf0_.f0,.slice Af0_1 xf0_.f1.length cf0_1] 51 (0,0)))(H:qBU.f k x xf0_=some r):
    Cr 140 #[.agg #[iv x.f0,.slice A0_1 x.f1.length c0_1],.pointer (pb pf0_)] W (qBU.Post W F r):=by
 have S:=St.start (Own.nil hown)
 unfold qBU.f at H
 refine ent 9 rfl rfl rfl (fun a E=>?_)
 refine sq fun K1 hK1=>pl0 (plx (t:=51) E S [iv x.f0,.slice A0_1 x.f1.length c0_1] fun b2 u3 hb2 S a E=>plc E (.r 1 1 .nil) (fun a E=>pld (hK1 _ _ (sq fun K4 hK4=>pl0 (plc E (.r 0 1<|.b 1 1 hb2<|.r 2 1<|.b 3 1 (S.own.sub _ _ _ _ hpf0_)<|.nil) (fun a E=>?_))))))
 obtain ⟨t6,h7,H⟩:=bd H
 refine plq E S en90 (qx.calls k x.f1 xf0_.f1 _ _ _ _ _ _ _ S.own.sub g0_1 gf0_1 h7) fun u5 S a E=>plc E (.r 5 1 .nil) (fun a E=>pld (hK4 _ _ (wp_ret ?_)))
 replace S:=S.tail
 obtain rfl:=si H
 exact rt1 E ⟨_,rfl,_,rfl,S⟩
def qb.l5:Nat→List qG→qG→Int→Option Int
 | 0,_,_,_=>none
 | k+1,x,x1c0_,x4=>if x4<(x.length:Int) then (if 0≤x4∧x4<(x.length:Int) then ((qBU.f k (nth qG.z x x4) x1c0_).bind fun t24=>(if t24=true then (some x4) else (qb.l5 k x x1c0_ (w64 (x4+1))))) else (none)) else (some (-1))
theorem qb.l5_s k x x1c0_ x4:type_of% (qb.l5.eq_2 x x1c0_ x4 k):=qb.l5.eq_2 x x1c0_ x4 k
def qb.f(k:Nat)(x:List qG)(x1c0_:qG):Option Int:=qb.l5 k x x1c0_ 0
def qb.Post(W F:World)(r:Int)(v:Value)(w':World):Prop:=∃(F':World),v=iv r∧Sm W F w' F' []
theorem qb.calls(k:Nat)(x:List qG)(x1c0_:qG)(A0_0:OA)(c0_0:Nat)(p1c0_:Nat)(A1c0_1:OA)(c1c0_1:Nat)(r:Int)(W F:World)(hown:Sub F W)(g0_0:Rd qG.k F A0_0 c0_0 x)(g1c0_1:Rd ki F A1c0_1 c1c0_1 x1c0_.f1)(hp1c0_:F.heap[p1c0_]? = some (.cells #[iv x1c0_.f0,.slice A1c0_1 x1c0_.f1.length c1c0_1] 51 (0,0)))(H:qb.f k x x1c0_=some r):
    Cr 163 #[.slice A0_0 x.length c0_0,.func (.func 140) #[] #[.pointer (pb p1c0_)]] W (qb.Post W F r):=by
 have S:=St.start (Own.nil hown)
 unfold qb.f at H
 refine ent 19 rfl rfl rfl (fun a E=>?_)
 refine rr E fun a E=>(sq fun K2 hK2=>rr E fun a E=>(wp_block ?_))
 refine wp_loop_ghost (fun kq6 a w'=>∃(G:NV)(x4:Int),kq6≤k∧Env 19 G a∧At G [(0,.slice A0_0 x.length c0_0),(1,.func (.func 140) #[] #[.pointer (pb p1c0_)]),(7,iv (x.length:Int)),(8,iv x4)]∧Sm W F w' F []∧qb.l5 kq6 x x1c0_ x4=some r) k ⟨_,0,Nat.le_refl _,E,.of,S,H⟩ ?_
 rintro kq6 a u8 ⟨G,x4,hkq,E,A,S,H⟩
 obtain _ | k7:=kq6
 exact zz H
 rw [qb.l5_s]at H
 obtain ⟨J,E⟩:=E.at A
 refine rr E fun a E=>(sq fun K10 hK10=>E.ik 9 H (fun c11 E H=>?_) fun c11 E H=>?_)
 refine wp_skip (hK10 _ _ (sq fun K12 hK12=>wp_block (rr E fun a E=>(sq fun K14 hK14=>pl0 ?_))))
 obtain ⟨c15,H⟩:=gd H
 have hE_:=E
 obtain ⟨ad16,rfl⟩:=g0_0.addr c15.1 c15.2
 replace E:=hE_
 obtain ⟨cs18,⟨A20,c21,rfl,g22⟩,hc19⟩:=g0_0.el qG.z x4 c15.1 c15.2
 refine plc E (.r 0 3<|.x 3 c15<|.cs 4 (S.fcs hc19)<|.nil) (fun a E=>?_)
 obtain ⟨t24,h25,H⟩:=bd H
 refine plq E S en140 (qBU.calls k7 (nth qG.z x x4) x1c0_ _ _ _ _ _ _ _ _ S.own.sub g22 g1c0_1 hp1c0_ h25) fun u23 S a E=>pld (hK14 _ _ (E.ib 16 H (fun c26 E H=>?_) fun c26 E H=>?_))
 refine rr E fun a E=>(wp_ret (qCW (qCV (qCV (qCW (qCV ?_))))))
 obtain rfl:=si H
 exact rt1 E ⟨_,rfl,_,rfl,S⟩
 refine wp_skip ?_
 refine qCX ?_
 refine hK12 _ _ (pl0 (plc E (.r 0 2 .nil) (fun a E=>pld ?_)))
 exact qCY ⟨k7,by omega,_,(w64 (x4+1)),by omega,E,.of,S,H⟩
 refine wp_exit ?_
 refine hK2 _ _ (rr E fun a E=>(wp_ret ?_))
 obtain rfl:=si H
 exact rt1 E ⟨_,rfl,_,rfl,S⟩
def qT.l15:Nat→List qG→qG→List qG→Int→Int→Option (List qG)
 | 0,_,_,_,_,_=>none
 | k+1,x,x1c0_,l12,x13,x14=>if x14<(x.length:Int) then (if 0≤x14∧x14<(x.length:Int) then ((qBU.f k (nth qG.z l12 x14) x1c0_).bind fun t39=>(if t39=true then (qT.l15 k x x1c0_ l12 x13 (w64 (x14+1))) else (if 0≤x13∧x13<(x.length:Int) then (qT.l15 k x x1c0_ (l12.set (x13).toNat (nth qG.z l12 x14)) (w64 (x13+1)) (w64 (x14+1))) else (none)))) else (none)) else (if 0≤x13∧x13≤(x.length:Int) then (some (cutl (l12.take (x13).toNat++List.replicate (x.length - (x13).toNat) qG.z) 0 x13)) else (none))
theorem qT.l15_s k x x1c0_ l12 x13 x14:type_of% (qT.l15.eq_2 x x1c0_ l12 x13 x14 k):=qT.l15.eq_2 x x1c0_ l12 x13 x14 k
def qT.f(k:Nat)(x:List qG)(x1c0_:qG):Option (List qG):=(qb.f k x x1c0_).bind fun t4=>(if t4=(-1) then (some x) else (qT.l15 k x x1c0_ x t4 (w64 (t4+1))))
def qT.Post(x:List qG)(x1c0_:qG)(A0_0:OA)(c0_0:Nat)(p1c0_:Nat)(A1c0_1:OA)(c1c0_1:Nat)(W F:World)(r:List qG)(v:Value)(w':World):Prop:=∃(F':World)(RA0_0:OA)(rc0_0:Nat),v = .slice RA0_0 r.length rc0_0∧St W (mine W [row qG.k 51 (.slice A0_0 x.length c0_0) x]) F w' F' [row qG.k 51 (.slice RA0_0 r.length rc0_0) r]
theorem qT.calls(k:Nat)(x:List qG)(x1c0_:qG)(A0_0:OA)(c0_0:Nat)(p1c0_:Nat)(A1c0_1:OA)(c1c0_1:Nat)(r:List qG)(W F:World)(hown:Own W F [row qG.k 51 (.slice A0_0 x.length c0_0) x])(g1c0_1:Rd ki F A1c0_1 c1c0_1 x1c0_.f1)(hp1c0_:F.heap[p1c0_]? = some (.cells #[iv x1c0_.f0,.slice A1c0_1 x1c0_.f1.length c1c0_1] 51 (0,0)))(H:qT.f k x x1c0_=some r):
    Cr 139 #[.slice A0_0 x.length c0_0,.func (.func 140) #[] #[.pointer (pb p1c0_)]] W (qT.Post x x1c0_ A0_0 c0_0 p1c0_ A1c0_1 c1c0_1 W F r):=by
 have S:=St.start hown
 obtain ⟨N,hN⟩:∃ N,N=mine W [row qG.k 51 (.slice A0_0 x.length c0_0) x]:=⟨_,rfl⟩
 rw [← hN]at S
 unfold qT.f at H
 refine ent 42 rfl rfl rfl (fun a E=>?_)
 refine rr E fun a E=>(sq fun K2 hK2=>pl0 (plc E (.r 0 2 .nil) (fun a E=>?_)))
 obtain ⟨t4,h5,H⟩:=bd H
 refine plq E S en163 (qb.calls k x x1c0_ _ _ _ _ _ _ _ _ (Sub.refl _) (S.rd_at (i:=0) rfl) (g1c0_1.mono S.own.sub) (S.own.sub _ _ _ _ hp1c0_) h5) fun u3 S a E=>plc E (.r 3 1 .nil) (fun a E=>pld (hK2 _ _ (sq fun K6 hK6=>rr E fun a E=>(E.ik 12 H (fun c8 E H=>?_) fun c8 E H=>?_))))
 refine rr E fun a E=>(wp_ret (qCV ?_))
 rw [hN]at S
 obtain rfl:=si H
 exact rt1 E ⟨_,rfl,_,_,_,rfl,S⟩
 refine wp_skip (hK6 _ _ (sq fun K10 hK10=>rr E fun a E=>(wp_block ?_)))
 refine wp_loop_ghost (fun kq16 a w'=>∃(G:NV)(l12:List qG)(x13:Int)(x14:Int),kq16≤k∧Env 42 G a∧At G [(0,.slice A0_0 x.length c0_0),(1,.func (.func 140) #[] #[.pointer (pb p1c0_)]),(5,iv x13),(6,iv x14)]∧St W N F w' F [row qG.k 51 (.slice A0_0 x.length c0_0) l12]∧qT.l15 kq16 x x1c0_ l12 x13 x14=some r) k ⟨_,x,t4,(w64 (t4+1)),Nat.le_refl _,E,.of,S,H⟩ ?_
 rintro kq16 a u18 ⟨G,l12,x13,x14,hkq,E,A,S,H⟩
 obtain _ | k17:=kq16
 exact zz H
 rw [qT.l15_s]at H
 obtain ⟨J,E⟩:=E.at A
 refine sq fun K19 hK19=>rr E fun a E=>(E.ik 19 H (fun c21 E H=>?_) fun c21 E H=>?_)
 refine wp_skip (hK19 _ _ (sq fun K22 hK22=>wp_block (sq fun K23 hK23=>pl0 ?_)))
 obtain ⟨c24,H⟩:=gd H
 have hr25:=S.ra 0
 have c26:0≤x14∧x14<(l12.length:Int):=by rw [← (qCZ hr25).1]; exact c24
 have hE_:=E
 obtain ⟨b27,rfl⟩:=qCc hr25 c26.1 c26.2
 replace E:=hE_
 have hr_:=S.ra 0
 obtain ⟨cs29,⟨A31,c32,rfl,g33⟩,hc30⟩:=qCa hr_ qG.z x14 c26.1 c26.2
 refine plc E (.r 0 2<|.x 2 c24<|.cs 3 hc30<|.nil) (fun a E=>pla (t:=51) E S [iv 0,.slice none 0 0] fun b34 u35 hb34 S a E=>pls E S [iv ((nth qG.z l12 x14).f0),.slice A31 (((nth qG.z l12 x14).f1).length) c32] fun u36 hb34 S a E=>pld (hK23 _ _ (sq fun K37 hK37=>pl0 (plc E (.r 0 1<|.bn 1 0 2 hb34<|.nil) (fun a E=>?_)))))
 obtain ⟨t39,h40,H⟩:=bd H
 refine plq E S en140 (qBU.calls k17 (nth qG.z l12 x14) x1c0_ _ _ _ _ _ _ _ _ S.own.sub g33 g1c0_1 hp1c0_ h40) fun u38 S a E=>plc E (.r 3 1 .nil) (fun a E=>pld (hK37 _ _ (E.ibn 29 H (fun c41 E H=>?_) fun c41 E H=>?_)))
 refine wp_skip ?_
 refine qCX ?_
 refine hK22 _ _ (pl0 (plc E (.r 0 3 .nil) (fun a E=>pld ?_)))
 replace S:=S.tail
 exact qCY ⟨k17,by omega,_,l12,x13,(w64 (x14+1)),by omega,E,.of,S,H⟩
 refine sq fun K42 hK42=>pl0 ?_
 have hb34:=S.ba 0
 obtain ⟨c43,H⟩:=gd H
 have hr44:=S.ra 1
 have c45:0≤x13∧x13<(l12.length:Int):=by rw [← (qCZ hr44).1]; exact c43
 have hr_:=S.ra 1
 obtain ⟨cs47,⟨A49,c50,rfl,g51⟩,hc48⟩:=qCa hr_ qG.z x13 c45.1 c45.2
 refine plc E (.r 0 2<|.bn 2 0 2 hb34<|.x 3 c43<|.nil) (fun a E=>?_)
 replace S:=S.front 1 rfl
 obtain ⟨cs56,⟨A53,c54,rfl,g55⟩,hc57⟩:=qCa (S.row_at (i:=0) rfl) qG.z x13 c45.1 c45.2
 refine ple E (.set (d:=qG.k) (n:=x.length) (i:=x13) (nth qG.z l12 x14) (0) (ea0 _ _) S c45 [iv ((nth qG.z l12 x13).f0),.slice A53 (((nth qG.z l12 x13).f1).length) c54] hc57 [iv ((nth qG.z l12 x14).f0),.slice A31 (((nth qG.z l12 x14).f1).length) c32] ⟨_,_,rfl,g33⟩) ?_
 rintro _ u52 a ⟨rfl,S,hz⟩ E
 refine pld (hK42 _ _ (pl0 (plc E (.r 0 3 .nil) (fun a E=>pld ?_))))
 refine qCX ?_
 refine hK22 _ _ (pl0 (plc E (.r 0 3 .nil) (fun a E=>pld ?_)))
 replace S:=S.pm [0] 2
 exact qCY ⟨k17,by omega,_,(l12.set (x13).toNat (nth qG.z l12 x14)),(w64 (x13+1)),(w64 (x14+1)),by omega,E,.of,S,H⟩
 refine wp_exit ?_
 refine hK10 _ _ (sq fun K58 hK58=>pl0 ?_)
 obtain ⟨c59,H⟩:=gd H
 obtain ⟨A60,c61,hA62,hv63⟩:=y_suf (P:=Tryz.prog) (k:=.i64) (S.row_at (i:=0) rfl) c59
 refine plc E (.r 0 2<|.y 2 (hv63 (by kernel_rfl))<|.nil) (fun a E=>ple E (.clr (d:=qG.k) (n:=x.length) (c':=c61) (lo:=x13) 32 qG.z S c59 hA62 (by rw [zr51]; exact ⟨none,0,rfl,Rd.nil _ _⟩)) ?_)
 rintro _ u64 a ⟨rfl,S,hz⟩ E
 refine pld (hK58 _ _ (sq fun K65 hK65=>pl0 ?_))
 have hv66:=S.ra 0
 replace S:=S.shrink c59
 refine plc E (.r 0 2<|.y 2 (y_pre (k:=.i64) hv66 c59)<|.r 3 1<|.nil) (fun a E=>pld (hK65 _ _ (wp_ret ?_)))
 rw [hN]at S
 obtain rfl:=si H
 exact rt1 E ⟨_,rfl,_,_,_,rfl,S⟩
mutual
def qAx.l20:Nat→qF→qF→List qC→List qC→Int→Option (List qC)
 | 0,_,_,_,_,_=>none
 | k+1,x,y,t8,l17,x18=>if x18<(t8.length:Int) then (if 0≤x18∧x18<(t8.length:Int) then ((qCH.f k x x18).bind fun t44=>((qCP.f k x t44).bind fun t52=>((qCH.f k y x18).bind fun t62=>((qCP.f k y t62).bind fun t70=>((qx.f k t52 t70).bind fun t78=>(if t78=true then (qAx.l20 k x y t8 l17 (w64 (x18+1))) else (if (t52.length:Int)≥x.f2 then ((qAG.f t52).bind fun t91=>((qBM.f k ((nth qC.z l17 x18).f1)).bind fun t110=>((qT.f k t110 (⟨(nth qC.z l17 x18).f0,t91⟩:qG)).bind fun t122=>(if ((t122.length:Int)+((1:Nat):Int)) * 32≤140737488355328 then (qAx.j144 k x y t8 l17 x18 (t122++[(⟨(nth qC.z l17 x18).f0,t91⟩:qG)])) else (none))))) else (qAx.j144 k x y t8 l17 x18 ((nth qC.z l17 x18).f1))))))))) else (none)) else (some l17)
def qAx.j144:Nat→qF→qF→List qC→List qC→Int→List qG→Option (List qC)
 | 0,_,_,_,_,_,_=>none
 | k+1,x,y,t8,l17,x18,l141=>qAx.l20 k x y t8 (l17.set (x18).toNat (⟨(w64 (x.f0+1)),l141⟩:qC)) (w64 (x18+1))
end
theorem qAx.l20_s k x y t8 l17 x18:type_of% (qAx.l20.eq_2 x y t8 l17 x18 k):=qAx.l20.eq_2 x y t8 l17 x18 k
theorem qAx.j144_s k x y t8 l17 x18 l141:type_of% (qAx.j144.eq_2 x y t8 l17 x18 l141 k):=qAx.j144.eq_2 x y t8 l17 x18 l141 k
def qAx.f(k:Nat)(x:qF)(y:qF):Option (List qC):=(qAS.f y.f6).bind fun t8=>(qAx.l20 k x y t8 t8 0)
def qAx.Post(W F:World)(r:List qC)(v:Value)(w':World):Prop:=∃(F':World)(RA0_0:OA)(rc0_0:Nat),v = .slice RA0_0 r.length rc0_0∧Sm W F w' F' [row qC.k 49 (.slice RA0_0 r.length rc0_0) r]
theorem qAx.calls(k:Nat)(x:qF)(y:qF)(A0_4:OA)(c0_4:Nat)(A0_5:OA)(c0_5:Nat)(A0_6:OA)(c0_6:Nat)(A1_4:OA)(c1_4:Nat)(A1_5:OA)(c1_5:Nat)(A1_6:OA)(c1_6:Nat)(r:List qC)(W F:World)(hown:Sub F W)(g0_4:Rd qA.k F A0_4 c0_4 x.f4)(g0_5:Rd qD.k F A0_5 c0_5 x.f5)(g0_6:Rd qC.k F A0_6 c0_6 x.f6)(g1_4:Rd qA.k F A1_4 c1_4 y.f4)(g1_5:Rd qD.k F A1_5 c1_5 y.f5)(g1_6:Rd qC.k F A1_6 c1_6 y.f6)(H:qAx.f k x y=some r):
    Cr 79 #[.agg #[iv x.f0,iv x.f1,iv x.f2,iv x.f3,.slice A0_4 x.f4.length c0_4,.slice A0_5 x.f5.length c0_5,.slice A0_6 x.f6.length c0_6],.agg #[iv y.f0,iv y.f1,iv y.f2,iv y.f3,.slice A1_4 y.f4.length c1_4,.slice A1_5 y.f5.length c1_5,.slice A1_6 y.f6.length c1_6]] W (qAx.Post W F r):=by
 have S:=St.start (Own.nil hown)
 unfold qAx.f at H
 refine ent 65 rfl rfl rfl (fun a E=>?_)
 refine sq fun K1 hK1=>pl0 (plx (t:=26) E S [iv x.f0,iv x.f1,iv x.f2,iv x.f3,.slice A0_4 x.f4.length c0_4,.slice A0_5 x.f5.length c0_5,.slice A0_6 x.f6.length c0_6] fun b2 u3 hb2 S a E=>plx (t:=26) E S [iv y.f0,iv y.f1,iv y.f2,iv y.f3,.slice A1_4 y.f4.length c1_4,.slice A1_5 y.f5.length c1_5,.slice A1_6 y.f6.length c1_6] fun b4 u5 hb4 S a E=>plc E (.r 2 1 .nil) (fun a E=>pld (hK1 _ _ (sq fun K6 hK6=>pl0 (plc E (.r 0 1<|.b 1 6 hb4<|.nil) (fun a E=>?_))))))
 obtain ⟨t8,h9,H⟩:=bd H
 refine ple E (.cl en130 (qAS.calls y.f6 _ _ _ _ _ S.own.sub g1_6 h9)) ?_
 rintro _ u7 a ⟨F10,A11,c12,rfl,hC⟩ E
 have hs:=hC.sub
 replace S:=S.called (X:=[]) hC
 replace g0_4:=g0_4.mono hs
 replace g0_5:=g0_5.mono hs
 replace g0_6:=g0_6.mono hs
 replace g1_4:=g1_4.mono hs
 replace g1_5:=g1_5.mono hs
 replace g1_6:=g1_6.mono hs
 refine plc E (.r 3 1 .nil) (fun a E=>pld (hK6 _ _ (sq fun K15 hK15=>rr E fun a E=>(wp_block ?_))))
 replace S:=S.pm [1,2,0] 3
 refine wp_loop_ghost (fun kq21 a w'=>∃(G:NV)(l17:List qC)(x18:Int)(F19:World),kq21≤k∧Env 65 G a∧At G [(2,.pointer (pb b2)),(3,.pointer (pb b4)),(5,.slice A11 t8.length c12),(13,.slice A11 t8.length c12),(14,iv (t8.length:Int)),(15,iv x18)]∧Sm W F w' F19 [box b4 #[iv y.f0,iv y.f1,iv y.f2,iv y.f3,.slice A1_4 y.f4.length c1_4,.slice A1_5 y.f5.length c1_5,.slice A1_6 y.f6.length c1_6] 26,box b2 #[iv x.f0,iv x.f1,iv x.f2,iv x.f3,.slice A0_4 x.f4.length c0_4,.slice A0_5 x.f5.length c0_5,.slice A0_6 x.f6.length c0_6] 26,row qC.k 49 (.slice A11 t8.length c12) l17]∧Rd qA.k F19 A1_4 c1_4 y.f4∧Rd qD.k F19 A1_5 c1_5 y.f5∧Rd qC.k F19 A1_6 c1_6 y.f6∧Rd qA.k F19 A0_4 c0_4 x.f4∧Rd qD.k F19 A0_5 c0_5 x.f5∧Rd qC.k F19 A0_6 c0_6 x.f6∧qAx.l20 kq21 x y t8 l17 x18=some r) k ⟨_,t8,0,F10,Nat.le_refl _,E,.of,S,g1_4,g1_5,g1_6,g0_4,g0_5,g0_6,H⟩ ?_
 rintro kq21 a u23 ⟨G,l17,x18,F19,hkq,E,A,S,g1_4,g1_5,g1_6,g0_4,g0_5,g0_6,H⟩
 obtain _ | k22:=kq21
 exact zz H
 rw [qAx.l20_s]at H
 obtain ⟨J,E⟩:=E.at A
 refine rr E fun a E=>(sq fun K25 hK25=>E.ik 16 H (fun c26 E H=>?_) fun c26 E H=>?_)
 refine wp_skip (hK25 _ _ (sq fun K27 hK27=>wp_block (sq fun K28 hK28=>pl0 ?_)))
 obtain ⟨c29,H⟩:=gd H
 have hr30:=S.ra 2
 have c31:0≤x18∧x18<(l17.length:Int):=by rw [← (qCZ hr30).1]; exact c29
 have hE_:=E
 obtain ⟨b32,rfl⟩:=qCc hr30 c31.1 c31.2
 replace E:=hE_
 have hr_:=S.ra 2
 obtain ⟨cs34,⟨A36,c37,rfl,g38⟩,hc35⟩:=qCa hr_ qC.z x18 c31.1 c31.2
 refine plc E (.r 0 1<|.x 1 c29<|.cs 2 hc35<|.nil) (fun a E=>pla (t:=49) E S [iv 0,.slice none 0 0] fun b39 u40 hb39 S a E=>plc E (.r 4 1 .nil) (fun a E=>pls E S [iv ((nth qC.z l17 x18).f0),.slice A36 (((nth qC.z l17 x18).f1).length) c37] fun u41 hb39 S a E=>pld (hK28 _ _ (sq fun K42 hK42=>?_))))
 refine drawn 6 ⟨[4],[],fun q=>False⟩ mixed rfl (by kernel_rfl) (fun hst=>?_)
 replace S:=S.drew
 have hb2:=S.ba 2
 refine mny 3 hst E (.bn 0 0 7 hb2<|.bn 1 0 7 hb2<|.r 2 1<|.nil) (fun a E=>?_)
 obtain ⟨t44,h45,H⟩:=bd H
 refine on1 3 E (.cl en71 (qCH.calls k22 x x18 _ _ _ _ _ _ _ _ _ S.own.sub g0_4 g0_5 g0_6 h45)) ?_
 rintro _ u43 a ⟨F46,A47,c48,rfl,hC⟩ E
 refine ⟨.of hC.agr,?_⟩
 have hs:=hC.sub
 replace S:=S.called (X:=[]) hC
 replace g38:=g38.mono hs
 replace g0_4:=g0_4.mono hs
 replace g0_5:=g0_5.mono hs
 replace g0_6:=g0_6.mono hs
 replace g1_4:=g1_4.mono hs
 replace g1_5:=g1_5.mono hs
 replace g1_6:=g1_6.mono hs
 obtain ⟨t52,h53,H⟩:=bd H
 refine on1 4 E (.cl en74 (qCP.calls k22 x t44 _ _ _ _ _ _ _ _ _ _ _ (Own.left (X:=[row ki 3 (.slice A47 t44.length c48) t44]) S.own) g0_4 g0_5 g0_6 h53)) ?_
 rintro _ u51 a ⟨F54,A55,c56,rfl,hC⟩ E
 refine ⟨.d,?_⟩
 have hs:=hC.sub
 replace S:=S.called (X:=[row ki 3 (.slice A47 t44.length c48) t44]) hC
 replace g38:=g38.mono hs
 replace g0_4:=g0_4.mono hs
 replace g0_5:=g0_5.mono hs
 replace g0_6:=g0_6.mono hs
 replace g1_4:=g1_4.mono hs
 replace g1_5:=g1_5.mono hs
 replace g1_6:=g1_6.mono hs
 refine mny 0 hst E (.r 5 1 .nil) (fun a E=>?_)
 refine dn ?_
 refine hK42 _ _ (sq fun K59 hK59=>sq fun K60 hK60=>?_)
 refine drawn 7 ⟨[5],[],fun q=>False⟩ mixed rfl (by kernel_rfl) (fun hst=>?_)
 replace S:=S.drew
 have hb4:=S.ba 2
 refine mny 3 hst E (.r 0 1<|.bn 1 0 7 hb4<|.bn 2 0 7 hb4<|.r 3 1<|.nil) (fun a E=>?_)
 obtain ⟨t62,h63,H⟩:=bd H
 refine on1 4 E (.cl en71 (qCH.calls k22 y x18 _ _ _ _ _ _ _ _ _ S.own.sub g1_4 g1_5 g1_6 h63)) ?_
 rintro _ u61 a ⟨F64,A65,c66,rfl,hC⟩ E
 refine ⟨.of hC.agr,?_⟩
 have hs:=hC.sub
 replace S:=S.called (X:=[]) hC
 replace g38:=g38.mono hs
 replace g0_4:=g0_4.mono hs
 replace g0_5:=g0_5.mono hs
 replace g0_6:=g0_6.mono hs
 replace g1_4:=g1_4.mono hs
 replace g1_5:=g1_5.mono hs
 replace g1_6:=g1_6.mono hs
 obtain ⟨t70,h71,H⟩:=bd H
 refine on1 5 E (.cl en74 (qCP.calls k22 y t62 _ _ _ _ _ _ _ _ _ _ _ (Own.left (X:=[row ki 3 (.slice A65 t62.length c66) t62]) S.own) g1_4 g1_5 g1_6 h71)) ?_
 rintro _ u69 a ⟨F72,A73,c74,rfl,hC⟩ E
 refine ⟨.d,?_⟩
 have hs:=hC.sub
 replace S:=S.called (X:=[row ki 3 (.slice A65 t62.length c66) t62]) hC
 replace g38:=g38.mono hs
 replace g0_4:=g0_4.mono hs
 replace g0_5:=g0_5.mono hs
 replace g0_6:=g0_6.mono hs
 replace g1_4:=g1_4.mono hs
 replace g1_5:=g1_5.mono hs
 replace g1_6:=g1_6.mono hs
 obtain ⟨t78,h79,H⟩:=bd H
 refine on1 6 E (.cl en90 (qx.calls k22 t52 t70 _ _ _ _ _ _ _ (Sub.refl _) (S.rd_at (i:=1) rfl) (S.rd_at (i:=0) rfl) h79)) ?_
 rintro _ u77 a ⟨_,rfl,hC⟩ E
 refine ⟨.of hC.agr,?_⟩
 replace S:=S.lent hC
 refine dn ?_
 refine hK60 _ _ (E.ib 31 H (fun c80 E H=>?_) fun c80 E H=>?_)
 refine wp_exit ?_
 refine hK27 _ _ (pl0 (plc E (.r 0 2 .nil) (fun a E=>pld ?_)))
 replace S:=S.pm [] 3
 exact qCY ⟨k22,by omega,_,l17,(w64 (x18+1)),F72,by omega,E,.of,S,g1_4,g1_5,g1_6,g0_4,g0_5,g0_6,H⟩
 refine wp_skip (hK59 _ _ (sq fun K81 hK81=>?_))
 have J147:∀ kq145,kq145≤k22→∀(G:NV)(A139:OA)(c140:Nat)(l141:List qG)(F143:World)(a:Act)(w':World),Env 65 G a→At G [(2,.pointer (pb b2)),(3,.pointer (pb b4)),(5,.slice (pb b32) t8.length c12),(6,iv x18),(7,.pointer (pb b39)),(13,.slice (pb b32) t8.length c12),(14,iv (t8.length:Int)),(15,iv x18)]→Sm W F w' F143 [box b39 #[iv ((nth qC.z l17 x18).f0),.slice A139 l141.length c140] 49,box b4 #[iv y.f0,iv y.f1,iv y.f2,iv y.f3,.slice A1_4 y.f4.length c1_4,.slice A1_5 y.f5.length c1_5,.slice A1_6 y.f6.length c1_6] 26,box b2 #[iv x.f0,iv x.f1,iv x.f2,iv x.f3,.slice A0_4 x.f4.length c0_4,.slice A0_5 x.f5.length c0_5,.slice A0_6 x.f6.length c0_6] 26,row qC.k 49 (.slice (pb b32) t8.length c12) l17]→Rd qG.k F143 A139 c140 l141→Rd qA.k F143 A1_4 c1_4 y.f4→Rd qD.k F143 A1_5 c1_5 y.f5→Rd qC.k F143 A1_6 c1_6 y.f6→Rd qA.k F143 A0_4 c0_4 x.f4→Rd qD.k F143 A0_5 c0_5 x.f5→Rd qC.k F143 A0_6 c0_6 x.f6→qAx.j144 kq145 x y t8 l17 x18 l141=some r→K81 a w':=by
  intro kq145 hkq G A139 c140 l141 F143 a u148 E A S g142 g1_4 g1_5 g1_6 g0_4 g0_5 g0_6 H
  obtain _ | k146:=kq145
  exact zz H
  rw [qAx.j144_s]at H
  obtain ⟨J,E⟩:=E.at A
  refine hK81 _ _ (sq fun K149 hK149=>pl0 (plc E (.r 0 1<|.b 1 0 (S.ba 2)<|.r 2 2<|.nil) (fun a E=>pls E S [iv (w64 (x.f0+1)),.slice A139 l141.length c140] fun u150 hb39 S a E=>pld (hK149 _ _ (pl0 ?_)))))
  have hr151:=S.ra 3
  have c152:0≤x18∧x18<(l17.length:Int):=by rw [← (qCZ hr151).1]; exact c29
  have hr_:=S.ra 3
  obtain ⟨cs154,⟨A156,c157,rfl,g158⟩,hc155⟩:=qCa hr_ qC.z x18 c152.1 c152.2
  refine plc E (.r 0 2<|.bn 2 0 2 hb39<|.x 3 c29<|.nil) (fun a E=>?_)
  replace S:=S.front 3 rfl
  obtain ⟨cs163,⟨A160,c161,rfl,g162⟩,hc164⟩:=qCa (S.row_at (i:=0) rfl) qC.z x18 c152.1 c152.2
  refine ple E (.set (d:=qC.k) (n:=t8.length) (i:=x18) (⟨(w64 (x.f0+1)),l141⟩:qC) (0) (ea0 _ _) S c152 [iv ((nth qC.z l17 x18).f0),.slice A160 (((nth qC.z l17 x18).f1).length) c161] hc164 [iv (w64 (x.f0+1)),.slice A139 l141.length c140] ⟨_,_,rfl,g142⟩) ?_
  rintro _ u159 a ⟨rfl,S,hz⟩ E
  refine pld ?_
  refine qCX ?_
  refine hK27 _ _ (pl0 (plc E (.r 0 2 .nil) (fun a E=>pld ?_)))
  replace S:=S.pm [2,3,0] 4
  exact qCY ⟨k146,by omega,_,(l17.set (x18).toNat (⟨(w64 (x.f0+1)),l141⟩:qC)),(w64 (x18+1)),F143,by omega,E,.of,S,g1_4,g1_5,g1_6,g0_4,g0_5,g0_6,H⟩
 refine rg E (.r 0 3<|.b 3 2 (S.ba 4)<|.r 4 1<|.nil) fun a E=>(E.ik 36 H (fun c83 E H=>?_) fun c83 E H=>?_)
 refine sq fun K84 hK84=>?_
 refine drawn 8 ⟨[7],[],fun q=>False⟩ mixed rfl (by kernel_rfl) (fun hst=>?_)
 replace S:=S.drew
 have hb39:=S.ba 2
 refine mny 5 hst E (.r 0 1<|.b 1 0 hb39<|.r 2 1<|.nil) (fun a E=>?_)
 obtain ⟨t91,h92,H⟩:=bd H
 refine meet2 (fun a w'=>∃(G:NV)(b89:Nat)(A97:OA)(c98:Nat)(F105:World),Env 65 G a∧At G [(2,.pointer (pb b2)),(3,.pointer (pb b4)),(5,.slice (pb b32) t8.length c12),(6,iv x18),(7,.pointer (pb b39)),(9,.pointer (pb b89)),(13,.slice (pb b32) t8.length c12),(14,iv (t8.length:Int)),(15,iv x18),(42,.agg #[iv ((nth qC.z l17 x18).f0),.slice A97 t91.length c98])]∧Sm W F w' F105 [box b89 #[iv 0,.slice none 0 0] 51,box b39 #[iv ((nth qC.z l17 x18).f0),.slice A36 (((nth qC.z l17 x18).f1).length) c37] 49,box b4 #[iv y.f0,iv y.f1,iv y.f2,iv y.f3,.slice A1_4 y.f4.length c1_4,.slice A1_5 y.f5.length c1_5,.slice A1_6 y.f6.length c1_6] 26,box b2 #[iv x.f0,iv x.f1,iv x.f2,iv x.f3,.slice A0_4 x.f4.length c0_4,.slice A0_5 x.f5.length c0_5,.slice A0_6 x.f6.length c0_6] 26,row ki 3 (.slice A97 t91.length c98) t91,row qC.k 49 (.slice (pb b32) t8.length c12) l17]∧Rd qG.k F105 A36 c37 ((nth qC.z l17 x18).f1)∧Rd qA.k F105 A1_4 c1_4 y.f4∧Rd qD.k F105 A1_5 c1_5 y.f5∧Rd qC.k F105 A1_6 c1_6 y.f6∧Rd qA.k F105 A0_4 c0_4 x.f4∧Rd qD.k F105 A0_5 c0_5 x.f5∧Rd qC.k F105 A0_6 c0_6 x.f6) 1 127 ?_ (fun hJb=>?_)
 rintro a u106 ⟨G,b89,A97,c98,F105,E,A,S,g38,g1_4,g1_5,g1_6,g0_4,g0_5,g0_6⟩
 obtain ⟨J,E⟩:=E.at A
 refine on1 7 E (.sto S [iv ((nth qC.z l17 x18).f0),.slice A97 t91.length c98]) ?_
 rintro _ u107 a ⟨rfl,hb89,S,hz⟩ E
 refine ⟨.d,?_⟩
 refine dn ?_
 refine hK84 _ _ (sq fun K108 hK108=>pl0 (plc E (.r 0 1<|.b 1 1 (S.ba 1)<|.nil) (fun a E=>?_)))
 obtain ⟨t110,h111,H⟩:=bd H
 refine ple E (.cl en131 (qBM.calls k22 ((nth qC.z l17 x18).f1) _ _ _ _ _ S.own.sub g38 h111)) ?_
 rintro _ u109 a ⟨F112,A113,c114,rfl,hC⟩ E
 have hs:=hC.sub
 replace S:=S.called (X:=[]) hC
 replace g38:=g38.mono hs
 replace g1_4:=g1_4.mono hs
 replace g1_5:=g1_5.mono hs
 replace g1_6:=g1_6.mono hs
 replace g0_4:=g0_4.mono hs
 replace g0_5:=g0_5.mono hs
 replace g0_6:=g0_6.mono hs
 refine plc E (.r 3 1 .nil) (fun a E=>?_)
 replace S:=S.front 5 rfl
 obtain ⟨F117,hs,g118,S⟩:=S.give
 replace g38:=g38.mono hs
 replace g1_4:=g1_4.mono hs
 replace g1_5:=g1_5.mono hs
 replace g1_6:=g1_6.mono hs
 replace g0_4:=g0_4.mono hs
 replace g0_5:=g0_5.mono hs
 replace g0_6:=g0_6.mono hs
 replace S:=S.front 1 rfl
 obtain ⟨F119,hs,g120,S⟩:=S.giveb
 replace g118:=g118.mono hs
 replace g38:=g38.mono hs
 replace g1_4:=g1_4.mono hs
 replace g1_5:=g1_5.mono hs
 replace g1_6:=g1_6.mono hs
 replace g0_4:=g0_4.mono hs
 replace g0_5:=g0_5.mono hs
 replace g0_6:=g0_6.mono hs
 obtain ⟨t122,h123,H⟩:=bd H
 refine ple E (.cl en139 (qT.calls k22 t110 (⟨(nth qC.z l17 x18).f0,t91⟩:qG) _ _ _ _ _ _ _ _ (Own.left (X:=[row qG.k 51 (.slice A113 t110.length c114) t110]) S.own) g118 g120 h123)) ?_
 rintro _ u121 a ⟨F124,A125,c126,rfl,hC⟩ E
 have hs:=hC.sub
 replace S:=S.called (X:=[row qG.k 51 (.slice A113 t110.length c114) t110]) hC
 replace g118:=g118.mono hs
 replace g38:=g38.mono hs
 replace g1_4:=g1_4.mono hs
 replace g1_5:=g1_5.mono hs
 replace g1_6:=g1_6.mono hs
 replace g0_4:=g0_4.mono hs
 replace g0_5:=g0_5.mono hs
 replace g0_6:=g0_6.mono hs
 replace g120:=hs _ _ _ _ g120
 refine plc E (.r 5 1 .nil) (fun a E=>?_)
 replace S:=S.front 1 rfl
 refine pls E S [iv ((nth qC.z l17 x18).f0),.slice A125 t122.length c126] fun u129 hb39 S a E=>pld (hK108 _ _ (pl0 (plc E (.r 0 1<|.b 1 1 hb39<|.bn 2 0 2 (S.own.sub _ _ _ _ g120)<|.nil) (fun a E=>ple E (.lit (d:=qG.k) (e:=51) S [(⟨(nth qC.z l17 x18).f0,t91⟩:qG)] (.cons ⟨_,_,rfl,g118⟩ .nil)) ?_))))
 rintro _ u130 a ⟨A131,c132,rfl,S,hg⟩ E
 obtain ⟨c134,H⟩:=gd H
 replace S:=S.front 2 rfl
 refine ple E (.ap (d:=qG.k) 32 S (qCf (S.row_at (i:=1) rfl)) c134 c132) ?_
 rintro _ u137 a ⟨A135,c136,rfl,S,hz⟩ E
 refine plc E (.r 5 1 .nil) (fun a E=>?_)
 replace S:=S.front 2 rfl
 refine pls E S [iv ((nth qC.z l17 x18).f0),.slice A135 ((t122++[(⟨(nth qC.z l17 x18).f0,t91⟩:qG)]).length) c136] fun u138 hb39 S a E=>pld ?_
 replace S:=S.front 1 rfl
 obtain ⟨F165,hs,g166,S⟩:=S.give
 replace g118:=g118.mono hs
 replace g38:=g38.mono hs
 replace g1_4:=g1_4.mono hs
 replace g1_5:=g1_5.mono hs
 replace g1_6:=g1_6.mono hs
 replace g0_4:=g0_4.mono hs
 replace g0_5:=g0_5.mono hs
 replace g0_6:=g0_6.mono hs
 replace g120:=hs _ _ _ _ g120
 replace S:=S.pm [0] 2
 exact J147 _ (by omega) _ A135 c136 (t122++[(⟨(nth qC.z l17 x18).f0,t91⟩:qG)]) F165 _ _ E .of S g166 g1_4 g1_5 g1_6 g0_4 g0_5 g0_6 H
 refine meet2 (fun a w'=>∃(G:NV)(b89:Nat)(b87:Nat)(F102:World),Env 65 G a∧At G [(2,.pointer (pb b2)),(3,.pointer (pb b4)),(5,.slice (pb b32) t8.length c12),(6,iv x18),(7,.pointer (pb b39)),(9,.pointer (pb b89)),(13,.slice (pb b32) t8.length c12),(14,iv (t8.length:Int)),(15,iv x18),(38,iv ((nth qC.z l17 x18).f0)),(40,.func (.func 186) #[] #[.pointer (pb b87)])]∧Sm W F w' F102 [box b89 #[iv 0,.slice none 0 0] 51,box b87 #[.slice A55 t52.length c56] 36,box b39 #[iv ((nth qC.z l17 x18).f0),.slice A36 (((nth qC.z l17 x18).f1).length) c37] 49,box b4 #[iv y.f0,iv y.f1,iv y.f2,iv y.f3,.slice A1_4 y.f4.length c1_4,.slice A1_5 y.f5.length c1_5,.slice A1_6 y.f6.length c1_6] 26,box b2 #[iv x.f0,iv x.f1,iv x.f2,iv x.f3,.slice A0_4 x.f4.length c0_4,.slice A0_5 x.f5.length c0_5,.slice A0_6 x.f6.length c0_6] 26,row qC.k 49 (.slice (pb b32) t8.length c12) l17]∧Rd ki F102 A55 c56 t52∧Rd qG.k F102 A36 c37 ((nth qC.z l17 x18).f1)∧Rd qA.k F102 A1_4 c1_4 y.f4∧Rd qD.k F102 A1_5 c1_5 y.f5∧Rd qC.k F102 A1_6 c1_6 y.f6∧Rd qA.k F102 A0_4 c0_4 x.f4∧Rd qD.k F102 A0_5 c0_5 x.f5∧Rd qC.k F102 A0_6 c0_6 x.f6) 3 79 ?_ (fun hJ=>?_)
 rintro a u103 ⟨G,b89,b87,F102,E,A,S,g86,g38,g1_4,g1_5,g1_6,g0_4,g0_5,g0_6⟩
 obtain ⟨J,E⟩:=E.at A
 replace S:=S.front 1 rfl
 obtain ⟨F93,hs,g94,S⟩:=S.giveb
 replace g86:=g86.mono hs
 replace g38:=g38.mono hs
 replace g1_4:=g1_4.mono hs
 replace g1_5:=g1_5.mono hs
 replace g1_6:=g1_6.mono hs
 replace g0_4:=g0_4.mono hs
 replace g0_5:=g0_5.mono hs
 replace g0_6:=g0_6.mono hs
 refine on1 4 E (.cl en137 (qAG.calls t52 _ _ _ _ _ _ S.own.sub g86 g94 h92)) ?_
 rintro _ u95 a ⟨F96,A97,c98,rfl,hC⟩ E
 refine ⟨.of hC.agr,?_⟩
 have hs:=hC.sub
 replace S:=S.called (X:=[]) hC
 replace g38:=g38.mono hs
 replace g1_4:=g1_4.mono hs
 replace g1_5:=g1_5.mono hs
 replace g1_6:=g1_6.mono hs
 replace g0_4:=g0_4.mono hs
 replace g0_5:=g0_5.mono hs
 replace g0_6:=g0_6.mono hs
 replace g86:=g86.mono hs
 replace g94:=hs _ _ _ _ g94
 refine mny 1 hst E (.r 5 1 .nil) (fun a E=>?_)
 replace S:=S.pm [1,2,3,4,0] 5
 exact hJb _ _ ⟨_,b89,A97,c98,F96,E,.of,S,g38,g1_4,g1_5,g1_6,g0_4,g0_5,g0_6⟩
 refine pk2 3 6 ?_ ?_
 replace S:=S.front 1 rfl
 obtain ⟨F85,hs,g86,S⟩:=S.give
 replace g38:=g38.mono hs
 replace g0_4:=g0_4.mono hs
 replace g0_5:=g0_5.mono hs
 replace g0_6:=g0_6.mono hs
 replace g1_4:=g1_4.mono hs
 replace g1_5:=g1_5.mono hs
 replace g1_6:=g1_6.mono hs
 refine pk1 3 E (.cl en138 (qCI.calls t52 A55 c56 _ _ S.own.sub)) ?_
 rintro _ u88 a ⟨b87,rfl,hC⟩ E
 refine ⟨.of hC.agr,?_⟩
 replace S:=S.called (X:=[]) hC
 refine pk2 6 4 ?_ ?_
 refine pk1 6 E (.al (t:=51) S [iv 0,.slice none 0 0]) ?_
 rintro _ u90 a ⟨b89,rfl,hb89,S,hg⟩ E
 refine ⟨.of hg,?_⟩
 replace S:=S.pm [0,1] 3
 exact hJ _ _ ⟨_,b89,b87,F85,E,.of,S,g86,g38,g1_4,g1_5,g1_6,g0_4,g0_5,g0_6⟩
 obtain ⟨F93,hs,g94,S⟩:=S.giveb
 replace g86:=g86.mono hs
 replace g38:=g38.mono hs
 replace g0_4:=g0_4.mono hs
 replace g0_5:=g0_5.mono hs
 replace g0_6:=g0_6.mono hs
 replace g1_4:=g1_4.mono hs
 replace g1_5:=g1_5.mono hs
 replace g1_6:=g1_6.mono hs
 refine pk1 4 E (.cl en137 (qAG.calls t52 _ _ _ _ _ _ S.own.sub g86 g94 h92)) ?_
 rintro _ u95 a ⟨F96,A97,c98,rfl,hC⟩ E
 refine ⟨.of hC.agr,?_⟩
 have hs:=hC.sub
 replace S:=S.called (X:=[]) hC
 replace g86:=g86.mono hs
 replace g38:=g38.mono hs
 replace g0_4:=g0_4.mono hs
 replace g0_5:=g0_5.mono hs
 replace g0_6:=g0_6.mono hs
 replace g1_4:=g1_4.mono hs
 replace g1_5:=g1_5.mono hs
 replace g1_6:=g1_6.mono hs
 replace g94:=hs _ _ _ _ g94
 refine mny 2 hst E (.r 5 1 .nil) (fun a E=>?_)
 refine on1 6 E (.al (t:=51) S [iv 0,.slice none 0 0]) ?_
 rintro _ u90 a ⟨b89,rfl,hb89,S,hg⟩ E
 refine ⟨.of hg,?_⟩
 replace S:=S.pm [0,3,4,5,1] 6
 exact hJb _ _ ⟨_,b89,A97,c98,F96,E,.of,S,g38,g1_4,g1_5,g1_6,g0_4,g0_5,g0_6⟩
 refine pk1 6 E (.al (t:=51) S [iv 0,.slice none 0 0]) ?_
 rintro _ u90 a ⟨b89,rfl,hb89,S,hg⟩ E
 refine ⟨.of hg,?_⟩
 replace S:=S.front 2 rfl
 obtain ⟨F85,hs,g86,S⟩:=S.give
 replace g38:=g38.mono hs
 replace g0_4:=g0_4.mono hs
 replace g0_5:=g0_5.mono hs
 replace g0_6:=g0_6.mono hs
 replace g1_4:=g1_4.mono hs
 replace g1_5:=g1_5.mono hs
 replace g1_6:=g1_6.mono hs
 refine on1 3 E (.cl en138 (qCI.calls t52 A55 c56 _ _ S.own.sub)) ?_
 rintro _ u88 a ⟨b87,rfl,hC⟩ E
 refine ⟨.of hC.agr,?_⟩
 replace S:=S.called (X:=[]) hC
 replace S:=S.pm [1,0] 3
 exact hJ _ _ ⟨_,b89,b87,F85,E,.of,S,g86,g38,g1_4,g1_5,g1_6,g0_4,g0_5,g0_6⟩
 refine wp_skip ?_
 replace S:=S.pm [] 2
 exact J147 _ (by omega) _ A36 c37 ((nth qC.z l17 x18).f1) F72 _ _ E .of S g38 g1_4 g1_5 g1_6 g0_4 g0_5 g0_6 H
 refine wp_exit ?_
 refine hK15 _ _ (rr E fun a E=>(wp_ret ?_))
 have hn168:=(qCZ (S.row_at (i:=2) rfl)).1
 replace E:=E.set (d:=4) (v:=.slice A11 l17.length c12) (Eq.trans (b:=.slice A11 t8.length c12) (by kernel_rfl) (by rw [← hn168]))
 replace S:Sm W F u23 F19 [box b4 #[iv y.f0,iv y.f1,iv y.f2,iv y.f3,.slice A1_4 y.f4.length c1_4,.slice A1_5 y.f5.length c1_5,.slice A1_6 y.f6.length c1_6] 26,box b2 #[iv x.f0,iv x.f1,iv x.f2,iv x.f3,.slice A0_4 x.f4.length c0_4,.slice A0_5 x.f5.length c0_5,.slice A0_6 x.f6.length c0_6] 26,row qC.k 49 (.slice A11 l17.length c12) l17]:=by rw [← hn168]; exact S
 replace S:=S.pm [] 2
 obtain rfl:=si H
 exact rt1 E ⟨_,rfl,_,_,_,rfl,S⟩
def qBT.j21:Nat→qF→qE→Bool→Option (qF × Int)
 | 0,_,_,_=>none
 | k+1,x,y,y20=>if y20=true then ((qBD.f k x).bind fun t29=>(some (t29,1))) else (if x.f0=2147483647 then ((qBD.f k x).bind fun t53=>(some (t53,6))) else ((qBD.f k x).bind fun t77=>((qBp.f k t77 y).bind fun t95=>(if t95.2=0 then ((qAx.f k x t95.1).bind fun t142=>(some ((⟨(w64 (t95.1.f0+1)),t95.1.f1,t95.1.f2,t95.1.f3,t95.1.f4,t95.1.f5,t142⟩:qF),0))) else ((qBD.f k x).bind fun t120=>(some (t120,t95.2)))))))
theorem qBT.j21_s k x y y20:type_of% (qBT.j21.eq_2 x y y20 k):=qBT.j21.eq_2 x y y20 k
def qBT.f(k:Nat)(x:qF)(y:qE):Option (qF × Int):=(qAL.f k x).bind fun t11=>(if t11=0 then (if y.f0<1 then (qBT.j21 k x y true) else (if y.f0≥11 then (qBT.j21 k x y true) else ((qCG.f y).bind fun t18=>(qBT.j21 k x y (!t18))))) else (some ((⟨0,0,0,0,[],[],[]⟩:qF),1)))
def qBT.Post(W F:World)(r:qF × Int)(v:Value)(w':World):Prop:=∃(F':World)(RA0_4:OA)(rc0_4:Nat)(RA0_5:OA)(rc0_5:Nat)(RA0_6:OA)(rc0_6:Nat),v = .tuple #[.agg #[iv r.1.f0,iv r.1.f1,iv r.1.f2,iv r.1.f3,.slice RA0_4 r.1.f4.length rc0_4,.slice RA0_5 r.1.f5.length rc0_5,.slice RA0_6 r.1.f6.length rc0_6],iv r.2]∧Sm W F w' F' [row qC.k 49 (.slice RA0_6 r.1.f6.length rc0_6) r.1.f6]∧Rd qA.k F' RA0_4 rc0_4 r.1.f4∧Rd qD.k F' RA0_5 rc0_5 r.1.f5
theorem qBT.calls(k:Nat)(x:qF)(y:qE)(A0_4:OA)(c0_4:Nat)(A0_5:OA)(c0_5:Nat)(A0_6:OA)(c0_6:Nat)(A1_6:OA)(c1_6:Nat)(r:qF × Int)(W F:World)(hown:Sub F W)(g0_4:Rd qA.k F A0_4 c0_4 x.f4)(g0_5:Rd qD.k F A0_5 c0_5 x.f5)(g0_6:Rd qC.k F A0_6 c0_6 x.f6)(g1_6:Rd ki F A1_6 c1_6 y.f6)(H:qBT.f k x y=some r):
    Cr 26 #[.agg #[iv x.f0,iv x.f1,iv x.f2,iv x.f3,.slice A0_4 x.f4.length c0_4,.slice A0_5 x.f5.length c0_5,.slice A0_6 x.f6.length c0_6],.agg #[iv y.f0,iv y.f1,iv y.f2,iv y.f3,iv y.f4,iv y.f5,.slice A1_6 y.f6.length c1_6]] W (qBT.Post W F r):=by
 have S:=St.start (Own.nil hown)
 unfold qBT.f at H
 refine ent 56 rfl rfl rfl (fun a E=>?_)
 refine sq fun K1 hK1=>pl0 (plx (t:=26) E S [iv x.f0,iv x.f1,iv x.f2,iv x.f3,.slice A0_4 x.f4.length c0_4,.slice A0_5 x.f5.length c0_5,.slice A0_6 x.f6.length c0_6] fun b2 u3 hb2 S a E=>plx (t:=40) E S [iv y.f0,iv y.f1,iv y.f2,iv y.f3,iv y.f4,iv y.f5,.slice A1_6 y.f6.length c1_6] fun b4 u5 hb4 S a E=>pla (t:=26) E S [iv 0,iv 0,iv 0,iv 0,.slice none 0 0,.slice none 0 0,.slice none 0 0] fun b6 u7 hb6 S a E=>plc E (.r 3 1 .nil) (fun a E=>pld (hK1 _ _ (sq fun K8 hK8=>wp_block (sq fun K9 hK9=>pl0 ?_)))))
 have hb2:=S.ba 2
 refine plc E (.bn 0 0 7 hb2 .nil) (fun a E=>?_)
 obtain ⟨t11,h12,H⟩:=bd H
 refine plq E S en32 (qAL.calls k x _ _ _ _ _ _ _ _ _ S.own.sub g0_4 g0_5 g0_6 h12) fun u10 S a E=>plc E (.r 2 2 .nil) (fun a E=>pld (hK9 _ _ (E.ikn 8 H (fun c13 E H=>?_) fun c13 E H=>?_)))
 refine sq fun K14 hK14=>?_
 have J24:∀ kq22,kq22≤k→∀(G:NV)(y20:Bool)(a:Act)(w':World),Env 56 G a→At G [(2,.pointer (pb b2)),(3,.pointer (pb b4)),(4,.pointer (pb b6)),(13,.bool y20)]→Sm W F w' F [box b6 #[iv 0,iv 0,iv 0,iv 0,.slice none 0 0,.slice none 0 0,.slice none 0 0] 26,box b4 #[iv y.f0,iv y.f1,iv y.f2,iv y.f3,iv y.f4,iv y.f5,.slice A1_6 y.f6.length c1_6] 40,box b2 #[iv x.f0,iv x.f1,iv x.f2,iv x.f3,.slice A0_4 x.f4.length c0_4,.slice A0_5 x.f5.length c0_5,.slice A0_6 x.f6.length c0_6] 26]→qBT.j21 kq22 x y y20=some r→K14 a w':=by
  intro kq22 hkq G y20 a u25 E A S H
  obtain _ | k23:=kq22
  exact zz H
  rw [qBT.j21_s]at H
  obtain ⟨J,E⟩:=E.at A
  refine hK14 _ _ (E.ib 13 H (fun c26 E H=>?_) fun c26 E H=>?_)
  refine sq fun K27 hK27=>pl0 (plc E (.bn 0 0 7 (S.ba 2) .nil) (fun a E=>?_))
  obtain ⟨t29,h30,H⟩:=bd H
  refine ple E (.cl en77 (qBD.calls k23 x _ _ _ _ _ _ _ _ _ S.own.sub g0_4 g0_5 g0_6 h30)) ?_
  rintro _ u28 a ⟨F31,A32,c33,A36,c37,A40,c41,rfl,hC⟩ E
  have hs:=hC.sub
  replace S:=S.called (X:=[]) hC
  replace g0_4:=g0_4.mono hs
  replace g0_5:=g0_5.mono hs
  replace g0_6:=g0_6.mono hs
  replace g1_6:=g1_6.mono hs
  replace S:=S.front 3 rfl
  refine pls E S [iv t29.f0,iv t29.f1,iv t29.f2,iv t29.f3,.slice A32 t29.f4.length c33,.slice A36 t29.f5.length c37,.slice A40 t29.f6.length c41] fun u44 hb6 S a E=>plc E (.r 3 1 .nil) (fun a E=>pld (hK27 _ _ (wp_ret (qCW (qCV ?_)))))
  replace S:=S.front 1 rfl
  obtain ⟨F45,hs,g46,S⟩:=S.give
  replace g0_4:=g0_4.mono hs
  replace g0_5:=g0_5.mono hs
  replace g0_6:=g0_6.mono hs
  replace g1_6:=g1_6.mono hs
  replace S:=S.front 1 rfl
  obtain ⟨F47,hs,g48,S⟩:=S.give
  replace g0_4:=g0_4.mono hs
  replace g0_5:=g0_5.mono hs
  replace g0_6:=g0_6.mono hs
  replace g46:=g46.mono hs
  replace g1_6:=g1_6.mono hs
  replace S:=S.pm [1] 4
  obtain rfl:=si H
  exact rtm E (.b hb6 ag26 sz26 (.t .nil)) ⟨_,rfl,_,_,_,_,_,_,_,rfl,S,g46,g48⟩
  refine sq fun K49 hK49=>pl0 ?_
  have hb2:=S.ba 2
  refine plc E (.r 0 1<|.b 1 0 hb2<|.r 2 2<|.nil) (fun a E=>pld (hK49 _ _ (E.ik 29 H (fun c50 E H=>?_) fun c50 E H=>?_)))
  refine sq fun K51 hK51=>pl0 (plc E (.bn 0 0 7 hb2 .nil) (fun a E=>?_))
  obtain ⟨t53,h54,H⟩:=bd H
  refine ple E (.cl en77 (qBD.calls k23 x _ _ _ _ _ _ _ _ _ S.own.sub g0_4 g0_5 g0_6 h54)) ?_
  rintro _ u52 a ⟨F55,A56,c57,A60,c61,A64,c65,rfl,hC⟩ E
  have hs:=hC.sub
  replace S:=S.called (X:=[]) hC
  replace g0_4:=g0_4.mono hs
  replace g0_5:=g0_5.mono hs
  replace g0_6:=g0_6.mono hs
  replace g1_6:=g1_6.mono hs
  replace S:=S.front 3 rfl
  refine pls E S [iv t53.f0,iv t53.f1,iv t53.f2,iv t53.f3,.slice A56 t53.f4.length c57,.slice A60 t53.f5.length c61,.slice A64 t53.f6.length c65] fun u68 hb6 S a E=>plc E (.r 3 1 .nil) (fun a E=>pld (hK51 _ _ (wp_ret (qCW (qCV ?_)))))
  replace S:=S.front 1 rfl
  obtain ⟨F69,hs,g70,S⟩:=S.give
  replace g0_4:=g0_4.mono hs
  replace g0_5:=g0_5.mono hs
  replace g0_6:=g0_6.mono hs
  replace g1_6:=g1_6.mono hs
  replace S:=S.front 1 rfl
  obtain ⟨F71,hs,g72,S⟩:=S.give
  replace g0_4:=g0_4.mono hs
  replace g0_5:=g0_5.mono hs
  replace g0_6:=g0_6.mono hs
  replace g70:=g70.mono hs
  replace g1_6:=g1_6.mono hs
  replace S:=S.pm [1] 4
  obtain rfl:=si H
  exact rtm E (.b hb6 ag26 sz26 (.t .nil)) ⟨_,rfl,_,_,_,_,_,_,_,rfl,S,g70,g72⟩
  refine wp_skip ?_
  refine qCX ?_
  refine hK8 _ _ (sq fun K76 hK76=>?_)
  refine drawn 10 ⟨[3,8],[],fun q=>False⟩ mixed rfl (by kernel_rfl) (fun hst=>?_)
  replace S:=S.drew
  have hb2:=S.ba 2
  have hb4:=S.ba 1
  refine mny 8 hst E (.bn 0 0 7 hb2<|.bn 2 0 7 hb4<|.nil) (fun a E=>?_)
  obtain ⟨t77,h78,H⟩:=bd H
  obtain ⟨t95,h96,H⟩:=bd H
  refine meet2 (fun a w'=>∃(G:NV)(b93:Nat)(A99:OA)(c100:Nat)(A102:OA)(c103:Nat)(A105:OA)(c106:Nat)(F112:World),Env 56 G a∧At G [(2,.pointer (pb b2)),(4,.pointer (pb b6)),(6,.pointer (pb b93)),(40,.agg #[iv t95.1.f0,iv t95.1.f1,iv t95.1.f2,iv t95.1.f3,.slice A99 t95.1.f4.length c100,.slice A102 t95.1.f5.length c103,.slice A105 t95.1.f6.length c106]),(41,iv t95.2)]∧Sm W F w' F112 [box b93 #[iv 0,iv 0,iv 0,iv 0,.slice none 0 0,.slice none 0 0,.slice none 0 0] 26,box b6 #[iv 0,iv 0,iv 0,iv 0,.slice none 0 0,.slice none 0 0,.slice none 0 0] 26,box b4 #[iv y.f0,iv y.f1,iv y.f2,iv y.f3,iv y.f4,iv y.f5,.slice A1_6 y.f6.length c1_6] 40,box b2 #[iv x.f0,iv x.f1,iv x.f2,iv x.f3,.slice A0_4 x.f4.length c0_4,.slice A0_5 x.f5.length c0_5,.slice A0_6 x.f6.length c0_6] 26]∧Rd qA.k F112 A99 c100 t95.1.f4∧Rd qD.k F112 A102 c103 t95.1.f5∧Rd qC.k F112 A105 c106 t95.1.f6∧Rd ki F112 A1_6 c1_6 y.f6∧Rd qA.k F112 A0_4 c0_4 x.f4∧Rd qD.k F112 A0_5 c0_5 x.f5∧Rd qC.k F112 A0_6 c0_6 x.f6) 2 255 ?_ (fun hJb=>?_)
  rintro a u113 ⟨G,b93,A99,c100,A102,c103,A105,c106,F112,E,A,S,g101,g104,g107,g1_6,g0_4,g0_5,g0_6⟩
  obtain ⟨J,E⟩:=E.at A
  refine on1 8 E (.sto S [iv t95.1.f0,iv t95.1.f1,iv t95.1.f2,iv t95.1.f3,.slice A99 t95.1.f4.length c100,.slice A102 t95.1.f5.length c103,.slice A105 t95.1.f6.length c106]) ?_
  rintro _ u114 a ⟨rfl,hb93,S,hz⟩ E
  refine ⟨.d,?_⟩
  refine mny 0 hst E (.r 9 1 .nil) (fun a E=>?_)
  refine dn ?_
  refine hK76 _ _ (sq fun K115 hK115=>rr E fun a E=>(E.ikn 43 H (fun c117 E H=>?_) fun c117 E H=>?_))
  refine wp_skip (hK115 _ _ (sq fun K140 hK140=>pl0 (plc E (.bn 0 0 7 (S.ba 3)<|.bn 1 0 7 hb93<|.nil) (fun a E=>?_))))
  obtain ⟨t142,h143,H⟩:=bd H
  refine ple E (.cl en79 (qAx.calls k23 x t95.1 _ _ _ _ _ _ _ _ _ _ _ _ _ _ _ S.own.sub g0_4 g0_5 g0_6 g101 g104 g107 h143)) ?_
  rintro _ u141 a ⟨F144,A145,c146,rfl,hC⟩ E
  have hs:=hC.sub
  replace S:=S.called (X:=[]) hC
  replace g101:=g101.mono hs
  replace g104:=g104.mono hs
  replace g107:=g107.mono hs
  replace g0_4:=g0_4.mono hs
  replace g0_5:=g0_5.mono hs
  replace g0_6:=g0_6.mono hs
  replace g1_6:=g1_6.mono hs
  refine plc E (.r 3 1 .nil) (fun a E=>?_)
  replace S:=S.front 1 rfl
  refine pls E S [iv t95.1.f0,iv t95.1.f1,iv t95.1.f2,iv t95.1.f3,.slice A99 t95.1.f4.length c100,.slice A102 t95.1.f5.length c103,.slice A145 t142.length c146] fun u149 hb93 S a E=>pld (hK140 _ _ (sq fun K150 hK150=>pl0 (plc E (.r 0 1<|.b 1 0 hb93<|.r 2 2<|.nil) (fun a E=>pls E S [iv (w64 (t95.1.f0+1)),iv t95.1.f1,iv t95.1.f2,iv t95.1.f3,.slice A99 t95.1.f4.length c100,.slice A102 t95.1.f5.length c103,.slice A145 t142.length c146] fun u151 hb93 S a E=>pld (hK150 _ _ (sq fun K152 hK152=>pl0 (plc E (.bn 0 0 7 hb93 .nil) (fun a E=>?_))))))))
  replace S:=S.front 2 rfl
  refine pls E S [iv (w64 (t95.1.f0+1)),iv t95.1.f1,iv t95.1.f2,iv t95.1.f3,.slice A99 t95.1.f4.length c100,.slice A102 t95.1.f5.length c103,.slice A145 t142.length c146] fun u153 hb6 S a E=>plc E (.r 2 1 .nil) (fun a E=>pld (hK152 _ _ (wp_ret ?_)))
  replace S:=S.pm [2] 5
  obtain rfl:=si H
  exact rtm E (.b hb6 ag26 sz26 (.t .nil)) ⟨_,rfl,_,_,_,_,_,_,_,rfl,S,g101,g104⟩
  refine sq fun K118 hK118=>pl0 (plc E (.bn 0 0 7 (S.ba 3) .nil) (fun a E=>?_))
  obtain ⟨t120,h121,H⟩:=bd H
  refine ple E (.cl en77 (qBD.calls k23 x _ _ _ _ _ _ _ _ _ S.own.sub g0_4 g0_5 g0_6 h121)) ?_
  rintro _ u119 a ⟨F122,A123,c124,A127,c128,A131,c132,rfl,hC⟩ E
  have hs:=hC.sub
  replace S:=S.called (X:=[]) hC
  replace g101:=g101.mono hs
  replace g104:=g104.mono hs
  replace g107:=g107.mono hs
  replace g0_4:=g0_4.mono hs
  replace g0_5:=g0_5.mono hs
  replace g0_6:=g0_6.mono hs
  replace g1_6:=g1_6.mono hs
  refine plc E (.r 2 1 .nil) (fun a E=>?_)
  replace S:=S.front 4 rfl
  refine pls E S [iv t120.f0,iv t120.f1,iv t120.f2,iv t120.f3,.slice A123 t120.f4.length c124,.slice A127 t120.f5.length c128,.slice A131 t120.f6.length c132] fun u135 hb6 S a E=>plc E (.r 4 1 .nil) (fun a E=>pld (hK118 _ _ (wp_ret (qCV ?_))))
  replace S:=S.front 1 rfl
  obtain ⟨F136,hs,g137,S⟩:=S.give
  replace g101:=g101.mono hs
  replace g104:=g104.mono hs
  replace g107:=g107.mono hs
  replace g0_4:=g0_4.mono hs
  replace g0_5:=g0_5.mono hs
  replace g0_6:=g0_6.mono hs
  replace g1_6:=g1_6.mono hs
  replace S:=S.front 1 rfl
  obtain ⟨F138,hs,g139,S⟩:=S.give
  replace g101:=g101.mono hs
  replace g104:=g104.mono hs
  replace g107:=g107.mono hs
  replace g0_4:=g0_4.mono hs
  replace g0_5:=g0_5.mono hs
  replace g0_6:=g0_6.mono hs
  replace g137:=g137.mono hs
  replace g1_6:=g1_6.mono hs
  replace S:=S.pm [1] 5
  obtain rfl:=si H
  exact rtm E (.b hb6 ag26 sz26 (.t .nil)) ⟨_,rfl,_,_,_,_,_,_,_,rfl,S,g137,g139⟩
  refine meet2 (fun a w'=>∃(G:NV)(b93:Nat)(A81:OA)(c82:Nat)(A85:OA)(c86:Nat)(A89:OA)(c90:Nat)(F109:World),Env 56 G a∧At G [(2,.pointer (pb b2)),(4,.pointer (pb b6)),(6,.pointer (pb b93)),(37,.agg #[iv t77.f0,iv t77.f1,iv t77.f2,iv t77.f3,.slice A81 t77.f4.length c82,.slice A85 t77.f5.length c86,.slice A89 t77.f6.length c90]),(38,.agg #[iv y.f0,iv y.f1,iv y.f2,iv y.f3,iv y.f4,iv y.f5,.slice A1_6 y.f6.length c1_6])]∧Sm W F w' F109 [box b93 #[iv 0,iv 0,iv 0,iv 0,.slice none 0 0,.slice none 0 0,.slice none 0 0] 26,box b6 #[iv 0,iv 0,iv 0,iv 0,.slice none 0 0,.slice none 0 0,.slice none 0 0] 26,box b4 #[iv y.f0,iv y.f1,iv y.f2,iv y.f3,iv y.f4,iv y.f5,.slice A1_6 y.f6.length c1_6] 40,box b2 #[iv x.f0,iv x.f1,iv x.f2,iv x.f3,.slice A0_4 x.f4.length c0_4,.slice A0_5 x.f5.length c0_5,.slice A0_6 x.f6.length c0_6] 26,row qA.k 104 (.slice A81 t77.f4.length c82) t77.f4,row qD.k 97 (.slice A85 t77.f5.length c86) t77.f5,row qC.k 49 (.slice A89 t77.f6.length c90) t77.f6]∧Rd ki F109 A1_6 c1_6 y.f6∧Rd qA.k F109 A0_4 c0_4 x.f4∧Rd qD.k F109 A0_5 c0_5 x.f5∧Rd qC.k F109 A0_6 c0_6 x.f6) 6 135 ?_ (fun hJ=>?_)
  rintro a u110 ⟨G,b93,A81,c82,A85,c86,A89,c90,F109,E,A,S,g1_6,g0_4,g0_5,g0_6⟩
  obtain ⟨J,E⟩:=E.at A
  replace S:=S.pm [4,5,6,0,1,2,3] 7
  refine on1 3 E (.cl en78 (qBp.calls k23 t77 y _ _ _ _ _ _ _ _ _ _ _ (Own.left (X:=[row qA.k 104 (.slice A81 t77.f4.length c82) t77.f4,row qD.k 97 (.slice A85 t77.f5.length c86) t77.f5,row qC.k 49 (.slice A89 t77.f6.length c90) t77.f6]) S.own) g1_6 h96)) ?_
  rintro _ u97 a ⟨F98,A99,c100,A102,c103,A105,c106,rfl,hC,g101,g104,g107⟩ E
  refine ⟨.d,?_⟩
  have hs:=hC.sub
  replace S:=S.called (X:=[row qA.k 104 (.slice A81 t77.f4.length c82) t77.f4,row qD.k 97 (.slice A85 t77.f5.length c86) t77.f5,row qC.k 49 (.slice A89 t77.f6.length c90) t77.f6]) hC
  replace g1_6:=g1_6.mono hs
  replace g0_4:=g0_4.mono hs
  replace g0_5:=g0_5.mono hs
  replace g0_6:=g0_6.mono hs
  refine mny 2 hst E (.r 4 3 .nil) (fun a E=>?_)
  exact hJb _ _ ⟨_,b93,A99,c100,A102,c103,A105,c106,F98,E,.of,S,g101,g104,g107,g1_6,g0_4,g0_5,g0_6⟩
  refine pk2 1 7 ?_ ?_
  refine pk1 1 E (.cl en77 (qBD.calls k23 x _ _ _ _ _ _ _ _ _ S.own.sub g0_4 g0_5 g0_6 h78)) ?_
  rintro _ u79 a ⟨F80,A81,c82,A85,c86,A89,c90,rfl,hC⟩ E
  refine ⟨.of hC.agr,?_⟩
  have hs:=hC.sub
  replace S:=S.called (X:=[]) hC
  replace g0_4:=g0_4.mono hs
  replace g0_5:=g0_5.mono hs
  replace g0_6:=g0_6.mono hs
  replace g1_6:=g1_6.mono hs
  refine pk2 7 3 ?_ ?_
  refine pk1 7 E (.al (t:=26) S [iv 0,iv 0,iv 0,iv 0,.slice none 0 0,.slice none 0 0,.slice none 0 0]) ?_
  rintro _ u94 a ⟨b93,rfl,hb93,S,hg⟩ E
  refine ⟨.of hg,?_⟩
  replace S:=S.pm [0,4,5,6,1,2,3] 7
  exact hJ _ _ ⟨_,b93,A81,c82,A85,c86,A89,c90,F80,E,.of,S,g1_6,g0_4,g0_5,g0_6⟩
  refine pk1 3 E (.cl en78 (qBp.calls k23 t77 y _ _ _ _ _ _ _ _ _ _ _ (Own.left (X:=[row qA.k 104 (.slice A81 t77.f4.length c82) t77.f4,row qD.k 97 (.slice A85 t77.f5.length c86) t77.f5,row qC.k 49 (.slice A89 t77.f6.length c90) t77.f6]) S.own) g1_6 h96)) ?_
  rintro _ u97 a ⟨F98,A99,c100,A102,c103,A105,c106,rfl,hC,g101,g104,g107⟩ E
  refine ⟨.d,?_⟩
  have hs:=hC.sub
  replace S:=S.called (X:=[row qA.k 104 (.slice A81 t77.f4.length c82) t77.f4,row qD.k 97 (.slice A85 t77.f5.length c86) t77.f5,row qC.k 49 (.slice A89 t77.f6.length c90) t77.f6]) hC
  replace g0_4:=g0_4.mono hs
  replace g0_5:=g0_5.mono hs
  replace g0_6:=g0_6.mono hs
  replace g1_6:=g1_6.mono hs
  refine mny 3 hst E (.r 4 3 .nil) (fun a E=>?_)
  refine on1 7 E (.al (t:=26) S [iv 0,iv 0,iv 0,iv 0,.slice none 0 0,.slice none 0 0,.slice none 0 0]) ?_
  rintro _ u94 a ⟨b93,rfl,hb93,S,hg⟩ E
  refine ⟨.of hg,?_⟩
  exact hJb _ _ ⟨_,b93,A99,c100,A102,c103,A105,c106,F98,E,.of,S,g101,g104,g107,g1_6,g0_4,g0_5,g0_6⟩
  refine pk1 7 E (.al (t:=26) S [iv 0,iv 0,iv 0,iv 0,.slice none 0 0,.slice none 0 0,.slice none 0 0]) ?_
  rintro _ u94 a ⟨b93,rfl,hb93,S,hg⟩ E
  refine ⟨.of hg,?_⟩
  refine on1 1 E (.cl en77 (qBD.calls k23 x _ _ _ _ _ _ _ _ _ S.own.sub g0_4 g0_5 g0_6 h78)) ?_
  rintro _ u79 a ⟨F80,A81,c82,A85,c86,A89,c90,rfl,hC⟩ E
  refine ⟨.of hC.agr,?_⟩
  have hs:=hC.sub
  replace S:=S.called (X:=[]) hC
  replace g0_4:=g0_4.mono hs
  replace g0_5:=g0_5.mono hs
  replace g0_6:=g0_6.mono hs
  replace g1_6:=g1_6.mono hs
  replace S:=S.pm [3,4,5,6,0,1,2] 7
  exact hJ _ _ ⟨_,b93,A81,c82,A85,c86,A89,c90,F80,E,.of,S,g1_6,g0_4,g0_5,g0_6⟩
 refine pl0 ?_
 have hb4:=S.ba 1
 refine plc E (.r 0 1<|.b 1 0 hb4<|.r 2 2<|.nil) (fun a E=>E.fk 17 H (fun c15 E H=>?_) fun c15 E H=>?_)
 refine plc E (.r 4 10 .nil) (fun a E=>pld ?_)
 exact J24 _ (by omega) _ true _ _ E .of S H
 refine plc E (.r 4 1<|.b 5 0 hb4<|.r 6 3<|.nil) (fun a E=>E.fk 22 H (fun c16 E H=>?_) fun c16 E H=>?_)
 refine plc E (.r 9 5 .nil) (fun a E=>pld ?_)
 exact J24 _ (by omega) _ true _ _ E .of S H
 refine plc E (.bn 9 0 7 hb4 .nil) (fun a E=>?_)
 obtain ⟨t18,h19,H⟩:=bd H
 refine plq E S en76 (qCG.calls y _ _ _ _ _ S.own.sub g1_6 h19) fun u17 S a E=>plc E (.r 11 3 .nil) (fun a E=>pld ?_)
 exact J24 _ (by omega) _ (!t18) _ _ E .of S H
 refine sq fun K73 hK73=>pl0 (plc E (.r 0 1 .nil) (fun a E=>pls E S [iv 0,iv 0,iv 0,iv 0,.slice none 0 0,.slice none 0 0,.slice none 0 0] fun u74 hb6 S a E=>plc E (.r 2 1 .nil) (fun a E=>pld (hK73 _ _ (wp_ret (qCW (qCV ?_)))))))
 replace S:=S.nilrow qC.k 49
 replace S:=S.pm [0] 4
 obtain rfl:=si H
 exact rtm E (.b hb6 ag26 sz26 (.t .nil)) ⟨_,rfl,_,_,_,_,_,_,_,rfl,S,(Rd.nil _ _),(Rd.nil _ _)⟩
mutual
def qBG.j34:Nat→qF × Int→Bool→Option qF
 | 0,_,_=>none
 | k+1,t10,y33=>if y33=true then (qBG.j42 k t10 (w64 (t10.1.f0+1))) else (qBG.j42 k t10 t10.1.f0)
def qBG.j42:Nat→qF × Int→Int→Option qF
 | 0,_,_=>none
 | k+1,t10,x41=>some (⟨x41,t10.1.f1,t10.1.f2,t10.1.f3,t10.1.f4,t10.1.f5,t10.1.f6⟩:qF)
end
theorem qBG.j34_s k t10 y33:type_of% (qBG.j34.eq_2 t10 y33 k):=qBG.j34.eq_2 t10 y33 k
theorem qBG.j42_s k t10 x41:type_of% (qBG.j42.eq_2 t10 x41 k):=qBG.j42.eq_2 t10 x41 k
def qBG.f(k:Nat)(x:qF)(y:qE):Option qF:=(qBT.f k x y).bind fun t10=>(if t10.2=0 then (qBG.j34 k t10 false) else (if t10.1.f0<2147483647 then ((qAL.f k x).bind fun t31=>(qBG.j34 k t10 (t31 == 0))) else (qBG.j34 k t10 false)))
def qBG.Post(W F:World)(r:qF)(v:Value)(w':World):Prop:=∃(F':World)(RA0_4:OA)(rc0_4:Nat)(RA0_5:OA)(rc0_5:Nat)(RA0_6:OA)(rc0_6:Nat),v = .agg #[iv r.f0,iv r.f1,iv r.f2,iv r.f3,.slice RA0_4 r.f4.length rc0_4,.slice RA0_5 r.f5.length rc0_5,.slice RA0_6 r.f6.length rc0_6]∧Sm W F w' F' [row qC.k 49 (.slice RA0_6 r.f6.length rc0_6) r.f6]∧Rd qA.k F' RA0_4 rc0_4 r.f4∧Rd qD.k F' RA0_5 rc0_5 r.f5
theorem qBG.calls(k:Nat)(x:qF)(y:qE)(A0_4:OA)(c0_4:Nat)(A0_5:OA)(c0_5:Nat)(A0_6:OA)(c0_6:Nat)(A1_6:OA)(c1_6:Nat)(r:qF)(W F:World)(hown:Sub F W)(g0_4:Rd qA.k F A0_4 c0_4 x.f4)(g0_5:Rd qD.k F A0_5 c0_5 x.f5)(g0_6:Rd qC.k F A0_6 c0_6 x.f6)(g1_6:Rd ki F A1_6 c1_6 y.f6)(H:qBG.f k x y=some r):
    Cr 31 #[.agg #[iv x.f0,iv x.f1,iv x.f2,iv x.f3,.slice A0_4 x.f4.length c0_4,.slice A0_5 x.f5.length c0_5,.slice A0_6 x.f6.length c0_6],.agg #[iv y.f0,iv y.f1,iv y.f2,iv y.f3,iv y.f4,iv y.f5,.slice A1_6 y.f6.length c1_6]] W (qBG.Post W F r):=by
 have S:=St.start (Own.nil hown)
 unfold qBG.f at H
 refine ent 30 rfl rfl rfl (fun a E=>?_)
 refine sq fun K1 hK1=>pl0 (plx (t:=26) E S [iv x.f0,iv x.f1,iv x.f2,iv x.f3,.slice A0_4 x.f4.length c0_4,.slice A0_5 x.f5.length c0_5,.slice A0_6 x.f6.length c0_6] fun b2 u3 hb2 S a E=>plx (t:=40) E S [iv y.f0,iv y.f1,iv y.f2,iv y.f3,iv y.f4,iv y.f5,.slice A1_6 y.f6.length c1_6] fun b4 u5 hb4 S a E=>pla (t:=26) E S [iv 0,iv 0,iv 0,iv 0,.slice none 0 0,.slice none 0 0,.slice none 0 0] fun b6 u7 hb6 S a E=>pld (hK1 _ _ (sq fun K8 hK8=>pl0 ?_)))
 have hb2:=S.ba 2
 refine plc E (.bn 0 0 7 hb2<|.bn 1 0 7 (S.ba 1)<|.nil) (fun a E=>?_)
 obtain ⟨t10,h11,H⟩:=bd H
 refine ple E (.cl en26 (qBT.calls k x y _ _ _ _ _ _ _ _ _ _ _ S.own.sub g0_4 g0_5 g0_6 g1_6 h11)) ?_
 rintro _ u9 a ⟨F12,A13,c14,A16,c17,A19,c20,rfl,hC,g15,g18⟩ E
 have hs:=hC.sub
 replace S:=S.called (X:=[]) hC
 replace g0_4:=g0_4.mono hs
 replace g0_5:=g0_5.mono hs
 replace g0_6:=g0_6.mono hs
 replace g1_6:=g1_6.mono hs
 refine plc E (.r 3 3 .nil) (fun a E=>pla (t:=26) E S [iv 0,iv 0,iv 0,iv 0,.slice none 0 0,.slice none 0 0,.slice none 0 0] fun b23 u24 hb23 S a E=>pls E S [iv t10.1.f0,iv t10.1.f1,iv t10.1.f2,iv t10.1.f3,.slice A13 t10.1.f4.length c14,.slice A16 t10.1.f5.length c17,.slice A19 t10.1.f6.length c20] fun u25 hb23 S a E=>plc E (.r 8 1 .nil) (fun a E=>pld (hK8 _ _ (sq fun K26 hK26=>?_))))
 have J45:∀ kq43,kq43≤k→∀(G:NV)(x41:Int)(a:Act)(w':World),Env 30 G a→At G [(4,.pointer (pb b6)),(5,.pointer (pb b23))]→Sm W F w' F12 [box b23 #[iv x41,iv t10.1.f1,iv t10.1.f2,iv t10.1.f3,.slice A13 t10.1.f4.length c14,.slice A16 t10.1.f5.length c17,.slice A19 t10.1.f6.length c20] 26,box b6 #[iv 0,iv 0,iv 0,iv 0,.slice none 0 0,.slice none 0 0,.slice none 0 0] 26,box b4 #[iv y.f0,iv y.f1,iv y.f2,iv y.f3,iv y.f4,iv y.f5,.slice A1_6 y.f6.length c1_6] 40,box b2 #[iv x.f0,iv x.f1,iv x.f2,iv x.f3,.slice A0_4 x.f4.length c0_4,.slice A0_5 x.f5.length c0_5,.slice A0_6 x.f6.length c0_6] 26,row qC.k 49 (.slice A19 t10.1.f6.length c20) t10.1.f6]→qBG.j42 kq43 t10 x41=some r→K26 a w':=by
  intro kq43 hkq G x41 a u46 E A S H
  obtain _ | k44:=kq43
  exact zz H
  rw [qBG.j42_s]at H
  obtain ⟨J,E⟩:=E.at A
  refine hK26 _ _ (sq fun K47 hK47=>pl0 (plc E (.bn 0 0 7 (S.ba 0) .nil) (fun a E=>?_)))
  replace S:=S.front 1 rfl
  refine pls E S [iv x41,iv t10.1.f1,iv t10.1.f2,iv t10.1.f3,.slice A13 t10.1.f4.length c14,.slice A16 t10.1.f5.length c17,.slice A19 t10.1.f6.length c20] fun u48 hb6 S a E=>pld (hK47 _ _ (wp_ret ?_))
  replace S:=S.pm [] 4
  obtain rfl:=si H
  exact ret1 E rfl (.cell (by kernel_rfl) (qCk [iv x41,iv t10.1.f1,iv t10.1.f2,iv t10.1.f3,.slice A13 t10.1.f4.length c14,.slice A16 t10.1.f5.length c17,.slice A19 t10.1.f6.length c20] ag26 sz26 hb6 rfl) .nil) ⟨_,rfl,_,_,_,_,_,_,_,rfl,S,g15,g18⟩
 refine sq fun K27 hK27=>?_
 have J37:∀ kq35,kq35≤k→∀(G:NV)(y33:Bool)(a:Act)(w':World),Env 30 G a→At G [(4,.pointer (pb b6)),(5,.pointer (pb b23)),(24,.bool y33)]→Sm W F w' F12 [box b23 #[iv t10.1.f0,iv t10.1.f1,iv t10.1.f2,iv t10.1.f3,.slice A13 t10.1.f4.length c14,.slice A16 t10.1.f5.length c17,.slice A19 t10.1.f6.length c20] 26,box b6 #[iv 0,iv 0,iv 0,iv 0,.slice none 0 0,.slice none 0 0,.slice none 0 0] 26,box b4 #[iv y.f0,iv y.f1,iv y.f2,iv y.f3,iv y.f4,iv y.f5,.slice A1_6 y.f6.length c1_6] 40,box b2 #[iv x.f0,iv x.f1,iv x.f2,iv x.f3,.slice A0_4 x.f4.length c0_4,.slice A0_5 x.f5.length c0_5,.slice A0_6 x.f6.length c0_6] 26,row qC.k 49 (.slice A19 t10.1.f6.length c20) t10.1.f6]→qBG.j34 kq35 t10 y33=some r→K27 a w':=by
  intro kq35 hkq G y33 a u38 E A S H
  obtain _ | k36:=kq35
  exact zz H
  rw [qBG.j34_s]at H
  obtain ⟨J,E⟩:=E.at A
  refine hK27 _ _ (E.ib 24 H (fun c39 E H=>?_) fun c39 E H=>?_)
  refine pl0 (plc E (.r 0 1<|.b 1 0 (S.ba 0)<|.r 2 2<|.nil) (fun a E=>pls E S [iv (w64 (t10.1.f0+1)),iv t10.1.f1,iv t10.1.f2,iv t10.1.f3,.slice A13 t10.1.f4.length c14,.slice A16 t10.1.f5.length c17,.slice A19 t10.1.f6.length c20] fun u40 hb23 S a E=>pld ?_))
  exact J45 _ (by omega) _ (w64 (t10.1.f0+1)) _ _ E .of S H
  refine wp_skip ?_
  exact J45 _ (by omega) _ t10.1.f0 _ _ E .of S H
 refine pl0 (plc E (.r 0 3 .nil) (fun a E=>E.fkn 15 H (fun c28 E H=>?_) fun c28 E H=>?_))
 refine plc E (.r 3 9 .nil) (fun a E=>pld ?_)
 replace S:=S.pm [0,2,3,4,1] 5
 exact J37 _ (by omega) _ false _ _ E .of S H
 refine plc E (.r 3 1<|.b 4 0 hb23<|.r 5 3<|.nil) (fun a E=>E.fk 20 H (fun c29 E H=>?_) fun c29 E H=>?_)
 refine plc E (.bn 8 0 7 (S.ba 4) .nil) (fun a E=>?_)
 obtain ⟨t31,h32,H⟩:=bd H
 refine plq E S en32 (qAL.calls k x _ _ _ _ _ _ _ _ _ S.own.sub g0_4 g0_5 g0_6 h32) fun u30 S a E=>plc E (.r 10 2 .nil) (fun a E=>pld ?_)
 replace S:=S.pm [0,2,3,4,1] 5
 exact J37 _ (by omega) _ (t31 == 0) _ _ E .of S H
 refine plc E (.r 8 4 .nil) (fun a E=>pld ?_)
 replace S:=S.pm [0,2,3,4,1] 5
 exact J37 _ (by omega) _ false _ _ E .of S H
def qBQ.l44:Nat→List qE→Int→Int→Int→Int→Int→List qA→List qD→List qC→Option qF
 | 0,_,_,_,_,_,_,_,_,_=>none
 | k+1,y,x27,x28,x29,x30,x31,l34,l38,l42=>if x27<(y.length:Int) then (if 0≤x27∧x27<(y.length:Int) then ((qBG.f k (⟨x28,x29,x30,x31,l34,l38,l42⟩:qF) (nth qE.z y x27)).bind fun t67=>(qBQ.l44 k y (w64 (x27+1)) t67.f0 t67.f1 t67.f2 t67.f3 t67.f4 t67.f5 t67.f6)) else (none)) else ((qAL.f k (⟨x28,x29,x30,x31,l34,l38,l42⟩:qF)).bind fun t88=>(if t88=0 then (some (⟨x28,x29,x30,x31,l34,l38,l42⟩:qF)) else (some (⟨0,0,0,0,[],[],[]⟩:qF))))
theorem qBQ.l44_s k y x27 x28 x29 x30 x31 l34 l38 l42:type_of% (qBQ.l44.eq_2 y x27 x28 x29 x30 x31 l34 l38 l42 k):=qBQ.l44.eq_2 y x27 x28 x29 x30 x31 l34 l38 l42 k
def qBQ.f(k:Nat)(x:qF)(y:List qE):Option qF:=(qBD.f k x).bind fun t8=>(qBQ.l44 k y 0 t8.f0 t8.f1 t8.f2 t8.f3 t8.f4 t8.f5 t8.f6)
def qBQ.Post(W F:World)(r:qF)(v:Value)(w':World):Prop:=∃(F':World)(RA0_4:OA)(rc0_4:Nat)(RA0_5:OA)(rc0_5:Nat)(RA0_6:OA)(rc0_6:Nat),v = .agg #[iv r.f0,iv r.f1,iv r.f2,iv r.f3,.slice RA0_4 r.f4.length rc0_4,.slice RA0_5 r.f5.length rc0_5,.slice RA0_6 r.f6.length rc0_6]∧Sm W F w' F' [row qC.k 49 (.slice RA0_6 r.f6.length rc0_6) r.f6]∧Rd qA.k F' RA0_4 rc0_4 r.f4∧Rd qD.k F' RA0_5 rc0_5 r.f5
theorem qBQ.calls(k:Nat)(x:qF)(y:List qE)(A0_4:OA)(c0_4:Nat)(A0_5:OA)(c0_5:Nat)(A0_6:OA)(c0_6:Nat)(A1_0:OA)(c1_0:Nat)(r:qF)(W F:World)(hown:Sub F W)(g0_4:Rd qA.k F A0_4 c0_4 x.f4)(g0_5:Rd qD.k F A0_5 c0_5 x.f5)(g0_6:Rd qC.k F A0_6 c0_6 x.f6)(g1_0:Rd qE.k F A1_0 c1_0 y)(H:qBQ.f k x y=some r):
    Cr 29 #[.agg #[iv x.f0,iv x.f1,iv x.f2,iv x.f3,.slice A0_4 x.f4.length c0_4,.slice A0_5 x.f5.length c0_5,.slice A0_6 x.f6.length c0_6],.slice A1_0 y.length c1_0] W (qBQ.Post W F r):=by
 have S:=St.start (Own.nil hown)
 unfold qBQ.f at H
 refine ent 24 rfl rfl rfl (fun a E=>?_)
 refine sq fun K1 hK1=>pl0 (plx (t:=26) E S [iv x.f0,iv x.f1,iv x.f2,iv x.f3,.slice A0_4 x.f4.length c0_4,.slice A0_5 x.f5.length c0_5,.slice A0_6 x.f6.length c0_6] fun b2 u3 hb2 S a E=>pla (t:=26) E S [iv 0,iv 0,iv 0,iv 0,.slice none 0 0,.slice none 0 0,.slice none 0 0] fun b4 u5 hb4 S a E=>pld (hK1 _ _ (sq fun K6 hK6=>pl0 (plc E (.bn 0 0 7 (S.ba 1) .nil) (fun a E=>?_)))))
 obtain ⟨t8,h9,H⟩:=bd H
 refine ple E (.cl en77 (qBD.calls k x _ _ _ _ _ _ _ _ _ S.own.sub g0_4 g0_5 g0_6 h9)) ?_
 rintro _ u7 a ⟨F10,A11,c12,A15,c16,A19,c20,rfl,hC⟩ E
 have hs:=hC.sub
 replace S:=S.called (X:=[]) hC
 replace g0_4:=g0_4.mono hs
 replace g0_5:=g0_5.mono hs
 replace g0_6:=g0_6.mono hs
 replace g1_0:=g1_0.mono hs
 replace S:=S.front 4 rfl
 refine pls E S [iv t8.f0,iv t8.f1,iv t8.f2,iv t8.f3,.slice A11 t8.f4.length c12,.slice A15 t8.f5.length c16,.slice A19 t8.f6.length c20] fun u23 hb2 S a E=>pld (hK6 _ _ (sq fun K24 hK24=>rr E fun a E=>(wp_block ?_)))
 replace S:=S.front 1 rfl
 obtain ⟨F81,hs,g82,S⟩:=S.give
 replace g0_4:=g0_4.mono hs
 replace g0_5:=g0_5.mono hs
 replace g0_6:=g0_6.mono hs
 replace g1_0:=g1_0.mono hs
 replace S:=S.front 1 rfl
 obtain ⟨F83,hs,g84,S⟩:=S.give
 replace g0_4:=g0_4.mono hs
 replace g0_5:=g0_5.mono hs
 replace g0_6:=g0_6.mono hs
 replace g1_0:=g1_0.mono hs
 replace g82:=g82.mono hs
 replace S:=S.pm [0,2,1] 3
 refine wp_loop_ghost (fun kq45 a w'=>∃(G:NV)(x27:Int)(x28:Int)(x29:Int)(x30:Int)(x31:Int)(A32:OA)(c33:Nat)(l34:List qA)(A36:OA)(c37:Nat)(l38:List qD)(A40:OA)(c41:Nat)(l42:List qC)(F43:World),kq45≤k∧Env 24 G a∧At G [(2,.pointer (pb b2)),(4,.pointer (pb b4)),(9,.slice A1_0 y.length c1_0),(10,iv (y.length:Int)),(11,iv x27)]∧Sm W F w' F43 [box b2 #[iv x28,iv x29,iv x30,iv x31,.slice A32 l34.length c33,.slice A36 l38.length c37,.slice A40 l42.length c41] 26,box b4 #[iv 0,iv 0,iv 0,iv 0,.slice none 0 0,.slice none 0 0,.slice none 0 0] 26,row qC.k 49 (.slice A40 l42.length c41) l42]∧Rd qA.k F43 A32 c33 l34∧Rd qD.k F43 A36 c37 l38∧Rd qE.k F43 A1_0 c1_0 y∧qBQ.l44 kq45 y x27 x28 x29 x30 x31 l34 l38 l42=some r) k ⟨_,0,t8.f0,t8.f1,t8.f2,t8.f3,A11,c12,t8.f4,A15,c16,t8.f5,A19,c20,t8.f6,F83,Nat.le_refl _,E,.of,S,g82,g84,g1_0,H⟩ ?_
 rintro kq45 a u47 ⟨G,x27,x28,x29,x30,x31,A32,c33,l34,A36,c37,l38,A40,c41,l42,F43,hkq,E,A,S,g35,g39,g1_0,H⟩
 obtain _ | k46:=kq45
 exact zz H
 rw [qBQ.l44_s]at H
 obtain ⟨J,E⟩:=E.at A
 refine rr E fun a E=>(sq fun K49 hK49=>E.ik 12 H (fun c50 E H=>?_) fun c50 E H=>?_)
 refine wp_skip (hK49 _ _ (sq fun K51 hK51=>wp_block (sq fun K52 hK52=>pl0 ?_)))
 obtain ⟨c53,H⟩:=gd H
 have hE_:=E
 obtain ⟨ad54,rfl⟩:=g1_0.addr c53.1 c53.2
 replace E:=hE_
 obtain ⟨cs56,⟨A58,c59,rfl,g60⟩,hc57⟩:=g1_0.el qE.z x27 c53.1 c53.2
 refine plc E (.x 0 c53<|.cs 1 (S.fcs hc57)<|.nil) (fun a E=>pla (t:=40) E S [iv 0,iv 0,iv 0,iv 0,iv 0,iv 0,.slice none 0 0] fun b61 u62 hb61 S a E=>pls E S [iv ((nth qE.z y x27).f0),iv ((nth qE.z y x27).f1),iv ((nth qE.z y x27).f2),iv ((nth qE.z y x27).f3),iv ((nth qE.z y x27).f4),iv ((nth qE.z y x27).f5),.slice A58 (((nth qE.z y x27).f6).length) c59] fun u63 hb61 S a E=>pld (hK52 _ _ (pl0 (plc E (.bn 0 0 7 (S.ba 1)<|.bn 1 0 7 hb61<|.nil) (fun a E=>?_)))))
 replace S:=S.front 3 rfl
 obtain ⟨F64,hs,g65,S⟩:=S.give
 replace g1_0:=g1_0.mono hs
 replace g60:=g60.mono hs
 replace g35:=g35.mono hs
 replace g39:=g39.mono hs
 obtain ⟨t67,h68,H⟩:=bd H
 refine ple E (.cl en31 (qBG.calls k46 (⟨x28,x29,x30,x31,l34,l38,l42⟩:qF) (nth qE.z y x27) _ _ _ _ _ _ _ _ _ _ _ S.own.sub g35 g39 g65 g60 h68)) ?_
 rintro _ u66 a ⟨F69,A70,c71,A73,c74,A76,c77,rfl,hC,g72,g75⟩ E
 have hs:=hC.sub
 replace S:=S.called (X:=[]) hC
 replace g1_0:=g1_0.mono hs
 replace g60:=g60.mono hs
 replace g35:=g35.mono hs
 replace g39:=g39.mono hs
 replace g65:=g65.mono hs
 replace S:=S.front 2 rfl
 refine pls E S [iv t67.f0,iv t67.f1,iv t67.f2,iv t67.f3,.slice A70 t67.f4.length c71,.slice A73 t67.f5.length c74,.slice A76 t67.f6.length c77] fun u80 hb2 S a E=>pld ?_
 refine qCX ?_
 refine hK51 _ _ (pl0 (plc E (.r 0 2 .nil) (fun a E=>pld ?_)))
 replace S:=S.pm [0,3,1] 4
 exact qCY ⟨k46,by omega,_,(w64 (x27+1)),t67.f0,t67.f1,t67.f2,t67.f3,A70,c71,t67.f4,A73,c74,t67.f5,A76,c77,t67.f6,F69,by omega,E,.of,S,g72,g75,g1_0,H⟩
 refine wp_exit ?_
 refine hK24 _ _ (sq fun K85 hK85=>sq fun K86 hK86=>pl0 ?_)
 have hb2:=S.ba 0
 refine plc E (.bn 0 0 7 hb2 .nil) (fun a E=>?_)
 obtain ⟨t88,h89,H⟩:=bd H
 refine plq E S en32 (qAL.calls k46 (⟨x28,x29,x30,x31,l34,l38,l42⟩:qF) _ _ _ _ _ _ _ _ _ (Sub.refl _) (g35.mono S.own.sub) (g39.mono S.own.sub) (S.rd_at (i:=2) rfl) h89) fun u87 S a E=>plc E (.r 2 1 .nil) (fun a E=>pld (hK86 _ _ (E.ikn 21 H (fun c90 E H=>?_) fun c90 E H=>?_)))
 refine wp_skip (hK85 _ _ (sq fun K94 hK94=>pl0 (plc E (.bn 0 0 7 (S.ba 0) .nil) (fun a E=>?_))))
 replace S:=S.front 1 rfl
 refine pls E S [iv x28,iv x29,iv x30,iv x31,.slice A32 l34.length c33,.slice A36 l38.length c37,.slice A40 l42.length c41] fun u95 hb4 S a E=>pld (hK94 _ _ (wp_ret ?_))
 replace S:=S.pm [] 2
 obtain rfl:=si H
 exact ret1 E rfl (.cell (by kernel_rfl) (qCk [iv x28,iv x29,iv x30,iv x31,.slice A32 l34.length c33,.slice A36 l38.length c37,.slice A40 l42.length c41] ag26 sz26 hb4 rfl) .nil) ⟨_,rfl,_,_,_,_,_,_,_,rfl,S,g35,g39⟩
 refine sq fun K91 hK91=>pl0 (plc E (.r 0 1 .nil) (fun a E=>?_))
 replace S:=S.front 1 rfl
 refine pls E S [iv 0,iv 0,iv 0,iv 0,.slice none 0 0,.slice none 0 0,.slice none 0 0] fun u92 hb4 S a E=>pld (hK91 _ _ (wp_ret (qCV ?_)))
 replace S:=S.nilrow qC.k 49
 replace S:=S.pm [0] 4
 obtain rfl:=si H
 exact ret1 E rfl (.cell (by kernel_rfl) (qCk [iv 0,iv 0,iv 0,iv 0,.slice none 0 0,.slice none 0 0,.slice none 0 0] ag26 sz26 hb4 rfl) .nil) ⟨_,rfl,_,_,_,_,_,_,_,rfl,S,(Rd.nil _ _),(Rd.nil _ _)⟩
def qBo.f(k:Nat)(x:qE):Option Bool:=(acceptor_CheckDelta.f k x).bind fun t6=>(some (!(t6 == 0)))
def qBo.Post(W F:World)(r:Bool)(v:Value)(w':World):Prop:=∃(F':World),v = .bool r∧Sm W F w' F' []
theorem qBo.calls(k:Nat)(x:qE)(A0_6:OA)(c0_6:Nat)(r:Bool)(W F:World)(hown:Sub F W)(g0_6:Rd ki F A0_6 c0_6 x.f6)(H:qBo.f k x=some r):
    Cr 152 #[.agg #[iv x.f0,iv x.f1,iv x.f2,iv x.f3,iv x.f4,iv x.f5,.slice A0_6 x.f6.length c0_6]] W (qBo.Post W F r):=by
 have S:=St.start (Own.nil hown)
 unfold qBo.f at H
 refine ent 6 rfl rfl rfl (fun a E=>?_)
 refine sq fun K1 hK1=>pl0 (plx (t:=40) E S [iv x.f0,iv x.f1,iv x.f2,iv x.f3,iv x.f4,iv x.f5,.slice A0_6 x.f6.length c0_6] fun b2 u3 hb2 S a E=>plc E (.r 1 1 .nil) (fun a E=>pld (hK1 _ _ (sq fun K4 hK4=>pl0 (plc E (.bn 0 0 7 hb2 .nil) (fun a E=>?_))))))
 obtain ⟨t6,h7,H⟩:=bd H
 refine plq E S en97 (acceptor_CheckDelta.calls k x _ _ _ _ _ S.own.sub g0_6 h7) fun u5 S a E=>plc E (.r 2 2 .nil) (fun a E=>pld (hK4 _ _ (wp_ret ?_)))
 replace S:=S.tail
 obtain rfl:=si H
 exact rt1 E ⟨_,rfl,_,rfl,S⟩
def qX.l5:Nat→List qE→Int→Option Int
 | 0,_,_=>none
 | k+1,x,x4=>if x4<(x.length:Int) then (if 0≤x4∧x4<(x.length:Int) then ((qBo.f k (nth qE.z x x4)).bind fun t24=>(if t24=true then (some x4) else (qX.l5 k x (w64 (x4+1))))) else (none)) else (some (-1))
theorem qX.l5_s k x x4:type_of% (qX.l5.eq_2 x x4 k):=qX.l5.eq_2 x x4 k
def qX.f(k:Nat)(x:List qE):Option Int:=qX.l5 k x 0
def qX.Post(W F:World)(r:Int)(v:Value)(w':World):Prop:=∃(F':World),v=iv r∧Sm W F w' F' []
theorem qX.calls(k:Nat)(x:List qE)(A0_0:OA)(c0_0:Nat)(r:Int)(W F:World)(hown:Sub F W)(g0_0:Rd qE.k F A0_0 c0_0 x)(H:qX.f k x=some r):
    Cr 189 #[.slice A0_0 x.length c0_0,.func (.func 152) #[] #[]] W (qX.Post W F r):=by
 have S:=St.start (Own.nil hown)
 unfold qX.f at H
 refine ent 19 rfl rfl rfl (fun a E=>?_)
 refine rr E fun a E=>(sq fun K2 hK2=>rr E fun a E=>(wp_block ?_))
 refine wp_loop_ghost (fun kq6 a w'=>∃(G:NV)(x4:Int),kq6≤k∧Env 19 G a∧At G [(0,.slice A0_0 x.length c0_0),(1,.func (.func 152) #[] #[]),(7,iv (x.length:Int)),(8,iv x4)]∧Sm W F w' F []∧qX.l5 kq6 x x4=some r) k ⟨_,0,Nat.le_refl _,E,.of,S,H⟩ ?_
 rintro kq6 a u8 ⟨G,x4,hkq,E,A,S,H⟩
 obtain _ | k7:=kq6
 exact zz H
 rw [qX.l5_s]at H
 obtain ⟨J,E⟩:=E.at A
 refine rr E fun a E=>(sq fun K10 hK10=>E.ik 9 H (fun c11 E H=>?_) fun c11 E H=>?_)
 refine wp_skip (hK10 _ _ (sq fun K12 hK12=>wp_block (rr E fun a E=>(sq fun K14 hK14=>pl0 ?_))))
 obtain ⟨c15,H⟩:=gd H
 have hE_:=E
 obtain ⟨ad16,rfl⟩:=g0_0.addr c15.1 c15.2
 replace E:=hE_
 obtain ⟨cs18,⟨A20,c21,rfl,g22⟩,hc19⟩:=g0_0.el qE.z x4 c15.1 c15.2
 refine plc E (.r 0 3<|.x 3 c15<|.cs 4 (S.fcs hc19)<|.nil) (fun a E=>?_)
 obtain ⟨t24,h25,H⟩:=bd H
 refine plq E S en152 (qBo.calls k7 (nth qE.z x x4) _ _ _ _ _ S.own.sub g22 h25) fun u23 S a E=>pld (hK14 _ _ (E.ib 16 H (fun c26 E H=>?_) fun c26 E H=>?_))
 refine rr E fun a E=>(wp_ret (qCW (qCV (qCV (qCW (qCV ?_))))))
 obtain rfl:=si H
 exact rt1 E ⟨_,rfl,_,rfl,S⟩
 refine wp_skip ?_
 refine qCX ?_
 refine hK12 _ _ (pl0 (plc E (.r 0 2 .nil) (fun a E=>pld ?_)))
 exact qCY ⟨k7,by omega,_,(w64 (x4+1)),by omega,E,.of,S,H⟩
 refine wp_exit ?_
 refine hK2 _ _ (rr E fun a E=>(wp_ret ?_))
 obtain rfl:=si H
 exact rt1 E ⟨_,rfl,_,rfl,S⟩
def qu.f(k:Nat)(x:List qE):Option Bool:=(qX.f k x).bind fun t4=>(some (decide (t4≥0)))
def qu.Post(W F:World)(r:Bool)(v:Value)(w':World):Prop:=∃(F':World),v = .bool r∧Sm W F w' F' []
theorem qu.calls(k:Nat)(x:List qE)(A0_0:OA)(c0_0:Nat)(r:Bool)(W F:World)(hown:Sub F W)(g0_0:Rd qE.k F A0_0 c0_0 x)(H:qu.f k x=some r):
    Cr 151 #[.slice A0_0 x.length c0_0,.func (.func 152) #[] #[]] W (qu.Post W F r):=by
 have S:=St.start (Own.nil hown)
 unfold qu.f at H
 refine ent 9 rfl rfl rfl (fun a E=>?_)
 refine rr E fun a E=>(sq fun K2 hK2=>pl0 (plc E (.r 0 2 .nil) (fun a E=>?_)))
 obtain ⟨t4,h5,H⟩:=bd H
 refine plq E S en189 (qX.calls k x _ _ _ _ _ S.own.sub g0_0 h5) fun u3 S a E=>plc E (.r 3 2 .nil) (fun a E=>pld (hK2 _ _ (wp_ret ?_)))
 obtain rfl:=si H
 exact rt1 E ⟨_,rfl,_,rfl,S⟩
end Go.Proofs.YtpohepinmjmbkaaGreat.PP
